/- Part of the proof. -/
import Derived.Test.YtddgnfnfojoljaaProofReasonsSh
import Derived.Test.YtddgnfnfojoljaaProofReasonsRd
import Derived.KernelRfl
set_option linter.all false
namespace Go.Sh
open Go Go.Eng
theorem Zbc {x:Int}(h : -9223372036854775808<=x)(h2:x<=9223372036854775807):w64 x=x:=by
 unfold w64 IntKind.wrap
 simp only [IntKind.bits,IntKind.signed]
 by_cases h0:0<=x
 ·have:x%(2 ^ 64:Int)=x:=Int.emod_eq_of_lt h0 (by omega)
  simp only [this]
  rw [Z1]
  simp;omega
 have:x%(2 ^ 64:Int)=x+2 ^ 64:=by
  rw [← Int.add_emod_right]
  exact Int.emod_eq_of_lt (by omega) (by omega)
 simp only [this]
 rw [Z2]
 ·omega
 simp;omega
theorem ZjJ {σ ρ:Type}(body:σ->Option (σ⊕ρ))(m:Nat)(x:σ):ZaO body (m+1) x=match body x with
  | none=>none
  | some (.inl y)=>ZaO body m y
  | some (.inr r)=>some r:=rfl
theorem Zcr {σ ρ:Type}{body:σ->Option (σ⊕ρ)}{m:Nat}{x y:σ}(h:body x=some (.inl y)):ZaO body (m+1) x=ZaO body m y:=by rw [ZjJ,h]
theorem Za7 {σ ρ:Type}{body:σ->Option (σ⊕ρ)}{m:Nat}{x:σ}{r:ρ}(h:body x=some (.inr r)):ZaO body (m+1) x=some r:=by rw [ZjJ,h]
theorem Zbs {σ ρ:Type}{body:σ->Option (σ⊕ρ)}(I:σ->Prop)(μ:σ->Nat)(Post:ρ->Prop)
  (step:∀ x,I x->(∃ y,body x=some (.inl y)/\I y/\μ y<μ x)∨(∃ r,body x=some (.inr r)/\Post r)):∀ (N:Nat) (x:σ),I x->μ x<N->∃ r,ZaO body N x=some r/\Post r
 | 0,x,_,h=>by omega
 | N+1,x,hI,h=>by
  rcases step x hI with ⟨y,h1,h2,h3⟩|⟨r,h1,h2⟩
  ·rw [Zcr h1]
   exact Zbs I μ Post step N y h2 (by omega)
  exact ⟨r,by rw [Za7 h1],h2⟩
theorem ZeT {α:Type}(l:List α)(k:Nat):idx l (k:Int)=l[k]?:=by
 unfold idx
 rw [Z2 (by omega)]
 rfl
theorem Zof {α:Type}{l:List α}{i:Int}(h0:0<=i)(h:i.toNat<l.length):idx l i=some l[i.toNat]:=by
 unfold idx
 rw [Z2 h0]
 exact Zy h
theorem Zbx {a b:Int}(h:b≠0):remI a b=some (a.tmod b):=by unfold remI;rw [Z1 h]
theorem ZoR {k:IntKind}{a b:Int}(h:b≠0):quoI k a b=some (k.wrap (a.tdiv b)):=by unfold quoI;rw [Z1 h]
theorem ZfJ {α:Type}{l:List α}{k:Nat}(h:k<l.length):l.drop k=l[k]::l.drop (k+1):=List.drop_eq_getElem_cons h
theorem Zj6 {a b:Int}(hb:0<b):(a.tmod b+b).tmod b=a%b:=by
 have h1:0<=a.tmod b+b:=by have:=Int.lt_tmod_of_pos a hb;omega
 rw [Zj h1,Int.add_emod_right]
 rw [Int.tmod_eq_emod]
 split
 ·simp
 have:(b.natAbs:Int)=b:=by omega
 rw [this]
 simp
theorem ZiR {α ρ:Type}{l:List α}{p:α->Bool}{body:Int->Option (Int⊕ρ)}{bad fin:ρ}(hstep:∀ (k:Nat) (h:k<l.length),body (k:Int)=if p l[k]=true then some (.inl ((k+1:Nat):Int)) else some (.inr bad))
  (hend:body (l.length:Int)=some (.inr fin)):∀ (n N k:Nat),l.length-k=n->k<=l.length->n<N->ZaO body N (k:Int)=some (if (l.drop k).all p then fin else bad):=by
 intro n
 induction n with
 | zero =>
  intro N k hn hk hN
  have:k=l.length:=by omega
  subst this
  cases N with
  | zero=>omega
  | succ N=>rw [Za7 hend];simp
 | succ n ih =>
  intro N k hn hk hN
  cases N with
  | zero=>omega
  | succ N =>
   have hlt:k<l.length:=by omega
   rw [ZfJ hlt,List.all_cons]
   by_cases hp:p l[k]=true
   ·rw [Zcr (by rw [hstep k hlt,Z2 hp]),ih N (k+1) (by omega) (by omega) (by omega)]
    simp [hp]
   rw [Za7 (by rw [hstep k hlt,Z1 hp])]
   simp [hp]
end Go.Sh

namespace Go.Sh
open Go Go.Eng
def VSpan (s:Zaj):Prop:=1<=s.Period/\s.Period<=960/\0<=s.From/\s.From<s.Period/\1<=s.Long/\s.Long<=s.Period
instance (s:Zaj):Decidable (VSpan s):=by unfold VSpan;infer_instance
theorem Zea (N:Nat)(s:Zaj):Zcf N s=some (if VSpan s then 0 else 330):=by
 unfold Zcf
 by_cases h:VSpan s
 ·rw [Z2 h]
  unfold VSpan at h
  rw [Z1 (by simp;omega),Z1 (by simp;omega)]
 rw [Z1 h]
 unfold VSpan at h
 by_cases h1:((decide (s.Period<1))||((decide (s.Period>960))||((decide (s.From<0))||(decide (s.From≥s.Period)))))=true
 ·rw [Z2 h1]
 rw [Z1 h1,Z2]
 simp at h1 ⊢
 omega
theorem Zji (N:Nat){a b:Int}(hb:0<b)(hb2:b<=1000000):Zes N a b=some (a%b):=by
 unfold Zes
 have h1:=Int.lt_tmod_of_pos a hb
 have h2:=Int.tmod_lt_of_pos a hb
 rw [Zbx (by omega),ZU,Zbc (by omega) (by omega),Zbx (by omega),ZU,Zj6 hb]
theorem Zlb (N:Nat){a b:Int}(hb:0<b)(hb2:b<=1000000):Zfx N a b=some (a%b):=by
 unfold Zfx
 have h1:=Int.lt_tmod_of_pos a hb
 have h2:=Int.tmod_lt_of_pos a hb
 have h3:=Zj6 (a:=a) hb
 rw [Zbx (by omega),ZU]
 by_cases h:a.tmod b<0
 ·rw [Z2 (by simpa using h),ZU,Zbc (by omega) (by omega)]
  rw [Int.tmod_eq_of_lt (by omega) (by omega)] at h3
  rw [h3]
 rw [Z1 (by simpa using h),ZU]
 rw [← h3,show a.tmod b+b=a.tmod b+b*1 by omega]
 have e:(a.tmod b+b).tmod b=(a.tmod b+b)%b:=Zj (by omega)
 rw [Int.mul_one,e,Int.add_emod_right]
 rw [Int.emod_eq_of_lt (by omega) (by omega)]
theorem ZhN (M:Nat):∀ (b N a:Nat),b<N->ZaO (λx:Int×Int=>ZbV M x.1 x.2) N ((a:Int),(b:Int))=some (Nat.gcd a b:Int):=by
 intro b
 induction b using Nat.strongRecOn with
 | _ b ih =>
  intro N a hN
  cases N with
  | zero=>omega
  | succ N =>
   by_cases hb:b=0
   ·subst hb
    rw [Za7 (r:=(a:Int))]
    ·simp
    simp [ZbV]
   have hlt:=Nat.mod_lt a (Nat.pos_of_ne_zero hb)
   rw [Zcr (y:=((b:Int),((a%b:Nat):Int)))]
   ·rw [ih (a%b) hlt N b (by omega)]
    rw [Nat.gcd_comm a b,Nat.gcd_rec b a,Nat.gcd_comm (a%b) b]
   simp only [ZbV]
   rw [Z2 (by simp;omega),Zbx (by omega),ZU,Zj (by omega)]
   rfl
theorem Zf7 {N:Nat}{a b:Int}(ha:0<=a)(hb:0<=b)(hN:b.toNat<N):ZdK N a b=some (Nat.gcd a.toNat b.toNat:Int):=by
 unfold ZdK
 have:=ZhN N b.toNat N a.toNat hN
 rw [Zl ha,Zl hb] at this
 rw [this]
 rfl
theorem Zdm {a d:Int}(hd:0<d)(ha:0<=a):a.tmod d=0↔d.toNat∣a.toNat:=by
 rw [Zj ha]
 constructor
 ·intro h
  have h1:d∣a:=Int.dvd_of_emod_eq_zero h
  rw [← Zl ha,← Zl (show 0<=d by omega)] at h1
  exact Int.natCast_dvd_natCast.1 h1
 intro h
 have:((d.toNat:Nat):Int)∣((a.toNat:Nat):Int):=Int.natCast_dvd_natCast.2 h
 rw [Zl ha,Zl (by omega)] at this
 exact Int.emod_eq_zero_of_dvd this
theorem Zjo (M:Nat){a b:Int}(ha:1<=a)(hb:1<=b)(ha2:a<=1000000):∀ (d:Nat) (N:Nat),d<N->(d:Int)<=a->(∀ e:Nat,d<e->¬ (e∣a.toNat/\e∣b.toNat)) →
  ∃ r,ZaO (λx:Int=>Zcd M a b x) N (d:Int)=some r/\(match r with | .inl _=>(1:Int) | .inr p=>p)=(Nat.gcd a.toNat b.toNat:Int):=by
 intro d
 induction d with
 | zero =>
  intro N hN _ hall
  exfalso
  exact hall 1 (by omega) ⟨Nat.one_dvd _,Nat.one_dvd _⟩
 | succ d ih =>
  intro N hN hle hall
  cases N with
  | zero=>omega
  | succ N =>
   have hgpos:0<Nat.gcd a.toNat b.toNat:=Nat.gcd_pos_of_pos_left _ (by omega)
   have hgle:Nat.gcd a.toNat b.toNat<=d+1:=by
    rcases Nat.lt_or_ge (d+1) (Nat.gcd a.toNat b.toNat) with h|h
    ·exact absurd ⟨Nat.gcd_dvd_left _ _,Nat.gcd_dvd_right _ _⟩ (hall _ h)
    exact h
   by_cases h1:d=0
   ·subst h1
    refine ⟨.inl (),Za7 (by simp [Zcd]),?_⟩
    simp only
    omega
   have hd1:((d+1:Nat):Int)>1:=by omega
   by_cases h2:(d+1)∣a.toNat/\(d+1)∣b.toNat
   ·refine ⟨.inr ((d+1:Nat):Int),Za7 ?_,?_⟩
    ·simp only [Zcd]
     rw [Z2 (by simpa using hd1),Zbx (by omega),ZU,Z2,Zbx (by omega),ZU]
     ·simp only [ZU]
      rw [Z2]
      simp only [beq_iff_eq]
      exact (Zdm (by omega) (by omega)).2 (by simpa using h2.2)
     simp only [beq_iff_eq]
     exact (Zdm (by omega) (by omega)).2 (by simpa using h2.1)
    simp only
    have:d+1∣Nat.gcd a.toNat b.toNat:=Nat.dvd_gcd h2.1 h2.2
    have:=Nat.le_of_dvd hgpos this
    omega
   rw [Zcr (y:=(d:Int))]
   ·refine ih N (by omega) (by omega) λe he hd=>?_
    by_cases h3:e=d+1
    ·subst h3;exact h2 hd
    exact hall e (by omega) hd
   simp only [Zcd]
   rw [Z2 (by simpa using hd1),Zbx (by omega),ZU]
   have hiff1:=Zdm (a:=a) (d:=((d+1:Nat):Int)) (by omega) (by omega)
   have hiff2:=Zdm (a:=b) (d:=((d+1:Nat):Int)) (by omega) (by omega)
   simp only [Zk] at hiff1 hiff2
   by_cases h4:a.tmod ((d+1:Nat):Int)=0
   ·rw [Z2 (by simpa using h4),Zbx (by omega),ZU,ZU,Z1,Zbc (by omega) (by omega)]
    ·congr 2;omega
    simp only [beq_iff_eq]
    intro h5
    exact h2 ⟨hiff1.1 h4,hiff2.1 h5⟩
   rw [Z1 (by simpa using h4),ZU,Z1 (by simp),Zbc (by omega) (by omega)]
   congr 2;omega
theorem Zld {N:Nat}{a b:Int}(ha:1<=a)(hb:1<=b)(ha2:a<=1000000)(hN:a.toNat<N):Zfy N a b=some (Nat.gcd a.toNat b.toNat:Int):=by
 unfold Zfy
 obtain ⟨r,h1,h2⟩:=Zjo N ha hb ha2 a.toNat N hN (by omega) (λe he hd=>by
  have:=Nat.le_of_dvd (by omega) hd.1
  omega)
 rw [Zl (by omega)] at h1
 rw [h1,ZU,← h2]
 cases r<;>rfl
def gP (a b:Zaj):Int:=(Nat.gcd a.Period.toNat b.Period.toNat:Int)
theorem Zok {a b:Zaj}(ha:1<=a.Period):0<gP a b:=by
 have:0<Nat.gcd a.Period.toNat b.Period.toNat:=Nat.gcd_pos_of_pos_left _ (by omega)
 unfold gP;omega
theorem ZpN {a b:Zaj}(ha:1<=a.Period):gP a b<=a.Period:=by
 have:=Nat.le_of_dvd (by omega:0<a.Period.toNat) (Nat.gcd_dvd_left a.Period.toNat b.Period.toNat)
 unfold gP;omega
theorem Zmj {a b:Zaj}(ha:1<=a.Period):gP a b∣a.Period:=by
 have:=Int.natCast_dvd_natCast.2 (Nat.gcd_dvd_left a.Period.toNat b.Period.toNat)
 rwa [Zl (by omega)] at this
theorem ZlE {a b:Zaj}(hb:1<=b.Period):gP a b∣b.Period:=by
 have:=Int.natCast_dvd_natCast.2 (Nat.gcd_dvd_right a.Period.toNat b.Period.toNat)
 rwa [Zl (by omega)] at this
def SepD (a b:Zaj)(d:Int):Prop:=a.Long<=d%gP a b/\d%gP a b<=gP a b-b.Long
instance (a b:Zaj) (d:Int):Decidable (SepD a b d):=by unfold SepD;infer_instance
theorem ZnP {al bl d g:Int}(hg:0<g)(ha:1<=al)(hb:1<=bl):(∀ x,1-bl<=x->x<al->(d-x)%g≠0)↔(al<=d%g/\d%g<=g-bl):=by
 have h0:=Int.emod_nonneg d (show g≠0 by omega)
 have h1:=Int.emod_lt_of_pos d hg
 have hd:=Int.mul_ediv_add_emod d g
 constructor
 ·intro h
  constructor
  ·rcases Int.lt_or_le (d%g) al with hlt|hle
   ·exfalso
    refine h (d%g) (by omega) hlt ?_
    have:d-d%g=g*(d/g):=by omega
    rw [this]
    exact Int.mul_emod_right _ _
   exact hle
  rcases Int.lt_or_le (g-bl) (d%g) with hlt|hle
  ·exfalso
   refine h (d%g-g) (by omega) (by omega) ?_
   have:d-(d%g-g)=g*(d/g+1):=by rw [Int.mul_add];omega
   rw [this]
   exact Int.mul_emod_right _ _
  exact hle
 rintro ⟨h2,h3⟩ x hx1 hx2 hx
 obtain ⟨q,hq⟩:=Int.dvd_of_emod_eq_zero hx
 have e:d%g-x=g*(q-d/g):=by rw [Int.mul_sub];omega
 generalize q-d/g=k at e
 rcases Int.lt_trichotomy k 0 with hk|hk|hk
 ·have:g*k<=g*(-1):=Int.mul_le_mul_of_nonneg_left (by omega) (by omega)
  omega
 ·subst hk;omega
 have:g*1<=g*k:=Int.mul_le_mul_of_nonneg_left (by omega) (by omega)
 omega
end Go.Sh

namespace Go.Sh
open Go Go.Eng
theorem VSpan.bounds {s:Zaj}(h:VSpan s):1<=s.Period/\s.Period<=960/\0<=s.From/\s.From<s.Period/\1<=s.Long/\s.Long<=s.Period:=h
theorem Zg2 {N:Nat}(hN:2000<=N){a b:Zaj}(ha:1<=a.Period)(ha2:a.Period<=960)(hb:1<=b.Period)(hb2:b.Period<=960)(haf:0<=a.From)(haf2:a.From<=960)(hbf:0<=b.From)(hbf2:b.From<=960)
  (hal:1<=a.Long) (hal2:a.Long<=960) (hbl:1<=b.Long) (hbl2:b.Long<=960):ZcA N a b=some (decide (SepD a b (b.From-a.From))):=by
 unfold ZcA
 rw [Zld ha hb (by omega) (by omega),ZU]
 have hg0:0<gP a b:=Zok ha
 have hg1:gP a b<=a.Period:=ZpN ha
 have key:∀ (n:Nat) (M:Nat) (x:Int),(a.Long-x).toNat=n->1-b.Long<=x->n<M->(∀ y,1-b.Long<=y->y<x->(b.From-a.From-y)%gP a b≠0) →
   ∃ r,ZaO (λx:Int=>Za1 N a b (gP a b) x) M x=some r/\(match r with | .inl _=>true | .inr p=>p)=decide (SepD a b (b.From-a.From)):=by
  intro n
  induction n with
  | zero =>
   intro M x hn hx hM hall
   cases M with
   | zero=>omega
   | succ M =>
    refine ⟨.inl (),Za7 (by simp only [Za1];rw [Z1 (by simp;omega)]),?_⟩
    symm
    simp only [ZZ]
    refine (ZnP hg0 hal hbl).1 λy h1 h2=>hall y h1 (by omega)
  | succ n ih =>
   intro M x hn hx hM hall
   cases M with
   | zero=>omega
   | succ M =>
    have hlt:x<a.Long:=by omega
    have e1:w64 (b.From-a.From)=b.From-a.From:=Zbc (by omega) (by omega)
    have e2:w64 (b.From-a.From-x)=b.From-a.From-x:=Zbc (by omega) (by omega)
    have hbody:Za1 N a b (gP a b) x=if ((b.From-a.From-x)%gP a b==0)=true then some (.inr (.inr false)) else some (.inl (w64 (x+1))):=by
     simp only [Za1]
     rw [Z2 (by simpa using hlt),e1,e2,Zlb N hg0 (by omega),ZU]
    by_cases h0:(b.From-a.From-x)%gP a b=0
    ·refine ⟨.inr false,Za7 (by rw [hbody,Z2 (by simpa using h0)]),?_⟩
     symm
     simp only [decide_eq_false_iff_not]
     intro hs
     exact (ZnP hg0 hal hbl).2 hs x hx hlt h0
    rw [Zcr (y:=x+1) (by rw [hbody,Z1 (by simpa using h0),Zbc (by omega) (by omega)])]
    refine ih M (x+1) (by omega) (by omega) (by omega) λy h1 h2=>?_
    by_cases h3:y=x
    ·subst h3;exact h0
    exact hall y h1 (by omega)
 rw [Zbc (by omega) (by omega)]
 obtain ⟨r,h1,h2⟩:=key (a.Long-(1-b.Long)).toNat N (1-b.Long) rfl (Int.le_refl _) (by omega) (λy h1 h2=>by omega)
 show (ZaO (λx:Int=>Za1 N a b (gP a b) x) N (1-b.Long)).bind _=_
 rw [h1,ZU,← h2]
 cases r<;>rfl
theorem VSpan.separate {N:Nat}(hN:2000<=N){a b:Zaj}(ha:VSpan a)(hb:VSpan b):ZcA N a b=some (decide (SepD a b (b.From-a.From))):=by
 obtain ⟨a1,a2,a3,a4,a5,a6⟩:=ha
 obtain ⟨b1,b2,b3,b4,b5,b6⟩:=hb
 exact Zg2 hN a1 a2 b1 b2 a3 (by omega) b3 (by omega) a5 (by omega) b5 (by omega)
theorem Zio {N:Nat}(hN:2000<=N){a b:Zaj}(ha:VSpan a)(hb:VSpan b):ZdW N a b=some (a.Long,gP a b-b.Long,gP a b):=by
 obtain ⟨a1,a2,a3,a4,a5,a6⟩:=ha
 obtain ⟨b1,b2,b3,b4,b5,b6⟩:=hb
 have hg0:0<gP a b:=Zok a1
 have hg1:gP a b<=a.Period:=ZpN a1
 unfold ZdW
 rw [Zf7 (by omega) (by omega) (by omega),ZU]
 show some (a.Long,w64 (gP a b-b.Long),gP a b)=_
 rw [Zbc (by omega) (by omega)]
theorem ZhP {N:Nat}(hN:2000<=N){a b:Zaj}(ha:VSpan a)(hb:VSpan b):Zdo N a b=some (decide (SepD a b (b.From-a.From))):=by
 have hr:=Zio hN ha hb
 obtain ⟨a1,a2,a3,a4,a5,a6⟩:=ha
 obtain ⟨b1,b2,b3,b4,b5,b6⟩:=hb
 have hg0:0<gP a b:=Zok a1
 have hg1:gP a b<=a.Period:=ZpN a1
 unfold Zdo
 by_cases h:((a.Period==b.Period)&&((a.From==b.From)&&((a.Long==b.Long)&&true)))=true
 ·rw [Z2 h]
  simp only [Ze,beq_iff_eq,ZY] at h
  symm
  simp only [ZW,decide_eq_false_iff_not]
  unfold SepD
  rw [h.2.1,Int.sub_self,Int.zero_emod]
  omega
 rw [Z1 h,hr]
 simp only [ZU]
 rw [Zbc (by omega) (by omega),Zji N hg0 (by omega)]
 simp only [ZU,ZW]
 rw [Bool.eq_iff_iff,decide_eq_true_iff]
 simp only [Ze,ZZ,SepD]
theorem ZhT {N:Nat}(hN:2000<=N)(a b:Zaj):Zdq N a b=some (if VSpan a/\VSpan b then (decide (SepD a b (b.From-a.From)),0) else (false,330)):=by
 unfold Zdq
 rw [Zea,Zea]
 simp only [ZU]
 by_cases ha:VSpan a
 ·by_cases hb:VSpan b
  ·simp only [ha,hb,Z3,and_self,bne_self_eq_false,Zf,Z0,ZhP hN ha hb,ZU]
  simp [ha,hb]
 simp [ha]
end Go.Sh
namespace Go.Sh
open Go Go.Eng
theorem ZbD {α:Type}{b:Nat}{l m:List α}(h:l.length+m.length<=100000)(hb:b<=100000):appI b l m=some (l++m):=by
 unfold appI
 rw [Z2]
 have:(l.length+m.length)*b<=100000*100000:=Nat.mul_le_mul h hb
 omega
def allV (l:List Zaj):Bool:=l.all λs=>decide (VSpan s)
theorem Zgk {N:Nat}(hN:100<=N)(l:List Zaj):Zco N l=some (if 32<l.length then 3 else if allV l then 0 else 330):=by
 unfold Zco
 by_cases h:32<l.length
 ·rw [Z2 (by simp;omega),Z2 h]
 rw [Z1 (by simp;omega),Z1 h]
 have:=ZiR (l:=l) (p:=λs=>decide (VSpan s)) (body:=λx:Int=>Zbb N l x) (bad:=.inr 330) (fin:=.inl ()) (λk hk=>by
  simp only [Zbb]
  rw [Z2 (by simpa using hk),ZeT,Zy hk,ZU,Zea,ZU]
  by_cases hv:VSpan l[k]
  ·simp only [hv,Z3,bne_self_eq_false,Zf,Z0,decide_true]
   rw [Zbc (by omega) (by omega)];simp
  simp [hv]) (by simp [Zbb]) l.length N 0 (by omega) (by omega) (by omega)
 rw [show ((0:Nat):Int)=0 from rfl] at this
 rw [this,ZU,List.drop_zero]
 have e:(l.all λs=>decide (VSpan s))=allV l:=rfl
 rw [e]
 cases allV l<;>rfl
def shift (b:Zaj)(k:Int):Zaj:=⟨b.Period,(b.From+k)%b.Period,b.Long⟩
end Go.Sh
namespace Go.Sh
open Go Go.Eng
def lcmP:List Zaj->Nat
 | []=>1
 | s::l=>Nat.lcm s.Period.toNat (lcmP l)
theorem ZmQ:∀ {l:List Zaj},(∀ s∈l,VSpan s)->0<lcmP l
 | [],_=>by decide
 | s::l,h=>by
  have h1:=(h s (by simp)).bounds
  exact Nat.lcm_pos (by omega) (ZmQ λt ht=>h t (by simp [ht]))
theorem ZhA:∀ {l:List Zaj} {n:Nat},lcmP l∣n↔∀ s∈l,s.Period.toNat∣n
 | [],n=>by simp [lcmP]
 | s::l,n=>by
  simp only [lcmP,List.mem_cons,forall_eq_or_imp]
  rw [Nat.lcm_dvd_iff,ZhA]
theorem Zg0 {N:Nat}(hN:2000<=N){ps:List Int}(hps:∀ p∈ps,1<=p/\p<=960):∀ (n M k:Nat) (m:Nat),ps.length-k=n->k<=ps.length->n<M->1<=m->m<=960->ps.length<=1000 →
  ∃ r,ZaO (λx:Int×Int=>Zbf N 960 ps x.1 x.2) M ((m:Int),(k:Int))=some r ∧
   (r<=960->r=((ps.drop k).foldl (λa p=>Nat.lcm a p.toNat) m:Nat))/\(960<r->960<(ps.drop k).foldl (λa p=>Nat.lcm a p.toNat) m):=by
 have mono:∀ (l:List Int) (a:Nat),(∀ p∈l,1<=p)->0<a->a<=l.foldl (λa p=>Nat.lcm a p.toNat) a:=by
  intro l
  induction l with
  | nil=>intro a _ _;exact Nat.le_refl _
  | cons p l ih =>
   intro a hp ha
   simp only [List.foldl_cons]
   have h1:=hp p (by simp)
   have hpos:0<Nat.lcm a p.toNat:=Nat.lcm_pos ha (by omega)
   exact Nat.le_trans (Nat.le_of_dvd hpos (Nat.dvd_lcm_left _ _)) (ih _ (λq hq=>hp q (by simp [hq])) hpos)
 intro n
 induction n with
 | zero =>
  intro M k m hn hk hM hm hm2 hl
  have:k=ps.length:=by omega
  subst this
  cases M with
  | zero=>omega
  | succ M =>
   refine ⟨(m:Int),Za7 (by simp only [Zbf];rw [Z1 (by simp)]),λ_=>?_,λh=>?_⟩
   ·simp
   omega
 | succ n ih =>
  intro M k m hn hk hM hm hm2 hl
  cases M with
  | zero=>omega
  | succ M =>
   have hlt:k<ps.length:=by omega
   obtain ⟨p1,p2⟩:=hps ps[k] (List.getElem_mem hlt)
   have hg:0<Nat.gcd m ps[k].toNat:=Nat.gcd_pos_of_pos_left _ (by omega)
   have hq:(m:Int).tdiv (Nat.gcd m ps[k].toNat:Int)=((m/Nat.gcd m ps[k].toNat:Nat):Int):=by
    rw [Int.tdiv_eq_ediv_of_nonneg (by omega)];rfl
   have hqle:m/Nat.gcd m ps[k].toNat<=m:=Nat.div_le_self _ _
   have hmul:((m/Nat.gcd m ps[k].toNat:Nat):Int)*ps[k]=(Nat.lcm m ps[k].toNat:Int):=by
    have e1:ps[k]=(ps[k].toNat:Int):=by omega
    have e2:Nat.lcm m ps[k].toNat=m/Nat.gcd m ps[k].toNat*ps[k].toNat:=by
     rw [Nat.lcm,Nat.mul_comm m,Nat.mul_div_assoc _ (Nat.gcd_dvd_left _ _),Nat.mul_comm]
    rw [e2,Int.natCast_mul,← e1]
   have hlcm:Nat.lcm m ps[k].toNat<=960*960:=by
    have h1:m/Nat.gcd m ps[k].toNat*ps[k].toNat<=960*960:=Nat.mul_le_mul (by omega) (by omega)
    have e2:Nat.lcm m ps[k].toNat=m/Nat.gcd m ps[k].toNat*ps[k].toNat:=by
     rw [Nat.lcm,Nat.mul_comm m,Nat.mul_div_assoc _ (Nat.gcd_dvd_left _ _),Nat.mul_comm]
    omega
   have hlpos:0<Nat.lcm m ps[k].toNat:=Nat.lcm_pos (by omega) (by omega)
   have hbody:Zbf N 960 ps (m:Int) (k:Int)=if 960<Nat.lcm m ps[k].toNat then some (.inr (Nat.lcm m ps[k].toNat:Int)) else some (.inl ((Nat.lcm m ps[k].toNat:Int),((k+1:Nat):Int))):=by
    simp only [Zbf]
    rw [Z2 (by simpa using hlt),ZeT,Zy hlt,ZU,Zf7 (by omega) (by omega) (by omega),ZU,Zk,ZoR (by omega),ZU,hq]
    have hq0:(0:Int)<=((m/Nat.gcd m ps[k].toNat:Nat):Int):=Int.natCast_nonneg _
    have hq1:((m/Nat.gcd m ps[k].toNat:Nat):Int)<=960:=Int.ofNat_le.2 (Nat.le_trans hqle hm2)
    have e3:IntKind.i64.wrap ((m/Nat.gcd m ps[k].toNat:Nat):Int)=((m/Nat.gcd m ps[k].toNat:Nat):Int):=Zbc (Int.le_trans (by decide) hq0) (Int.le_trans hq1 (by decide))
    rw [e3,hmul,Zbc (by omega) (by omega),Zbc (by omega) (by omega)]
    by_cases hc:960<Nat.lcm m ps[k].toNat
    ·rw [Z2 (by simp;omega),Z2 hc]
    rw [Z1 (by simp;omega),Z1 hc];simp
   rw [ZfJ hlt,List.foldl_cons]
   by_cases hc:960<Nat.lcm m ps[k].toNat
   ·refine ⟨(Nat.lcm m ps[k].toNat:Int),Za7 (by rw [hbody,Z2 hc]),λh=>?_,λ_=>?_⟩
    ·omega
    exact Nat.lt_of_lt_of_le hc (mono _ _ (λq hq=>(hps q (List.mem_of_mem_drop hq)).1) hlpos)
   rw [Zcr (by rw [hbody,Z1 hc])]
   exact ih M (k+1) _ (by omega) (by omega) (by omega) (by omega) (by omega) hl
theorem ZjM:∀ (l:List Zaj) (m:Nat),(l.map Zaj.Period).foldl (λa p=>Nat.lcm a p.toNat) m=Nat.lcm m (lcmP l)
 | [],m=>by simp [lcmP,Nat.lcm_one_right]
 | s::l,m=>by simp only [ZM,List.foldl_cons,lcmP];rw [ZjM l,Nat.lcm_assoc]
def ZmT (l:List Zaj):Int×Int:=if 32<l.length then (0,3) else if allV l=true then (if lcmP l<=960 then ((lcmP l:Int),0) else (0,6)) else (0,330)
theorem Zm0 {l:List Zaj}(h:allV l=true):∀ s∈l,VSpan s:=by
 unfold allV at h
 rw [Zm] at h
 exact λs hs=>by simpa using h s hs
theorem ZhR {N:Nat}(hN:2000<=N)(l:List Zaj):Zdp N l=some (ZmT l):=by
 unfold Zdp ZmT
 rw [Zgk (by omega)]
 simp only [ZU]
 by_cases h:32<l.length
 ·simp [h]
 by_cases hv:allV l=true
 ·simp only [h,hv,Z3,Z0,bne_self_eq_false,Zf]
  have hmk:ZgK 8 (l.length:Int) (l.length:Int) (0:Int)=some (List.replicate l.length 0):=by
   unfold ZgK;rw [Z2 (by omega)];simp
  rw [hmk,ZU]
  have hloop:∀ (n M k:Nat),l.length-k=n->k<=l.length->n<M->ZaO (λx:Int×List Int=>Zbt N l x.1 x.2) M ((k:Int),(l.map Zaj.Period).take k++List.replicate (l.length-k) 0)=some (l.map Zaj.Period):=by
   intro n
   induction n with
   | zero =>
    intro M k hn hk hM
    have:k=l.length:=by omega
    subst this
    cases M with
    | zero=>omega
    | succ M =>
     refine Za7 ?_
     simp only [Zbt]
     rw [Z1 (by simp)]
     simp [List.take_of_length_le]
   | succ n ih =>
    intro M k hn hk hM
    cases M with
    | zero=>omega
    | succ M =>
     have hlt:k<l.length:=by omega
     have hc:=ih M (k+1) (by omega) (by omega) (by omega)
     rw [Zcr (y:=(((k+1:Nat):Int),(l.map Zaj.Period).take (k+1)++List.replicate (l.length-(k+1)) 0)),hc]
     simp only [Zbt]
     have hlen:((l.map Zaj.Period).take k++List.replicate (l.length-k) 0).length=l.length:=by simp;omega
     rw [Z2 (by simpa using hlt),ZeT,Zy hlt,ZU,ZeT,Zy (by omega),ZU,Zbc (by omega) (by omega)]
     have hset:List.set ((l.map Zaj.Period).take k++List.replicate (l.length-k) 0) k l[k].Period=(l.map Zaj.Period).take (k+1)++List.replicate (l.length-(k+1)) 0:=by
      rw [ZR _ _ (by simp;omega)]
      have e1:k-((l.map Zaj.Period).take k).length=0:=by simp;omega
      rw [e1,show l.length-k=(l.length-(k+1))+1 by omega,List.replicate_succ,List.set_cons_zero,List.take_succ_eq_append_getElem (by simpa using hlt)]
      simp
     simp only [Zk,hset]
     rfl
  have hc:=hloop l.length N 0 (by omega) (by omega) (by omega)
  simp only [List.take_zero,ZQ,Nat.sub_zero] at hc
  rw [show ((0:Nat):Int)=0 from rfl] at hc
  rw [hc,ZU]
  have hVl:=Zm0 hv
  obtain ⟨r,h1,h2,h3⟩:=Zg0 hN (ps:=l.map Zaj.Period) (λp hp=>by
   obtain ⟨s,hs,rfl⟩:=List.mem_map.1 hp
   have:=(hVl s hs).bounds;omega) l.length N 0 1 (by simp) (by omega) (by omega) (by omega) (by omega) (by simp;omega)
  rw [List.drop_zero,ZjM,Nat.lcm_one_left] at h2 h3
  have hf:ZdX N 960 (l.map Zaj.Period)=some r:=by
   unfold ZdX
   have h1':ZaO (λx:Int×Int=>Zbf N 960 (l.map Zaj.Period) x.1 x.2) N (1,0)=some r:=h1
   rw [h1',ZU]
  rw [hf,ZU]
  by_cases hc2:960<r
  ·rw [Z2 (by simpa using hc2),Z1 (by have:=h3 hc2;omega)]
  have:=h2 (by omega)
  rw [Z1 (by simpa using hc2),Z2 (by omega),this]
 simp [h,hv]
end Go.Sh
namespace Go.Sh
open Go Go.Eng
theorem ZnO {a b:Zaj}(ha:VSpan a)(hb:VSpan b)(k:Int):SepD (shift a k) (shift b k) ((shift b k).From-(shift a k).From)↔SepD a b (b.From-a.From):=by
 obtain ⟨a1,a2,a3,a4,a5,a6⟩:=ha.bounds
 obtain ⟨b1,b2,b3,b4,b5,b6⟩:=hb.bounds
 have hga:gP a b∣a.Period:=Zmj a1
 have hgb:gP a b∣b.Period:=ZlE b1
 have hg:gP (shift a k) (shift b k)=gP a b:=rfl
 have hd:((shift b k).From-(shift a k).From)%gP a b=(b.From-a.From)%gP a b:=by
  show ((b.From+k)%b.Period-(a.From+k)%a.Period)%gP a b=_
  rw [Int.sub_emod,Int.emod_emod_of_dvd _ hgb,Int.emod_emod_of_dvd _ hga,← Int.sub_emod]
  congr 1;omega
 unfold SepD
 rw [hg,hd]
 rfl
end Go.Sh
namespace Go.Sh
open Go Go.Eng
def allB (n:Nat)(p:Nat->Bool):Bool:=(List.range n).all p
theorem ZdU {n:Nat}{p:Nat->Bool}:allB n p=true↔∀ k,k<n->p k=true:=by simp [allB]
theorem ZjW {n:Nat}{p q:Nat->Bool}(h:∀ k,k<n->p k=q k):allB n p=allB n q:=by
 rw [Bool.eq_iff_iff,ZdU,ZdU]
 exact ⟨λhp k hk=>by rw [← h k hk];exact hp k hk,λhp k hk=>by rw [h k hk];exact hp k hk⟩
theorem Ze2 {ρ:Type}{n:Nat}{p:Nat->Bool}{body:Int->Option (Int⊕ρ)}{bad fin:ρ}(hstep:∀ k:Nat,k<n->body (k:Int)=if p k=true then some (.inl ((k+1:Nat):Int)) else some (.inr bad))
  (hend:body (n:Int)=some (.inr fin)) {N:Nat} (hN:n<N):ZaO body N 0=some (if allB n p then fin else bad):=by
 have key:∀ (m N k:Nat),n-k=m->k<=n->m<N->ZaO body N (k:Int)=some (if (List.range' k m).all p then fin else bad):=by
  intro m
  induction m with
  | zero =>
   intro N k h1 h2 h3
   obtain rfl:k=n:=by omega
   cases N with
   | zero=>omega
   | succ N=>rw [Za7 hend];rfl
  | succ m ih =>
   intro N k h1 h2 h3
   cases N with
   | zero=>omega
   | succ N =>
    rw [List.range'_succ,List.all_cons]
    by_cases hp:p k=true
    ·rw [Zcr (by rw [hstep k (by omega),Z2 hp]),ih N (k+1) (by omega) (by omega) (by omega),hp,Zi]
    rw [Za7 (by rw [hstep k (by omega),Z1 hp])]
    simp [hp]
 have:=key n N 0 (by omega) (by omega) hN
 rw [← List.range_eq_range'] at this
 exact this
theorem ZiQ {β ρ:Type}{n:Nat}{p:Nat->Bool}{f:β->Nat->β}{body:Int×β->Option ((Int×β)⊕ρ)}{bad:ρ}{fin:β->ρ}(I:Nat->β->Prop)
  (hstep:∀ k b,k<n->I k b->body ((k:Int),b)=if p k=true then some (.inl (((k+1:Nat):Int),f b k)) else some (.inr bad)) (hI:∀ k b,k<n->I k b->p k=true->I (k+1) (f b k))
  (hend:∀ b,I n b->body ((n:Int),b)=some (.inr (fin b))) {N:Nat} (hN:n<N) {b0:β} (h0:I 0 b0):ZaO body N (0,b0)=some (if allB n p then fin ((List.range n).foldl f b0) else bad)/\(allB n p=true->I n ((List.range n).foldl f b0)):=by
 have key:∀ (m N k:Nat) (b:β),n-k=m->k<=n->m<N->I k b->ZaO body N ((k:Int),b)=some (if (List.range' k m).all p then fin ((List.range' k m).foldl f b) else bad)/\((List.range' k m).all p=true->I n ((List.range' k m).foldl f b)):=by
  intro m
  induction m with
  | zero =>
   intro N k b h1 h2 h3 hb
   obtain rfl:k=n:=by omega
   cases N with
   | zero=>omega
   | succ N=>exact ⟨by rw [Za7 (hend b hb)];rfl,λ_=>hb⟩
  | succ m ih =>
   intro N k b h1 h2 h3 hb
   cases N with
   | zero=>omega
   | succ N =>
    rw [List.range'_succ,List.all_cons,List.foldl_cons]
    by_cases hp:p k=true
    ·obtain ⟨i1,i2⟩:=ih N (k+1) (f b k) (by omega) (by omega) (by omega) (hI k b (by omega) hb hp)
     rw [hp,Zi]
     exact ⟨by rw [Zcr (by rw [hstep k b (by omega) hb,Z2 hp]),i1],i2⟩
    refine ⟨?_,λh=>?_⟩
    ·rw [Za7 (by rw [hstep k b (by omega) hb,Z1 hp])];simp [hp]
    simp [hp] at h
 obtain ⟨h1,h2⟩:=key n N 0 b0 (by omega) (by omega) hN h0
 rw [← List.range_eq_range'] at h1 h2
 exact ⟨h1,h2⟩
theorem ZaS {n:Nat}(h:n<1000000):w64 ((n:Int)+1)=((n+1:Nat):Int):=by rw [Zbc (by omega) (by omega)];omega
theorem Zbl {α:Type}{l:List α}{k:Nat}(h:k<l.length):idx l (k:Int)=some l[k]:=by rw [ZeT,Zy h]
theorem ZeM {α:Type}{l:List α}{i:Int}(d:α)(h0:0<=i)(h:i<l.length):idx l i=some (l.getD i.toNat d):=by
 rw [Zof h0 (by omega)]
 simp [Zs,Zy (show i.toNat<l.length by omega)]
theorem Za2 {α:Type}{l:List α}{k:Nat}(h:k<l.length)(d:α):l.getD k d=l[k]:=by simp [Zs,h]
end Go.Sh

namespace Go.Sh
open Go Go.Eng
def mkS (p:Int):Zaj:=⟨p,0,1⟩
def perB (p:Int):Bool:=decide (1<=p)&&decide (p<=240)
def lcmL (P:List Int):Nat:=lcmP (P.map mkS)
def perU (P:List Int)(u:ZaJ):Int:=P.getD u.Stream.toNat 0
def useB (P:List Int)(u:ZaJ):Bool:=decide (0<=u.Stream/\u.Stream<(P.length:Int)/\0<=u.Port/\u.Port<48/\0<=u.From/\u.From<perU P u/\1<=u.Long/\u.Long<=perU P u)
def Zeh (p:Z8):Bool:=decide (p.Periods.length<=12)&&decide (p.Uses.length<=192)&&p.Periods.all perB&&p.Uses.all (useB p.Periods)&&decide (lcmL p.Periods<=960)
theorem ZgG {p:Int}:perB p=true↔1<=p/\p<=240:=by simp [perB]
theorem ZmZ {P:List Int}(h:P.all perB=true):allV (P.map mkS)=true:=by
 unfold allV
 rw [Zm] at h ⊢
 intro s hs
 obtain ⟨p,hp,rfl⟩:=List.mem_map.1 hs
 have:=ZgG.1 (h p hp)
 rw [ZZ]
 show 1<=p/\p<=960/\(0:Int)<=0/\(0:Int)<p/\(1:Int)<=1/\(1:Int)<=p
 omega
theorem Zkx {N:Nat}(hN:2000<=N){P:List Int}(hl:P.length<=1000):Zej N P=some (ZmT (P.map mkS)):=by
 unfold Zej
 have hmk:ZgK 24 (P.length:Int) (P.length:Int) (Zaj.mk 0 0 0)=some (List.replicate P.length (Zaj.mk 0 0 0)):=by
  unfold ZgK;rw [Z2 (by omega)];simp
 rw [hmk,ZU]
 have hloop:∀ (n M k:Nat),P.length-k=n->k<=P.length->n<M->ZaO (λx:Int×List Zaj=>Zcl N P x.1 x.2) M ((k:Int),(P.map mkS).take k++List.replicate (P.length-k) (Zaj.mk 0 0 0))=some (P.map mkS):=by
  intro n
  induction n with
  | zero =>
   intro M k hn hk hM
   have:k=P.length:=by omega
   subst this
   cases M with
   | zero=>omega
   | succ M =>
    refine Za7 ?_
    simp only [Zcl]
    rw [Z1 (by simp)]
    simp [List.take_of_length_le]
  | succ n ih =>
   intro M k hn hk hM
   cases M with
   | zero=>omega
   | succ M =>
    have hlt:k<P.length:=by omega
    have hc:=ih M (k+1) (by omega) (by omega) (by omega)
    rw [Zcr (y:=(((k+1:Nat):Int),(P.map mkS).take (k+1)++List.replicate (P.length-(k+1)) (Zaj.mk 0 0 0))),hc]
    simp only [Zcl]
    have hlen:((P.map mkS).take k++List.replicate (P.length-k) (Zaj.mk 0 0 0)).length=P.length:=by simp;omega
    rw [Z2 (by simpa using hlt),ZeT,Zy hlt,ZU,ZeT,Zy (by omega),ZU,Zbc (by omega) (by omega)]
    have hset:List.set ((P.map mkS).take k++List.replicate (P.length-k) (Zaj.mk 0 0 0)) k (mkS P[k])=(P.map mkS).take (k+1)++List.replicate (P.length-(k+1)) (Zaj.mk 0 0 0):=by
     rw [ZR _ _ (by simp;omega)]
     have e1:k-((P.map mkS).take k).length=0:=by simp;omega
     rw [e1,show P.length-k=(P.length-(k+1))+1 by omega,List.replicate_succ,List.set_cons_zero,List.take_succ_eq_append_getElem (by simpa using hlt)]
     simp
    simp only [Zk]
    rw [show (Zaj.mk P[k] 0 1)=mkS P[k] from rfl,hset]
    rfl
 have hc:=hloop P.length N 0 (by omega) (by omega) (by omega)
 simp only [List.take_zero,ZQ,Nat.sub_zero] at hc
 rw [show ((0:Nat):Int)=0 from rfl] at hc
 rw [hc,ZU,ZhR hN,ZU]
theorem ZkF {P:List Int}(h:P.all perB=true):0<lcmL P:=ZmQ (Zm0 (ZmZ h))
theorem ZhB {P:List Int}{n:Nat}:lcmL P∣n↔∀ p∈P,p.toNat∣n:=by
 unfold lcmL
 rw [ZhA]
 simp [mkS]
theorem ZiB {N:Nat}(hN:2000<=N){P:List Int}(hl:P.length<=12)(h:P.all perB=true):Zej N P=some (if lcmL P<=960 then ((lcmL P:Int),0) else (0,6)):=by
 rw [Zkx hN (by omega)]
 unfold ZmT
 rw [Z1 (by simp;omega),Z2 (ZmZ h)]
 rfl
theorem Zk9 {N:Nat}(hN:2000<=N){P:List Int}(hl:P.length<=12)(h:P.all perB=true):Zfw N P=some (if lcmL P<=960 then (lcmL P:Int) else 0):=by
 have hp:∀ p∈P,1<=p/\p<=240:=λp hp=>ZgG.1 (List.all_eq_true.1 h p hp)
 have inner:∀ (j:Nat),1<=j->j<=1000->∀ (n M k:Nat) (b:Bool),P.length-k=n->k<=P.length->n<M->ZaO (λx:Bool×Int=>ZcL N P (j:Int) x.1 x.2) M (b,(k:Int))=some (b&&(P.drop k).all (λp=>decide (p.toNat∣j))):=by
  intro j hj1 hj2 n
  induction n with
  | zero =>
   intro M k b hn hk hM
   have:k=P.length:=by omega
   subst this
   cases M with
   | zero=>omega
   | succ M=>rw [Za7 (r:=b) (by simp [ZcL])];simp
  | succ n ih =>
   intro M k b hn hk hM
   cases M with
   | zero=>omega
   | succ M =>
    have hlt:k<P.length:=by omega
    have hV:=hp P[k] (List.getElem_mem hlt)
    have hiff:=Zdm (a:=(j:Int)) (d:=P[k]) (by omega) (by omega)
    simp only [Zk] at hiff
    have hc:=ih M (k+1) (b&&decide (P[k].toNat∣j)) (by omega) (by omega) (by omega)
    rw [Zcr (y:=(b&&decide (P[k].toNat∣j),((k+1:Nat):Int))),hc,ZfJ hlt,List.all_cons,Bool.and_assoc]
    simp only [ZcL]
    rw [Z2 (by simpa using hlt)]
    cases b with
    | false=>simp only [Zf,Z0,ZU,Bool.false_and];rw [Zbc (by omega) (by omega)];rfl
    | true =>
     simp only [Z3,Zi]
     rw [ZeT,Zy hlt,ZU,Zbx (by omega),ZU]
     by_cases hd:P[k].toNat∣j
     ·rw [Z2 (by simpa using hiff.2 hd),ZU,Zbc (by omega) (by omega)]
      simp [hd]
     have:¬ (j:Int).tmod P[k]=0:=λe=>hd (hiff.1 e)
     rw [Z1 (by simpa using this),ZU,Zbc (by omega) (by omega)]
     simp [hd]
 have step:∀ j:Nat,1<=j->j<=960->Zcc N P (j:Int)=if lcmL P∣j then some (.inr (.inr (j:Int))) else some (.inl ((j+1:Nat):Int)):=by
  intro j h1 h2
  simp only [Zcc]
  rw [Z2 (by simp;omega)]
  have:=inner j h1 (by omega) P.length N 0 true (by omega) (by omega) (by omega)
  rw [show ((0:Nat):Int)=0 from rfl] at this
  rw [this,ZU,List.drop_zero,Zi]
  have e:(P.all (λp=>decide (p.toNat∣j))=true)↔lcmL P∣j:=by
   rw [ZhB,Zm]
   simp
  by_cases hd:lcmL P∣j
  ·rw [Z2 (e.2 hd),Z2 hd]
  rw [Z1 (λq=>hd (e.1 q)),Z1 hd,Zbc (by omega) (by omega)]
  congr 2
 have hpos:=ZkF h
 have key:∀ (n M j:Nat),961-j=n->1<=j->j<=961->n<M->(∀ i,1<=i->i<j->¬ lcmL P∣i)->∃ r,ZaO (λx:Int=>Zcc N P x) M (j:Int)=some r/\(match r with | .inl _=>(0:Int) | .inr p=>p)=if lcmL P<=960 then (lcmL P:Int) else 0:=by
  intro n
  induction n with
  | zero =>
   intro M j hn h1 h2 hM hno
   obtain rfl:j=961:=by omega
   cases M with
   | zero=>omega
   | succ M =>
    refine ⟨.inl (),Za7 (by simp [Zcc]),?_⟩
    rw [Z1]
    intro hle
    exact hno (lcmL P) (by omega) (by omega) (Nat.dvd_refl _)
  | succ n ih =>
   intro M j hn h1 h2 hM hno
   cases M with
   | zero=>omega
   | succ M =>
    by_cases hd:lcmL P∣j
    ·refine ⟨.inr (j:Int),Za7 (by rw [step j h1 (by omega),Z2 hd]),?_⟩
     have hle:=Nat.le_of_dvd (by omega) hd
     have:lcmL P=j:=by
      by_cases e:lcmL P=j
      ·exact e
      exact absurd (Nat.dvd_refl _) (hno (lcmL P) (by omega) (by omega))
     rw [Z2 (by omega),this]
    rw [Zcr (by rw [step j h1 (by omega),Z1 hd])]
    refine ih M (j+1) (by omega) (by omega) (by omega) (by omega) λi hi1 hi2=>?_
    by_cases e:i=j
    ·subst e;exact hd
    exact hno i hi1 (by omega)
 unfold Zfw
 obtain ⟨r,h1,h2⟩:=key 960 N 1 (by omega) (by omega) (by omega) (by omega) (λi h1 h2=>by omega)
 rw [show ((1:Nat):Int)=1 from rfl] at h1
 rw [h1,ZU,← h2]
 cases r<;>rfl
theorem Zen {α ρ:Type}{l:List α}{p:α->Bool}{body:Int->Option (Int⊕ρ)}{bad fin:ρ}(hstep:∀ (k:Nat) (h:k<l.length),body (k:Int)=if p l[k]=true then some (.inl ((k+1:Nat):Int)) else some (.inr bad))
  (hend:body (l.length:Int)=some (.inr fin)) {N:Nat} (hN:l.length<N):ZaO body N 0=some (if l.all p=true then fin else bad):=by
 have:=ZiR hstep hend l.length N 0 (by omega) (by omega) hN
 rw [show ((0:Nat):Int)=0 from rfl] at this
 rw [this,List.drop_zero]
theorem ZkI {P:List Int}{u:ZaJ}(h0:0<=u.Stream)(h1:u.Stream<(P.length:Int)):idx P u.Stream=some (perU P u):=ZeM 0 h0 h1
theorem ZeD {P:List Int}{u:ZaJ}:useB P u=true↔0<=u.Stream/\u.Stream<(P.length:Int)/\0<=u.Port/\u.Port<48/\0<=u.From/\u.From<perU P u/\1<=u.Long/\u.Long<=perU P u:=by simp [useB]
theorem Zjn {N:Nat}(hN:2000<=N)(p:Z8):Zeu N p=some (Zeh p):=by
 unfold Zeu Zeh
 by_cases h1:p.Periods.length<=12
 ·by_cases h2:p.Uses.length<=192
  ·rw [Z1 (by simp;omega)]
   simp only [h1,h2,decide_true,Zi]
   rw [Zen (l:=p.Periods) (p:=perB) (bad:=.inr false) (fin:=.inl ()) (λk hk=>?_) (by simp [Zcx]) (by omega)]
   ·cases hP:p.Periods.all perB with
    | false=>simp
    | true =>
     simp only [Z3,ZU,Zi]
     rw [Zen (l:=p.Uses) (p:=useB p.Periods) (bad:=.inr false) (fin:=.inl ()) (λk hk=>?_) (by simp [Zcw]) (by omega)]
     ·cases hU:p.Uses.all (useB p.Periods) with
      | false=>simp
      | true =>
       simp only [Z3,ZU,Zi]
       rw [Zk9 hN h1 hP,ZU]
       have:=ZkF hP
       by_cases hc:lcmL p.Periods<=960
       ·rw [Z2 hc];simp [hc];omega
       rw [Z1 hc];simp [hc]
     simp only [Zcw]
     rw [Z2 (by simpa using hk),Zbl hk,ZU]
     have hw:w64 ((k:Int)+1)=((k+1:Nat):Int):=ZaS (by omega)
     rw [hw]
     by_cases hc:0<=p.Uses[k].Stream/\p.Uses[k].Stream<(p.Periods.length:Int)/\0<=p.Uses[k].Port/\p.Uses[k].Port<48
     ·obtain ⟨c1,c2,c3,c4⟩:=hc
      rw [Z1 (by simp;omega),ZkI c1 c2]
      simp only [ZU]
      by_cases hu:useB p.Periods p.Uses[k]=true
      ·obtain ⟨_,_,_,_,u1,u2,u3,u4⟩:=ZeD.1 hu
       rw [Z1 (by simpa using u1),Z1 (by simpa using u2),Z1 (by simp;omega),ZU,Z1 (by simpa using u4),Z2 hu]
      have hn:¬ (0<=p.Uses[k].From/\p.Uses[k].From<perU p.Periods p.Uses[k]/\1<=p.Uses[k].Long/\p.Uses[k].Long<=perU p.Periods p.Uses[k]):=λq=>hu (ZeD.2 ⟨c1,c2,c3,c4,q⟩)
      rw [Z1 hu]
      by_cases u1:p.Uses[k].From<0
      ·rw [Z2 (by simpa using u1)];rfl
      rw [Z1 (by simpa using u1)]
      by_cases u2:p.Uses[k].From≥perU p.Periods p.Uses[k]
      ·rw [Z2 (by simpa using u2)];rfl
      rw [Z1 (by simpa using u2)]
      by_cases u3:p.Uses[k].Long<1
      ·rw [Z2 (by simpa using u3)];rfl
      rw [Z1 (by simpa using u3),ZU,Z2 (by simp;omega)]
     have hu:¬ useB p.Periods p.Uses[k]=true:=λq=>hc (by obtain ⟨a,b,c,d,_⟩:=ZeD.1 q;exact ⟨a,b,c,d⟩)
     rw [Z2 (by simp;omega),Z1 hu]
   simp only [Zcx]
   rw [Z2 (by simpa using hk),Zbl hk]
   simp only [ZU]
   rw [ZaS (by omega)]
   by_cases c1:p.Periods[k]<1
   ·rw [Z2 (by simpa using c1)]
    simp only [ZU,Z3]
    rw [Z1 (by simp [perB];omega)]
   rw [Z1 (by simpa using c1),ZU]
   by_cases c2:p.Periods[k]>240
   ·rw [Z2 (by simpa using c2),Z1 (by simp [perB];omega)]
   rw [Z1 (by simpa using c2),Z2 (by simp [perB];omega)]
  rw [Z2 (by simp;omega)];simp [h2]
 rw [Z2 (by simp;omega)];simp [h1]
theorem ZgF {N:Nat}(hN:2000<=N)(p:Z8):Zek N p=some (if Zeh p=true then 0 else 340):=by
 unfold Zek Zeh
 by_cases h1:p.Periods.length<=12
 ·by_cases h2:p.Uses.length<=192
  ·rw [Z1 (by simp;omega)]
   simp only [h1,h2,decide_true,Zi]
   rw [Zen (l:=p.Periods) (p:=perB) (bad:=.inr 340) (fin:=.inl ()) (λk hk=>?_) (by simp [ZcY]) (by omega)]
   ·cases hP:p.Periods.all perB with
    | false=>simp
    | true =>
     simp only [Z3,ZU,Zi]
     rw [ZiB hN h1 hP,ZU]
     by_cases hc:lcmL p.Periods<=960
     ·rw [Z2 hc]
      simp only [bne_self_eq_false,Zf,Z0]
      rw [Zen (l:=p.Uses) (p:=useB p.Periods) (bad:=.inr 340) (fin:=.inl ()) (λk hk=>?_) (by simp [ZcX]) (by omega)]
      ·cases hU:p.Uses.all (useB p.Periods) with
       | false=>simp
       | true=>simp [hc]
      simp only [ZcX]
      rw [Z2 (by simpa using hk),Zbl hk,ZU]
      have hw:w64 ((k:Int)+1)=((k+1:Nat):Int):=ZaS (by omega)
      rw [hw]
      by_cases hc:0<=p.Uses[k].Stream/\p.Uses[k].Stream<(p.Periods.length:Int)/\0<=p.Uses[k].Port/\p.Uses[k].Port<48
      ·obtain ⟨c1,c2,c3,c4⟩:=hc
       rw [Z1 (by simp;omega),ZkI c1 c2]
       simp only [ZU]
       by_cases hu:useB p.Periods p.Uses[k]=true
       ·obtain ⟨_,_,_,_,u1,u2,u3,u4⟩:=ZeD.1 hu
        rw [Z1 (by simp;omega),Z2 hu]
       have hn:¬ (0<=p.Uses[k].From/\p.Uses[k].From<perU p.Periods p.Uses[k]/\1<=p.Uses[k].Long/\p.Uses[k].Long<=perU p.Periods p.Uses[k]):=λq=>hu (ZeD.2 ⟨c1,c2,c3,c4,q⟩)
       rw [Z1 hu,Z2 (by simp;omega)]
      have hu:¬ useB p.Periods p.Uses[k]=true:=λq=>hc (by obtain ⟨a,b,c,d,_⟩:=ZeD.1 q;exact ⟨a,b,c,d⟩)
      rw [Z2 (by simp;omega),Z1 hu]
     rw [Z1 hc];simp [hc]
   simp only [ZcY]
   rw [Z2 (by simpa using hk),Zbl hk]
   simp only [ZU]
   rw [ZaS (by omega)]
   by_cases c:perB p.Periods[k]=true
   ·have:=ZgG.1 c
    rw [Z1 (by simp;omega),Z2 c]
   rw [Z2,Z1 c]
   simp [perB] at c ⊢;omega
  rw [Z2 (by simp;omega)];simp [h2]
 rw [Z2 (by simp;omega)];simp [h1]
theorem Zlj {p:Z8}:Zeh p=true↔p.Periods.length<=12/\p.Uses.length<=192/\p.Periods.all perB=true/\p.Uses.all (useB p.Periods)=true/\lcmL p.Periods<=960:=by
 unfold Zeh
 simp only [Ze,ZZ]
 constructor
 ·rintro ⟨⟨⟨⟨a,b⟩,c⟩,d⟩,e⟩;exact ⟨a,b,c,d,e⟩
 rintro ⟨a,b,c,d,e⟩;exact ⟨⟨⟨⟨a,b⟩,c⟩,d⟩,e⟩
end Go.Sh
namespace Go.Sh
open Go Go.Eng
structure VP (p:Z8):Prop where
 len:p.Periods.length<=12
 uses:p.Uses.length<=192
 per:∀ q∈p.Periods,1<=q/\q<=240
 use:∀ u∈p.Uses,0<=u.Stream/\u.Stream<(p.Periods.length:Int)/\0<=u.Port/\u.Port<48/\0<=u.From/\u.From<perU p.Periods u/\1<=u.Long/\u.Long<=perU p.Periods u
 lcm:lcmL p.Periods<=960
 lpos:0<lcmL p.Periods
theorem VP.of {p:Z8}(h:Zeh p=true):VP p:=by
 obtain ⟨h1,h2,h3,h4,h5⟩:=Zlj.1 h
 exact ⟨h1,h2,λq hq=>ZgG.1 (List.all_eq_true.1 h3 q hq),λu hu=>ZeD.1 (List.all_eq_true.1 h4 u hu),h5,ZkF h3⟩
theorem ZpD {P:List Int}{u:ZaJ}(h0:0<=u.Stream)(h1:u.Stream<(P.length:Int)):perU P u∈P:=by
 unfold perU
 rw [Za2 (by omega)]
 exact List.getElem_mem _
theorem VP.peru {p:Z8}(h:VP p){u:ZaJ}(hu:u∈p.Uses):1<=perU p.Periods u/\perU p.Periods u<=240:=by
 obtain ⟨a,b,_⟩:=h.use u hu
 exact h.per _ (ZpD a b)
def ZdF (p:Z8)(u:ZaJ)(x:Int):Zaj:=⟨perU p.Periods u,(u.From+x)%perU p.Periods u,u.Long⟩
def u0:ZaJ:=⟨0,0,0,0⟩
theorem VP.vspan {p:Z8}(h:VP p){u:ZaJ}(hu:u∈p.Uses)(x:Int):VSpan (ZdF p u x):=by
 obtain ⟨_,_,_,_,_,_,h1,h2⟩:=h.use u hu
 obtain ⟨h3,h4⟩:=h.peru hu
 have h5:=Int.emod_nonneg (u.From+x) (show perU p.Periods u≠0 by omega)
 have h6:=Int.emod_lt_of_pos (u.From+x) (show 0<perU p.Periods u by omega)
 show 1<=perU p.Periods u/\perU p.Periods u<=960/\0<=(u.From+x)%perU p.Periods u/\(u.From+x)%perU p.Periods u<perU p.Periods u/\1<=u.Long/\u.Long<=perU p.Periods u
 omega
theorem VP.rem {p:Z8}(h:VP p){u:ZaJ}(hu:u∈p.Uses){x:Int}(h0:0<=x)(h1:x<=1000000):remI (w64 (u.From+x)) (perU p.Periods u)=some ((u.From+x)%perU p.Periods u):=by
 obtain ⟨_,_,_,_,h5,h6,h7,h8⟩:=h.use u hu
 obtain ⟨h3,h4⟩:=h.peru hu
 rw [Zbc (by omega) (by omega),Zbx (by omega),Zj (by omega)]
theorem Zfj (N:Nat){p:Z8}(h:VP p){u:ZaJ}(hu:u∈p.Uses){x:Int}(h0:0<=x)(h1:x<=1000000):ZcW N p u x=some (ZdF p u x):=by
 obtain ⟨a,b,_⟩:=h.use u hu
 unfold ZcW
 rw [ZkI a b,ZU,h.rem hu h0 h1,ZU]
 rfl
theorem Ziu (N:Nat){p:Z8}(h:VP p){k:Nat}(hk:k<p.Uses.length){x:Int}(h0:0<=x)(h1:x<=1000000):ZfQ N p k x=some (ZdF p (p.Uses.getD k u0) x):=by
 have hu:p.Uses[k]∈p.Uses:=List.getElem_mem hk
 obtain ⟨a,b,_⟩:=h.use _ hu
 unfold ZfQ
 rw [Zbl hk]
 simp only [ZU]
 rw [ZkI a b,ZU,h.rem hu h0 h1,ZU,Za2 hk]
 rfl
def offB (p:Z8)(i x:Int):Bool:=decide (0<=i/\i<(p.Periods.length:Int)/\0<=x/\x<p.Periods.getD i.toNat 0)
theorem ZbT {p:Z8}{i x:Int}:offB p i x=true↔0<=i/\i<(p.Periods.length:Int)/\0<=x/\x<p.Periods.getD i.toNat 0:=by simp [offB]
theorem Zgc (N:Nat){p:Z8}{i x:Int}(h0:0<=i)(h1:i<(p.Periods.length:Int)):ZdP N p i x=some (offB p i x):=by
 unfold ZdP
 by_cases hx:x≥0
 ·rw [Z2 (by simpa using hx),ZeM 0 h0 h1]
  simp only [ZU]
  congr 1
  rw [Bool.eq_iff_iff,ZbT]
  simp
  omega
 rw [Z1 (by simpa using hx),ZU]
 congr 1
 symm
 rw [Bool.eq_false_iff]
 intro q
 have:=ZbT.1 q
 omega
theorem Zis (N:Nat)(p:Z8)(i x:Int):ZdY N p i x=some (offB p i x):=by
 unfold ZdY
 have hf:∀ (c:Prop),¬ c->(offB p i x=true->c)->some (offB p i x)=some false:=λc hc hi=>by
  congr 1
  rw [Bool.eq_false_iff]
  exact λq=>hc (hi q)
 by_cases c1:i≥0
 ·rw [Z2 (by simpa using c1)]
  by_cases c2:i<(p.Periods.length:Int)
  ·rw [Z2 (by simpa using c2)]
   by_cases c3:x≥0
   ·rw [Z2 (by simpa using c3),ZeM 0 c1 c2]
    simp only [ZU]
    congr 1
    rw [Bool.eq_iff_iff,ZbT]
    simp
    omega
   rw [Z1 (by simpa using c3),ZU]
   exact (hf _ c3 λq=>(ZbT.1 q).2.2.1).symm
  rw [Z1 (by simpa using c2),ZU]
  exact (hf _ c2 λq=>(ZbT.1 q).2.1).symm
 rw [Z1 (by simpa using c1),ZU]
 exact (hf _ c1 λq=>(ZbT.1 q).1).symm
def hitB (p:Z8)(i a j b:Int)(k m:Nat):Bool :=
 decide (k≠m)&&(((p.Uses.getD k u0).Stream==i)&&(((p.Uses.getD m u0).Stream==j)&&(((p.Uses.getD k u0).Port==(p.Uses.getD m u0).Port) &&
  !(decide (SepD (ZdF p (p.Uses.getD k u0) a) (ZdF p (p.Uses.getD m u0) b) ((ZdF p (p.Uses.getD m u0) b).From-(ZdF p (p.Uses.getD k u0) a).From))))))
def ZdG (p:Z8)(i a j b:Int):Bool := !(allB p.Uses.length λk=>allB p.Uses.length λm => !(hitB p i a j b k m))
theorem Zga {N:Nat}(hN:2000<=N){p:Z8}(h:VP p){i a j b:Int}(ha:0<=a)(ha2:a<=1000)(hb:0<=b)(hb2:b<=1000):ZdO N p i a j b=some (ZdG p i a j b):=by
 have hl:=h.uses
 unfold ZdO
 rw [Ze2 (n:=p.Uses.length) (p:=λk=>allB p.Uses.length λm => !(hitB p i a j b k m)) (bad:=.inr true) (fin:=.inl ()) (λk hk=>?_) (by simp [Zcz]) (by omega)]
 ·unfold ZdG
  cases allB p.Uses.length λk=>allB p.Uses.length λm => !(hitB p i a j b k m)<;>rfl
 simp only [Zcz]
 rw [Z2 (by simpa using hk),Ze2 (n:=p.Uses.length) (p:=λm => !(hitB p i a j b k m)) (bad:=.inr true) (fin:=.inl ()) (λm hm=>?_) (by simp [Zcy]) (by omega)]
 ·have hw:w64 ((k:Int)+1)=((k+1:Nat):Int):=ZaS (by omega)
  cases allB p.Uses.length λm => !(hitB p i a j b k m) with
  | false=>rfl
  | true=>simp only [Z3,ZU];rw [hw]
 simp only [Zcy]
 have hw:w64 ((m:Int)+1)=((m+1:Nat):Int):=ZaS (by omega)
 rw [Z2 (by simpa using hm),Zbl hk,Zbl hm,hw]
 simp only [ZU]
 rw [Ziu N h hk ha (by omega),Ziu N h hm hb (by omega)]
 simp only [ZU]
 rw [Za2 hk,Za2 hm,VSpan.separate hN (h.vspan (List.getElem_mem hk) a) (h.vspan (List.getElem_mem hm) b)]
 simp only [ZU]
 unfold hitB
 rw [Za2 hk,Za2 hm]
 by_cases c0:k=m
 ·subst c0;simp
 rw [Z2 (by simp;omega)]
 cases c1:(p.Uses[k].Stream==i) with
 | false=>simp
 | true =>
  cases c2:(p.Uses[m].Stream==j) with
  | false=>simp
  | true =>
   cases c3:(p.Uses[k].Port==p.Uses[m].Port) with
   | false=>simp
   | true =>
    simp only [Z3,ZU,c0,ne_eq,not_false_eq_true,decide_true,Zi,Bool.not_not]
    cases decide (SepD (ZdF p p.Uses[k] a) (ZdF p p.Uses[m] b) ((ZdF p p.Uses[m] b).From-(ZdF p p.Uses[k] a).From))<;>rfl
theorem ZoO {s:Zaj}(hs:VSpan s):¬ SepD s s (s.From-s.From):=by
 have:=hs.bounds
 unfold SepD
 simp
 omega
theorem Zpu {u v:ZaJ}(h:(((u.Stream==v.Stream)&&((u.Port==v.Port)&&((u.From==v.From)&&((u.Long==v.Long)&&true))))=true)):u=v:=by
 obtain ⟨a,b,c,d⟩:=u
 obtain ⟨a',b',c',d'⟩:=v
 simp at h
 obtain ⟨rfl,rfl,rfl,rfl⟩:=h
 rfl
theorem Zfk {N:Nat}(hN:2000<=N){p:Z8}(h:VP p){i a j b:Int}(ha:0<=a)(ha2:a<=1000)(hb:0<=b)(hb2:b<=1000)(hij:i=j->a=b):Zdw N p i a j b=some (ZdG p i a j b):=by
 have hl:=h.uses
 unfold Zdw ZfS
 simp only [ZU]
 have round:∀ k m:Nat,∀ (hk:k<p.Uses.length) (hm:m<p.Uses.length),p.Uses[k].Stream=i->p.Uses[m].Stream=j →
   Zbh N p a b false p.Uses[k] p.Uses[m]=some (if SepD (ZdF p p.Uses[k] a) (ZdF p p.Uses[m] b) ((ZdF p p.Uses[m] b).From-(ZdF p p.Uses[k] a).From) then (false,0) else (true,1)):=by
  intro k m hk hm e1 e2
  unfold Zbh
  have hv1:=h.vspan (List.getElem_mem hk) a
  have hv2:=h.vspan (List.getElem_mem hm) b
  by_cases c:((p.Uses[k].Stream==p.Uses[m].Stream)&&((p.Uses[k].Port==p.Uses[m].Port)&&((p.Uses[k].From==p.Uses[m].From)&&((p.Uses[k].Long==p.Uses[m].Long)&&true))))=true
  ·rw [Z2 c]
   have e:=Zpu c
   have hab:a=b:=hij (by rw [← e1,← e2,e])
   subst hab
   rw [← e,Z1 (ZoO hv1)]
  have hA:=ZhT hN (ZdF p p.Uses[k] a) (ZdF p p.Uses[m] b)
  rw [Z2 ⟨hv1,hv2⟩] at hA
  rw [Z1 c,Zfj N h (List.getElem_mem hk) ha (by omega),ZU,Zfj N h (List.getElem_mem hm) hb (by omega),ZU,hA,ZU]
  by_cases s:SepD (ZdF p p.Uses[k] a) (ZdF p p.Uses[m] b) ((ZdF p p.Uses[m] b).From-(ZdF p p.Uses[k] a).From)
  ·simp [s]
  simp [s]
 have loop:Zd0 N (λ(s:Bool×Nat) (x16:ZaJ) (x17:ZaJ)=>Zid (λv:Bool=>Zbh N p a b v x16 x17) s) p i j (false,0)=some (if ZdG p i a j b=true then (true,1) else (false,0)):=by
  unfold Zd0
  rw [(ZiQ (n:=p.Uses.length) (p:=λk=>allB p.Uses.length λm => !(hitB p i a j b k m)) (f:=λs _=>s) (bad:=.inr (true,1)) (fin:=λs=>.inl s) (λ_ s=>s=(false,0)) (λk s hk hs=>?_) (λ_ s _ hs _=>hs) (λs _=>by simp [Zb5]) (N:=N) (by omega) rfl).1]
  ·unfold ZdG
   have hf:∀ (l:List Nat),l.foldl (λ(s:Bool×Nat) _=>s) (false,0)=(false,0):=by
    intro l;induction l with
    | nil=>rfl
    | cons x l ih=>simpa using ih
   rw [hf]
   cases allB p.Uses.length λk=>allB p.Uses.length λm => !(hitB p i a j b k m)<;>rfl
  subst hs
  simp only [Zb5]
  have hw:w64 ((k:Int)+1)=((k+1:Nat):Int):=ZaS (by omega)
  rw [Z2 (by simpa using hk),Zbl hk,ZU,hw]
  by_cases c1:p.Uses[k].Stream=i
  ·rw [Z1 (by simpa using c1)]
   rw [(ZiQ (n:=p.Uses.length) (p:=λm => !(hitB p i a j b k m)) (f:=λs _=>s) (bad:=.inr (true,1)) (fin:=λs=>.inl s) (λ_ s=>s=(false,0)) (λm s hm hs=>?_) (λ_ s _ hs _=>hs) (λs _=>by simp [Zb4]) (N:=N) (by omega) rfl).1]
   ·have hf:∀ (l:List Nat),l.foldl (λ(s:Bool×Nat) _=>s) (false,0)=(false,0):=by
     intro l;induction l with
     | nil=>rfl
     | cons x l ih=>simpa using ih
    rw [hf]
    cases allB p.Uses.length λm => !(hitB p i a j b k m)<;>rfl
   subst hs
   simp only [Zb4]
   have hw2:w64 ((m:Int)+1)=((m+1:Nat):Int):=ZaS (by omega)
   rw [Z2 (by simpa using hm),Zbl hm,ZU,hw2]
   unfold hitB
   rw [Za2 hk,Za2 hm]
   by_cases c0:k=m
   ·subst c0;simp
   have c0':((m:Int)==(k:Int))=false:=by simp;omega
   rw [c0']
   simp only [Zf,Z0]
   by_cases c2:p.Uses[m].Stream=j
   ·rw [Z1 (by simpa using c2),ZU]
    by_cases c3:p.Uses[k].Port=p.Uses[m].Port
    ·rw [Z1 (by simp [c3])]
     unfold Zid
     simp only [Z3]
     rw [round k m hk hm c1 c2]
     simp only [c0,c1,c2,c3,ne_eq,not_false_eq_true,decide_true,Zi,beq_self_eq_true,Bool.not_not]
     by_cases s:SepD (ZdF p p.Uses[k] a) (ZdF p p.Uses[m] b) ((ZdF p p.Uses[m] b).From-(ZdF p p.Uses[k] a).From)
     ·simp [s]
     simp [s]
    rw [Z2 (by simp;exact λq=>c3 q.symm)]
    simp [c3]
   rw [Z2 (by simpa using c2),ZU]
   simp [c2]
  rw [Z2 (by simpa using c1)]
  have:(allB p.Uses.length λm => !(hitB p i a j b k m))=true:=by
   rw [ZdU]
   intro m hm
   unfold hitB
   rw [Za2 hk]
   simp [c1]
  rw [this,Z2 rfl]
 rw [loop,ZU]
 cases ZdG p i a j b<;>rfl
def argB (p:Z8)(i a j b:Int):Bool:=offB p i a&&offB p j b && !(decide (i=j)&&decide (a≠b))
def ZeB (p:Z8)(i a j b:Int):Bool×Int:=if Zeh p=true then (if argB p i a j b=true then (ZdG p i a j b,0) else (false,2)) else (false,340)
theorem ZiI {p:Z8}(h:VP p){i x:Int}(ho:offB p i x=true):0<=x/\x<240:=by
 obtain ⟨a,b,c,d⟩:=ZbT.1 ho
 rw [Za2 (by omega)] at d
 have:=h.per _ (List.getElem_mem (show i.toNat<p.Periods.length by omega))
 omega
theorem Zh2 {N:Nat}(hN:2000<=N)(p:Z8)(i a j b:Int):Zdx N p i a j b=some (ZeB p i a j b):=by
 unfold Zdx ZeB
 rw [ZgF hN,ZU]
 cases hp:Zeh p with
 | false=>rfl
 | true =>
  have h:=VP.of hp
  simp only [Z3,bne_self_eq_false,Zf,Z0]
  by_cases c1:0<=i/\i<(p.Periods.length:Int)/\0<=j/\j<(p.Periods.length:Int)
  ·obtain ⟨i1,i2,j1,j2⟩:=c1
   rw [Z1 (by simp;omega),Zgc N i1 i2,Zgc N j1 j2]
   simp only [ZU]
   unfold argB
   cases o1:offB p i a with
   | false=>rfl
   | true =>
    cases o2:offB p j b with
    | false=>rfl
    | true =>
     simp only [Bool.not_true,Zf,Z0,Zi]
     have b1:=ZiI h o1
     have b2:=ZiI h o2
     by_cases c:i=j
     ·by_cases d:a=b
      ·rw [Zfk hN h b1.1 (by omega) b2.1 (by omega) (λ_=>d)]
       simp [c,d]
      simp [c,d]
     rw [Zfk hN h b1.1 (by omega) b2.1 (by omega) (λq=>absurd q c)]
     simp [c]
  rw [Z2 (by simp;omega)]
  have:argB p i a j b=false:=by
   unfold argB
   rw [Bool.eq_false_iff]
   intro q
   simp only [Ze] at q
   have q1:=ZbT.1 q.1.1
   have q2:=ZbT.1 q.1.2
   omega
  rw [this];rfl
end Go.Sh

namespace Go.Sh
open Go Go.Eng
def upF {σ:Type}(step:Nat->σ->Option σ):Nat->σ->Option σ
 | 0,s=>some s
 | n+1,s=>(upF step n s).bind (step n)
theorem ZoI {σ:Type}{step:Nat->σ->Option σ}{k:Nat}{s:σ}(h:upF step k s=none):∀ n,k<=n->upF step n s=none:=by
 intro n hn
 induction n with
 | zero =>
  obtain rfl:k=0:=by omega
  exact h
 | succ n ih =>
  by_cases e:k=n+1
  ·subst e;exact h
  simp only [upF];rw [ih (by omega)];rfl
theorem ZkH {σ τ ρ:Type}(mk:Int->σ->τ)(ix:τ->Int)(hix:∀ k s,ix (mk k s)=k){step:Nat->σ->Option σ}{body:τ->Option (τ⊕ρ)}{n:Nat}{s0:σ}{bad:ρ}{fin:σ->ρ}
  (hstep:∀ (k:Nat) (s:σ),k<n->upF step k s0=some s->body (mk k s)=match step k s with|some s'=>some (.inl (mk ((k+1:Nat):Int) s'))|none=>some (.inr bad))
  (hend:∀ s,upF step n s0=some s->body (mk n s)=some (.inr (fin s))) {N:Nat} (hN:n<N) :
  ZaO body N (mk 0 s0)=some (match upF step n s0 with|some s=>fin s|none=>bad):=by
 obtain ⟨r,hr,e⟩:=Zbs (body:=body) (λx=>∃ (k:Nat) (s:σ),x=mk k s/\k<=n/\upF step k s0=some s) (λx=>(n-ix x).toNat) (λr=>r=match upF step n s0 with|some s=>fin s|none=>bad) (λx hx=>by
  obtain ⟨k,s,rfl,k2,k3⟩:=hx
  by_cases c:k<n
  ·have hb:=hstep k s c k3
   cases hs:step k s with
   | some s' =>
    rw [hs] at hb
    left
    refine ⟨_,hb,⟨k+1,s',rfl,by omega,by simp only [upF];rw [k3];exact hs⟩,by rw [hix,hix];omega⟩
   | none =>
    rw [hs] at hb
    right
    refine ⟨_,hb,?_⟩
    have:upF step (k+1) s0=none:=by simp only [upF];rw [k3];exact hs
    rw [ZoI this n (by omega)]
  right
  obtain rfl:k=n:=by omega
  exact ⟨_,hend s k3,by rw [k3]⟩) N (mk 0 s0) ⟨0,s0,rfl,by omega,rfl⟩ (by rw [hix];omega)
 rw [hr,e]
section
variable {N:Nat} {p:Z8} {f:List Z7}
def ZbH (nP len c:Int)(a:Zax):Bool :=
 if a.By = -1 then decide (a.To=w64 (a.From+1)/\c<a.Next/\a.Next<len)
 else if a.Next=0 then (if a.By = -2 then decide (c=0/\a.From≠0) else decide (0<=a.By/\a.By<nP)) else false
def ZgU (nP len c per at_:Int)(a:Zax):Bool:=decide (a.From=at_/\a.From<a.To/\a.To<=per)&&ZbH nP len c a
def Zc0 (nP len c per:Int)(l:List Zax)(k:Nat)(at_:Int):Option Int:=(l[k]?).bind λa=>if ZgU nP len c per at_ a=true then some a.To else none
def Zhh (nP len c per:Int)(l:List Zax):Bool:=match upF (Zc0 nP len c per l) l.length 0 with
 | some e=>e==per
 | none=>false
theorem Zg5 (c:Nat)(a:Zax):Zc4 N p f (c:Int) a=some (ZbH p.Periods.length f.length c a):=by
 unfold Zc4 ZbH
 by_cases h1:a.By = -1
 ·rw [Z2 (by simpa using h1),Z2 h1]
  congr 1
  rw [Bool.eq_iff_iff]
  simp only [Ze,beq_iff_eq,ZZ,gt_iff_lt]
 rw [Z1 (by simpa using h1),Z1 h1]
 by_cases h2:a.Next=0
 ·rw [Z1 (by simpa using h2),Z2 h2]
  by_cases h3:a.By = -2
  ·rw [Z2 (by simpa using h3),Z2 h3]
   congr 1
   rw [Bool.eq_iff_iff]
   simp
  rw [Z1 (by simpa using h3),Z1 h3]
  congr 1
  rw [Bool.eq_iff_iff]
  simp
 rw [Z2 (by simpa using h2),Z1 h2]
def Znu (nP len c per:Int)(l:List Zax):Int⊕Bool:=match upF (Zc0 nP len c per l) l.length 0 with
 | some e=>.inl e
 | none=>.inr false
theorem ZjV {c per:Int}{l:List Zax}{body:Int×Int->Option ((Int×Int)⊕(Int⊕Bool))}{nP len:Int}
  (hstep:∀ (k:Nat) (e:Int) (h:k<l.length),body (e,(k:Int))=if ZgU nP len c per e l[k]=true then some (.inl (l[k].To,((k+1:Nat):Int))) else some (.inr (.inr false)))
  (hend:∀ e,body (e,(l.length:Int))=some (.inr (.inl e))) (hN:l.length<N):ZaO body N (0,0)=some (Znu nP len c per l):=by
 have:=ZkH (λk (s:Int)=>(s,k)) (·.2) (λ_ _=>rfl) (ρ:=Int⊕Bool) (body:=body) (step:=Zc0 nP len c per l) (n:=l.length) (s0:=0) (fin:=λe=>.inl e) (bad:=.inr false) (λk s hk _=>by
  rw [hstep k s hk]
  unfold Zc0
  rw [Zy hk,ZU]
  by_cases h:ZgU nP len c per s l[k]=true
  ·rw [Z2 h,Z2 h]
  rw [Z1 h,Z1 h]) (λs _=>hend s) hN
 rw [this]
 unfold Znu
 cases upF (Zc0 nP len c per l) l.length 0<;>rfl
theorem Zov {nP len c per:Int}{l:List Zax}:(match Znu nP len c per l with | .inl e=>e==per | .inr b=>b)=Zhh nP len c per l:=by
 unfold Znu Zhh
 cases upF (Zc0 nP len c per l) l.length 0<;>rfl
def Zbg (p:Z8)(f:List Z7)(c:Nat):Bool:=match f[c]? with
 | some x=>decide (0<=x.Stream/\x.Stream<(p.Periods.length:Int))&&Zhh p.Periods.length f.length c (p.Periods.getD x.Stream.toNat 0) x.Arms
 | none=>false
theorem Zep {nP len c per e:Int}{a:Zax}(h:ZgU nP len c per e a=true):a.From=e/\a.From<a.To/\a.To<=per/\ZbH nP len c a=true:=by
 simp only [ZgU,Ze,ZZ] at h
 exact ⟨h.1.1,h.1.2.1,h.1.2.2,h.2⟩
theorem Zjt {c:Nat}(hc:c<f.length)(h0:0<=f[c].Stream)(h1:f[c].Stream<(p.Periods.length:Int))(hl:f[c].Arms.length<1000000)(hN:f[c].Arms.length<N) :
  Zew N p f (c:Int)=some (Zhh p.Periods.length f.length c (p.Periods.getD f[c].Stream.toNat 0) f[c].Arms):=by
 obtain ⟨x,hx⟩:∃ x,x=f[c]:=⟨_,rfl⟩
 obtain ⟨per,hper⟩:∃ per,per=p.Periods.getD x.Stream.toNat 0:=⟨_,rfl⟩
 unfold Zew
 rw [Zbl hc,ZU,← hx]
 rw [← hx] at h0 h1 hl hN
 rw [ZeM 0 h0 h1,ZU,← hper,ZU]
 rw [ZjV (nP:=p.Periods.length) (len:=f.length) (c:=c) (per:=per) (l:=x.Arms) (λk e hk=>by
   simp only [ZcC]
   rw [Z2 (by simpa using hk),Zbl hk,ZU,Zg5,ZaS (by omega)]
   simp only [ZU]
   by_cases h:ZgU p.Periods.length f.length c per e x.Arms[k]=true
   ·obtain ⟨a1,a2,a3,a4⟩:=Zep h
    rw [Z2 h,Z1 (by simpa using a1),Z1 (by simpa using a2),Z1 (by simpa using a3),a4]
    rfl
   rw [Z1 h]
   by_cases a1:x.Arms[k].From=e
   ·by_cases a2:x.Arms[k].From<x.Arms[k].To
    ·by_cases a3:x.Arms[k].To<=per
     ·have a4:ZbH p.Periods.length f.length c x.Arms[k]=false:=by
       cases hr:ZbH p.Periods.length f.length c x.Arms[k] with
       | false=>rfl
       | true=>exact absurd (by simp [ZgU,a1 ▸ a2,a3,hr,a1]) h
      rw [Z1 (by simpa using a1),Z1 (by simpa using a2),Z1 (by simpa using a3),a4]
      rfl
     rw [Z1 (by simpa using a1),Z1 (by simpa using a2),Z2 (by simpa using a3)];rfl
    rw [Z1 (by simpa using a1),Z2 (by simpa using a2)];rfl
   rw [Z2 (by simpa using a1)];rfl) (λe=>by simp [ZcC]) hN,ZU,← Zov]
 cases Znu p.Periods.length f.length c per x.Arms<;>rfl
end
end Go.Sh

namespace Go.Sh
open Go Go.Eng
theorem ZlW {σ:Type}{step:Nat->σ->Option σ}:∀ {n:Nat} {s0 s:σ},upF step n s0=some s->∀ k,k<n->∃ s1 s2,upF step k s0=some s1/\step k s1=some s2
 | 0,_,_,_,k,hk=>by omega
 | n+1,s0,s,h,k,hk=>by
  simp only [upF] at h
  obtain ⟨s1,h1,h2⟩:=bind_some h
  by_cases e:k=n
  ·subst e;exact ⟨s1,s,h1,h2⟩
  exact ZlW h1 k (by omega)
section
variable {N:Nat} {p:Z8} {f:List Z7}
theorem Zjb {nP len c per:Int}{l:List Zax}(h:Zhh nP len c per l=true):∀ a∈l,ZbH nP len c a=true:=by
 intro a ha
 obtain ⟨k,hk,rfl⟩:=List.getElem_of_mem ha
 unfold Zhh at h
 cases hu:upF (Zc0 nP len c per l) l.length 0 with
 | none=>rw [hu] at h;cases h
 | some s =>
  obtain ⟨s1,s2,_,h2⟩:=ZlW hu k hk
  unfold Zc0 at h2
  rw [Zy hk,ZU] at h2
  by_cases c1:ZgU nP len c per s1 l[k]=true
  ·exact (Zep c1).2.2.2
  rw [Z1 c1] at h2;cases h2
theorem Zdj {c:Nat}(hc:c<f.length):Zbg p f c=(decide (0<=f[c].Stream/\f[c].Stream<(p.Periods.length:Int))&&Zhh p.Periods.length f.length c (p.Periods.getD f[c].Stream.toNat 0) f[c].Arms):=by
 unfold Zbg
 rw [Zy hc]
theorem Zkn {c:Nat}(hp:∀ x∈p.Periods,1<=x)(hc:c<f.length)(h0:0<=f[c].Stream)(h1:f[c].Stream<(p.Periods.length:Int))(hl:f[c].Arms.length<1000000)(hN:f[c].Arms.length<N) :
  ZeW N p f (c:Int)=some (Zhh p.Periods.length f.length c (p.Periods.getD f[c].Stream.toNat 0) f[c].Arms):=by
 obtain ⟨x,hx⟩:∃ x,x=f[c]:=⟨_,rfl⟩
 obtain ⟨per,hper⟩:∃ per,per=p.Periods.getD x.Stream.toNat 0:=⟨_,rfl⟩
 unfold ZeW
 have ei:idx f (c:Int)=some x:=by rw [Zbl hc,hx]
 rw [ei,ZU]
 rw [← hx] at h0 h1 hl hN ⊢
 have ep:idx p.Periods x.Stream=some per:=by rw [hper];exact ZeM 0 h0 h1
 have hper1:1<=per:=by
  refine hp _ ?_
  rw [hper,Za2 (by omega)]
  exact List.getElem_mem _
 rw [← hper]
 rw [ZjV (nP:=p.Periods.length) (len:=f.length) (c:=c) (per:=per) (l:=x.Arms) (λk e hk=>by
   simp only [ZcT]
   rw [Z2 (by simpa using hk),Zbl hk,ZU,ei,ZU,ep,ZU,ZaS (by omega)]
   obtain ⟨a,ha⟩:∃ a,a=x.Arms[k]:=⟨_,rfl⟩
   rw [← ha]
   unfold ZgU ZbH
   by_cases a1:a.From=e
   ·by_cases a2:a.From<a.To
    ·by_cases a3:a.To<=per
     ·rw [Z1 (by simpa using a1),Z1 (by simpa using a2),Z1 (by simpa using a3)]
      by_cases b1:a.By = -1
      ·rw [Z1 (by simp;omega),ZU,Z1 (by simp;omega),Z2 (by simpa using b1),Z2 b1]
       by_cases b2:a.To=w64 (a.From+1)/\(c:Int)<a.Next/\a.Next<(f.length:Int)
       ·rw [Z1 (by simp;omega),Z2 (by simp only [Ze,ZZ];exact ⟨⟨a1,a2,a3⟩,b2⟩)]
       rw [Z2 (by simp;omega),Z1 (by simp only [Ze,ZZ];exact λh=>b2 h.2)]
      rw [Z1 b1]
      by_cases b3:a.By = -2
      ·rw [Z1 (by simp;omega),ZU,Z1 (by simp;omega),Z1 (by simpa using b1),Z2 (by simpa using b3)]
       by_cases b4:a.Next=0
       ·rw [Z2 b4,Z2 b3]
        by_cases b5:(c:Int)=0/\a.From≠0
        ·rw [Z1 (by simp;omega),Z2 (by simp only [Ze,ZZ];exact ⟨⟨a1,a2,a3⟩,b5⟩)]
        rw [Z2 (by simp;omega),Z1 (by simp only [Ze,ZZ];exact λh=>b5 h.2)]
       rw [Z1 b4,Z2 (by simp;omega),Z1 (by simp)]
      by_cases b6:0<=a.By/\a.By<(p.Periods.length:Int)
      ·rw [Z1 (by simp;omega),ZU,Z1 (by simp;omega),Z1 (by simpa using b1),Z1 (by simpa using b3)]
       by_cases b4:a.Next=0
       ·rw [Z1 (by simpa using b4),Z2 b4,Z1 b3,Z2 (by simp only [Ze,ZZ];exact ⟨⟨a1,a2,a3⟩,b6⟩)]
       rw [Z2 (by simpa using b4),Z1 b4,Z1 (by simp)]
      have hbad:ZgU p.Periods.length f.length c per e a=false:=by
       cases hq:ZgU p.Periods.length f.length c per e a with
       | false=>rfl
       | true =>
        obtain ⟨_,_,_,q⟩:=Zep hq
        unfold ZbH at q
        rw [Z1 b1] at q
        by_cases b4:a.Next=0
        ·rw [Z2 b4,Z1 b3,ZZ] at q;exact absurd q b6
        rw [Z1 b4] at q;cases q
      have hbad':=hbad
      unfold ZgU ZbH at hbad'
      rw [Z1 b1] at hbad'
      rw [hbad',Z1 (show ¬ false=true by simp)]
      by_cases b7:a.By < -2
      ·rw [Z2 (by simpa using b7),ZU];rfl
      rw [Z1 (by simpa using b7),ZU,Z2 (by simp;omega)]
     rw [Z1 (by simpa using a1),Z1 (by simpa using a2),Z2 (by simpa using a3),ZU,Z2 rfl,Z1 (by simp only [Ze,ZZ];exact λh=>a3 h.1.2.2)]
    rw [Z1 (by simpa using a1),Z2 (by simpa using a2),ZU,Z2 rfl,Z1 (by simp only [Ze,ZZ];exact λh=>a2 h.1.2.1)]
   rw [Z2 (by simpa using a1),ZU,Z2 rfl,Z1 (by simp only [Ze,ZZ];exact λh=>a1 h.1.1)]) (λe=>by simp [ZcT]) hN,ZU,← Zov]
 unfold Znu
 cases hu:upF (Zc0 p.Periods.length f.length c per x.Arms) x.Arms.length 0 with
 | none=>rfl
 | some e =>
  simp only
  by_cases hz:0<x.Arms.length
  ·rw [Z2 (by rw [ZZ];omega),ZU,ep,ZU,ZU]
  rw [Z1 (by rw [ZZ];omega),ZU]
  have:x.Arms.length=0:=by omega
  rw [this] at hu
  simp only [upF,ZW] at hu
  subst hu
  congr 1
  symm
  simp
  omega
def bump (l:List Int)(a:Zax):List Int:=if a.By = -1 then l.set a.Next.toNat (w64 (l.getD a.Next.toNat 0+1)) else l
def Zmn (f:List Z7)(k:Nat)(l:List Int):List Int:=match f[k]? with
 | some x=>x.Arms.foldl bump l
 | none=>l
def Ze0 (f:List Z7):Nat->List Int->List Int
 | 0,l=>l
 | k+1,l=>Zmn f k (Ze0 f k l)
theorem Zo6 (l:List Int)(a:Zax):(bump l a).length=l.length:=by
 unfold bump
 by_cases h:a.By = -1
 ·rw [Z2 h];simp
 rw [Z1 h]
theorem Zi6:∀ (as:List Zax) (l:List Int),(as.foldl bump l).length=l.length
 | [],_=>rfl
 | a::as,l=>by rw [List.foldl_cons,Zi6 as,Zo6]
theorem Zem (f:List Z7)(l:List Int):∀ k,(Ze0 f k l).length=l.length
 | 0=>rfl
 | k+1=>by
  unfold Ze0 Zmn
  cases f[k]? with
  | none=>exact Zem f l k
  | some x=>simp only;rw [Zi6,Zem f l k]
theorem ZlK {l:List Int}{as:List Zax}{body:Int×List Int->Option ((Int×List Int)⊕List Int)}(hl:as.length<1000000)
  (hstep:∀ (k:Nat) (m:List Int) (h:k<as.length),m.length=l.length->body ((k:Int),m)=some (.inl (((k+1:Nat):Int),bump m as[k])))
  (hend:∀ m,body ((as.length:Int),m)=some (.inr m)) (hN:as.length<N):ZaO body N (0,l)=some (as.foldl bump l):=by
 obtain ⟨r,hr,e⟩:=Zbs (body:=body) (λx=>∃ k:Nat,x.1=k/\k<=as.length/\x.2=(as.take k).foldl bump l) (λx=>(as.length-x.1).toNat) (λr=>r=as.foldl bump l) (λx hx=>by
  obtain ⟨i,m⟩:=x
  obtain ⟨k,k1,k2,k3⟩:=hx
  simp only at k1 k3
  subst k1 k3
  by_cases c:k<as.length
  ·left
   refine ⟨_,hstep k _ c (by rw [Zi6]),⟨k+1,rfl,by omega,?_⟩,by simp;omega⟩
   rw [List.take_succ_eq_append_getElem c,List.foldl_append]
   rfl
  right
  obtain rfl:k=as.length:=by omega
  exact ⟨_,hend _,by rw [List.take_length]⟩) N (0,l) ⟨0,rfl,by omega,rfl⟩ (by simp;omega)
 rw [hr,e]
theorem ZmW {m:List Int}{a:Zax}{nP c:Int}(hr:ZbH nP m.length c a=true)(hc:0<=c)(hb:a.By = -1):0<=a.Next/\a.Next<(m.length:Int):=by
 unfold ZbH at hr
 rw [Z2 hb,ZZ] at hr
 omega
end
end Go.Sh

namespace Go.Sh
open Go Go.Eng
section
variable {N:Nat} {p:Z8} {f:List Z7}
def Zgx (p:Z8)(f:List Z7)(k:Nat)(l:List Int):Option (List Int):=if Zbg p f k=true then some (Zmn f k l) else none
theorem Zka (l:List Int):∀ n,upF (Zgx p f) n l=if allB n (Zbg p f)=true then some (Ze0 f n l) else none
 | 0=>by simp [upF,allB,Ze0]
 | n+1=>by
  simp only [upF]
  rw [Zka l n]
  have e:allB (n+1) (Zbg p f)=(allB n (Zbg p f)&&Zbg p f n):=by
   unfold allB
   rw [List.range_succ,List.all_append]
   simp
  rw [e]
  cases h1:allB n (Zbg p f) with
  | false=>simp
  | true =>
   simp only [Z3,ZU,Zi]
   unfold Zgx
   cases h2:Zbg p f n<;>simp [Ze0]
def ZiV (p:Z8)(f:List Z7):Bool :=
 decide (1<=f.length/\f.length<=2000)&&allB f.length (Zbg p f)&&((Ze0 f f.length (List.replicate f.length 0)).drop 1).all (· == 1)
theorem Ze3 {c:Nat}(h:Zbg p f c=true):∃ hc:c<f.length,0<=f[c].Stream/\f[c].Stream<(p.Periods.length:Int)/\Zhh p.Periods.length f.length c (p.Periods.getD f[c].Stream.toNat 0) f[c].Arms=true:=by
 by_cases hc:c<f.length
 ·rw [Zdj hc,Ze,ZZ] at h
  exact ⟨hc,h.1.1,h.1.2,h.2⟩
 unfold Zbg at h
 rw [Zz (by omega)] at h
 cases h
theorem Znr {c:Nat}{l:List Int}(h:Zbg p f c=true)(hl:l.length=f.length)(ha:∀ x∈f,x.Arms.length<1000000/\x.Arms.length<N){x:Z7}(hx:f[c]?=some x) :
  ZaO (λy:Int×(List Int)=>ZbJ N x y.1 y.2) N (0,l)=some (Zmn f c l):=by
 obtain ⟨hc,h0,h1,h2⟩:=Ze3 h
 rw [Zy hc] at hx
 cases hx
 have hb:=ha _ (List.getElem_mem hc)
 rw [ZlK hb.1 (λk m hk hm=>?_) (λm=>by simp [ZbJ]) hb.2]
 ·unfold Zmn
  rw [Zy hc]
 have hr:=Zjb h2 _ (List.getElem_mem hk)
 rw [← hl,← hm] at hr
 simp only [ZbJ]
 rw [Z2 (by simpa using hk),Zbl hk,ZU,ZaS (by omega)]
 unfold bump
 by_cases b:f[c].Arms[k].By = -1
 ·obtain ⟨n0,n1⟩:=ZmW hr (by omega) b
  rw [Z2 (by simpa using b),Z2 b,ZeM 0 n0 n1]
  rfl
 rw [Z1 (by simpa using b),Z1 b]
 rfl
theorem Ziz (hf:f.length<N)(hN:2000<=N)(ha:∀ x∈f,x.Arms.length<1000000/\x.Arms.length<N):ZdZ N p f=some (ZiV p f):=by
 unfold ZdZ ZiV
 by_cases h1:1<=f.length/\f.length<=2000
 ·rw [Z1 (by simp;omega),decide_eq_true h1,Zi]
  have hm:ZgK 8 ((List.length f:Nat):Int) ((List.length f:Nat):Int) (0:Int)=some (List.replicate f.length 0):=by
   unfold ZgK
   rw [Z2 (by omega)]
   simp
  rw [hm,ZU]
  rw [ZkH (λk (s:List Int)=>(k,s)) (·.1) (λ_ _=>rfl) (body:=λx:Int×(List Int)=>ZbK N p f x.1 x.2) (step:=Zgx p f) (n:=f.length) (s0:=List.replicate f.length 0) (bad:=.inr false) (fin:=λs=>.inl s) (λk s hk hs=>by
    have hsl:s.length=f.length:=by
     rw [Zka] at hs
     by_cases q:allB k (Zbg p f)=true
     ·rw [Z2 q,ZW] at hs
      subst hs
      rw [Zem];simp
     rw [Z1 q] at hs;cases hs
    simp only [ZbK]
    rw [Z2 (by simpa using hk),Zbl hk,ZU]
    unfold Zgx
    have hb:=ha _ (List.getElem_mem hk)
    by_cases c0:0<=f[k].Stream
    ·by_cases c1:f[k].Stream<(p.Periods.length:Int)
     ·rw [Z1 (by simpa using c0),Z1 (by simpa using c1),Zjt hk c0 c1 hb.1 hb.2,ZU,ZU,Zdj hk,decide_eq_true (show 0<=f[k].Stream/\f[k].Stream<(p.Periods.length:Int) from ⟨c0,c1⟩),Zi]
      cases h2:Zhh p.Periods.length f.length k (p.Periods.getD f[k].Stream.toNat 0) f[k].Arms with
      | false=>rfl
      | true =>
       have hch:Zbg p f k=true:=by rw [Zdj hk,decide_eq_true (show 0<=f[k].Stream/\f[k].Stream<(p.Periods.length:Int) from ⟨c0,c1⟩),h2];rfl
       simp only [Bool.not_true,Zf,Z0,Z3]
       rw [Znr hch hsl ha (Zy hk),ZU,ZaS (by omega)]
     rw [Z1 (by simpa using c0),Z2 (by simpa using c1),ZU,Z2 rfl,Zdj hk,decide_eq_false (by omega)]
     rfl
    rw [Z2 (by simpa using c0),ZU,Z2 rfl,Zdj hk,decide_eq_false (by omega)]
    rfl) (λs _=>by simp [ZbK]) hf,ZU,Zka]
  cases hall:allB f.length (Zbg p f) with
  | false=>rfl
  | true =>
   simp only [Z3,Zi]
   have hnl:=Zem f (List.replicate f.length 0) f.length
   rw [List.length_replicate] at hnl
   obtain ⟨nm,hnm⟩:∃ nm,nm=Ze0 f f.length (List.replicate f.length 0):=⟨_,rfl⟩
   rw [← hnm] at hnl ⊢
   have hsub:subI nm 1 ((List.length nm:Nat):Int)=some (nm.drop 1):=by
    unfold subI
    rw [Z2 (by omega)]
    simp
   rw [hsub,ZU]
   rw [Zen (l:=nm.drop 1) (p:=λx=>x==1) (bad:=.inr false) (fin:=.inl ()) (λk hk=>?_) (by simp [Zb2]) (by rw [List.length_drop];omega),ZU]
   ·cases (nm.drop 1).all λx=>x==1<;>rfl
   simp only [Zb2]
   rw [Z2 (by simpa using hk),Zbl hk,ZU,ZaS (by rw [List.length_drop] at hk;omega)]
   by_cases e:(nm.drop 1)[k]=1
   ·rw [Z1 (by simpa using e),Z2 (by simpa using e)]
   rw [Z2 (by simpa using e),Z1 (by simpa using e)]
 rw [Z2 (by simp;omega),decide_eq_false h1]
 rfl
end
end Go.Sh

namespace Go.Sh
open Go Go.Eng
section
variable {N:Nat} {p:Z8} {f:List Z7}
theorem Zjj {c:Nat}{l:List Int}(h:Zbg p f c=true)(hl:l.length=f.length)(ha:∀ x∈f,x.Arms.length<1000000/\x.Arms.length<N) :
  ZaO (λy:Int×(List Int)=>Zcj N f (c:Int) y.1 y.2) N (0,l)=some (Zmn f c l):=by
 obtain ⟨hc,h0,h1,h2⟩:=Ze3 h
 have hb:=ha _ (List.getElem_mem hc)
 rw [ZlK hb.1 (λk m hk hm=>?_) (λm=>by simp [Zcj,Zbl hc]) hb.2]
 ·unfold Zmn
  rw [Zy hc]
 have hr:=Zjb h2 _ (List.getElem_mem hk)
 rw [← hl,← hm] at hr
 simp only [Zcj]
 simp only [Zbl hc,ZU]
 rw [Z2 (by simpa using hk)]
 simp only [Zbl hk,ZU]
 rw [ZaS (by omega)]
 unfold bump
 by_cases b:f[c].Arms[k].By = -1
 ·obtain ⟨n0,n1⟩:=ZmW hr (by omega) b
  rw [Z2 (by simpa using b),Z2 b,ZeM 0 n0 n1]
  rfl
 rw [Z1 (by simpa using b),Z1 b]
 rfl
theorem ZnU {l:List Int}(hall:allB f.length (Zbg p f)=true)(hl:l.length=f.length)(h2000:f.length<=2000)(ha:∀ x∈f,x.Arms.length<1000000/\x.Arms.length<N)(hf:f.length<N) :
  ZaO (λx:Int×(List Int)=>Zck N f x.1 x.2) N (0,l)=some (Ze0 f f.length l):=by
 obtain ⟨r,hr,e⟩:=Zbs (body:=λx:Int×(List Int)=>Zck N f x.1 x.2) (λx=>∃ k:Nat,x.1=k/\k<=f.length/\x.2=Ze0 f k l) (λx=>(f.length-x.1).toNat) (λr=>r=Ze0 f f.length l) (λx hx=>by
  obtain ⟨i,m⟩:=x
  obtain ⟨k,k1,k2,k3⟩:=hx
  simp only at k1 k3
  subst k1 k3
  simp only [Zck]
  by_cases c:k<f.length
  ·left
   refine ⟨(((k+1:Nat):Int),Ze0 f (k+1) l),?_,⟨k+1,rfl,by omega,rfl⟩,by simp;omega⟩
   rw [Z2 (by simpa using c),Zjj (ZdU.1 hall k c) (by rw [Zem];exact hl) ha,ZU,ZaS (by omega)]
   rfl
  right
  obtain rfl:k=f.length:=by omega
  exact ⟨_,by rw [Z1 (by simp)],rfl⟩) N (0,l) ⟨0,rfl,by omega,rfl⟩ (by simp;omega)
 rw [hr,e]
theorem Zkr (hp:∀ x∈p.Periods,1<=x)(hf:f.length<N)(hN:2000<=N)(ha:∀ x∈f,x.Arms.length<1000000/\x.Arms.length<N):ZeY N p f=some (ZiV p f):=by
 unfold ZeY ZiV
 by_cases h1:1<=f.length/\f.length<=2000
 ·rw [Z1 (by simp;omega),decide_eq_true h1,Zi]
  rw [Ze2 (n:=f.length) (p:=Zbg p f) (bad:=.inr false) (fin:=.inl ()) (λk hk=>by
    simp only [ZcU]
    rw [Z2 (by simpa using hk)]
    simp only [Zbl hk,ZU]
    have hb:=ha _ (List.getElem_mem hk)
    by_cases c0:0<=f[k].Stream
    ·by_cases c1:f[k].Stream<(p.Periods.length:Int)
     ·rw [Z1 (by simpa using c0),Z1 (by simpa using c1),Zkn hp hk c0 c1 hb.1 hb.2,ZU,ZU,Zdj hk,decide_eq_true (show 0<=f[k].Stream/\f[k].Stream<(p.Periods.length:Int) from ⟨c0,c1⟩),Zi,ZaS (by omega)]
      cases Zhh p.Periods.length f.length k (p.Periods.getD f[k].Stream.toNat 0) f[k].Arms<;>rfl
     rw [Z1 (by simpa using c0),Z2 (by simpa using c1),ZU,Z2 rfl,Zdj hk,decide_eq_false (by omega)]
     rfl
    rw [Z2 (by simpa using c0),ZU,Z2 rfl,Zdj hk,decide_eq_false (by omega)]
    rfl) (by simp [ZcU]) hf,ZU]
  cases hall:allB f.length (Zbg p f) with
  | false=>rfl
  | true =>
   simp only [Z3,Zi]
   have hm:ZgK 8 ((List.length f:Nat):Int) ((List.length f:Nat):Int) (0:Int)=some (List.replicate f.length 0):=by
    unfold ZgK
    rw [Z2 (by omega)]
    simp
   rw [hm,ZU,ZnU hall (by simp) h1.2 ha hf,ZU]
   have hnl:=Zem f (List.replicate f.length 0) f.length
   rw [List.length_replicate] at hnl
   obtain ⟨nm,hnm⟩:∃ nm,nm=Ze0 f f.length (List.replicate f.length 0):=⟨_,rfl⟩
   rw [← hnm] at hnl ⊢
   have key:=ZiR (l:=nm) (p:=λx=>x==1) (body:=λx:Int=>Zci N f nm x) (bad:=.inr false) (fin:=.inl ()) (λk hk=>by
    simp only [Zci]
    rw [Z2 (by simp;omega),Zbl hk,ZU,ZaS (by omega)]
    by_cases e:nm[k]=1
    ·rw [Z1 (by simpa using e),Z2 (by simpa using e)]
    rw [Z2 (by simpa using e),Z1 (by simpa using e)]) (by simp [Zci,hnl]) (nm.length-1) N 1 rfl (by omega) (by omega)
   have e1:((1:Nat):Int)=1:=rfl
   rw [e1] at key
   rw [key,ZU]
   cases (nm.drop 1).all λx=>x==1<;>rfl
 rw [Z2 (by simp;omega),decide_eq_false h1]
 rfl
end
end Go.Sh

namespace Go.Sh
open Go Go.Eng
def Zd1 (p:Z8)(l:List Int):Bool:=decide (l.length=p.Periods.length)&&allB l.length λk=>offB p k (l.getD k 0)
theorem ZmL {p:Z8}{l:List Int}(h:Zd1 p l=true):l.length=p.Periods.length/\∀ k,k<l.length->offB p k (l.getD k 0)=true:=by
 unfold Zd1 at h
 rw [Ze,ZZ,ZdU] at h
 exact h
theorem ZhW {N:Nat}(hN:2000<=N){p:Z8}(h:VP p)(l:List Int):Zdt N p l=some (Zd1 p l):=by
 have hl:=h.len
 unfold Zdt Zd1
 by_cases hc:l.length=p.Periods.length
 ·rw [Z1 (by simp [hc])]
  rw [Ze2 (n:=l.length) (p:=λk=>offB p k (l.getD k 0)) (bad:=.inr false) (fin:=.inl ()) (λk hk=>?_) (by simp [ZbO]) (by omega)]
  ·cases allB l.length λk=>offB p k (l.getD k 0)<;>simp [hc]
  simp only [ZbO]
  have hw:w64 ((k:Int)+1)=((k+1:Nat):Int):=ZaS (by omega)
  rw [Z2 (by simpa using hk),Zbl hk,ZU,Zis,ZU,hw,Za2 hk]
  cases offB p k l[k]<;>rfl
 rw [Z2 (by simp;omega)];simp [hc]
def ZkV:List Int:=[4,6,8,12,3,5,10,24]
theorem Zj8:∀ x∈ZkV,3<=x/\x<=24/\x.toNat∣120:=by decide
structure GP (p:Z8):Prop where
 prob:Zeh p=true
 len:p.Periods.length<=5
 uses:p.Uses.length<=12
 tab:∀ x∈p.Periods,x∈ZkV
 port:∀ u∈p.Uses,u.Port<4
theorem Zje {α:Type}{b:Nat}{l:List α}{x:α}(hl:l.length<=1000)(hb:b<=1000):appI b l [x]=some (l++[x]):=by
 refine ZbD ?_ (by omega)
 simp;omega
theorem Zfp {N:Nat}(hN:2000<=N){d:ZbG}(hd:ZeU d):∃ p,ZbF N d=some p/\GP p:=by
 obtain ⟨⟨_,d1⟩,⟨_,d2⟩⟩:=hd
 unfold ZbF
 obtain ⟨P,hP,P1,P2⟩:=Zbs (body:=λx:Int×(List Int)=>Za4 N d x.1 x.2) (λx=>0<=x.1/\x.1<=5/\(x.2.length:Int)=x.1/\∀ q∈x.2,q∈ZkV) (λx=>(5-x.1).toNat) (λl=>l.length<=5/\∀ q∈l,q∈ZkV) (λx hx=>by
  obtain ⟨i,l⟩:=x
  obtain ⟨i0,i1,i2,i3⟩:=hx
  simp only at i0 i1 i2 i3
  simp only [Za4]
  by_cases c:i<(d.Periods.length:Int)/\i<5
  ·left
   obtain ⟨k,rfl⟩:∃ k:Nat,i=k:=⟨i.toNat,by omega⟩
   have hk:k<d.Periods.length:=by omega
   have hb:0<=d.Periods[k]/\d.Periods[k]<=255:=(d1 _ (List.getElem_mem hk)).u8
   have hm0:=Int.emod_nonneg d.Periods[k] (show (8:Int)≠0 by decide)
   have hm1:=Int.emod_lt_of_pos d.Periods[k] (show (0:Int)<8 by decide)
   have ht:(d.Periods[k]%8).toNat<ZkV.length:=by simp [ZkV];omega
   refine ⟨(((k+1:Nat):Int),l++[ZkV[(d.Periods[k]%8).toNat]]),?_,⟨by omega,by omega,by simp;omega,λq hq=>?_⟩,by omega⟩
   ·rw [Z2 (by simp;omega),Zbl hk,ZU,Zj hb.1,show ([4,6,8,12,3,5,10,24]:List Int)=ZkV from rfl,Zof hm0 ht,ZU,Zje (by omega) (by omega),ZU,ZaS (by omega)]
   rcases List.mem_append.1 hq with q1|q1
   ·exact i3 q q1
   simp only [ZP] at q1
   subst q1
   exact List.getElem_mem ht
  right
  refine ⟨l,?_,by omega,i3⟩
  rw [Z1 (by simp;omega)]) N (0,[]) ⟨by omega,by omega,rfl,by simp⟩ (by simp;omega)
 rw [hP,ZU]
 have hper:P.all perB=true:=List.all_eq_true.2 λq hq=>by
  have:=Zj8 q (P2 q hq)
  exact ZgG.2 (by omega)
 obtain ⟨U,hU,U1,U2⟩:=Zbs (body:=λx:Int×(List ZaJ)=>Za3 N d P x.1 x.2) (λx=>0<=x.1/\x.1<=12/\(x.2.length:Int)=x.1/\∀ u∈x.2,useB P u=true/\u.Port<4) (λx=>(12-x.1).toNat) (λl=>l.length<=12/\∀ u∈l,useB P u=true/\u.Port<4) (λx hx=>by
  obtain ⟨i,l⟩:=x
  obtain ⟨i0,i1,i2,i3⟩:=hx
  simp only at i0 i1 i2 i3
  simp only [Za3]
  by_cases c:i<(d.Uses.length:Int)/\i<12/\0<P.length
  ·left
   obtain ⟨c1,c2,c3⟩:=c
   obtain ⟨k,rfl⟩:∃ k:Nat,i=k:=⟨i.toNat,by omega⟩
   have hk:k<d.Uses.length:=by omega
   obtain ⟨b0,b1,b2,b3⟩:=d2 _ (List.getElem_mem hk)
   have b0:0<=d.Uses[k].x0/\d.Uses[k].x0<=255:=b0.u8
   have b1:0<=d.Uses[k].x1/\d.Uses[k].x1<=255:=b1.u8
   have b2:0<=d.Uses[k].x2/\d.Uses[k].x2<=255:=b2.u8
   have b3:0<=d.Uses[k].x3/\d.Uses[k].x3<=255:=b3.u8
   have s0:=Int.emod_nonneg d.Uses[k].x0 (show (P.length:Int)≠0 by omega)
   have s1:=Int.emod_lt_of_pos d.Uses[k].x0 (show 0<(P.length:Int) by omega)
   have hn:(d.Uses[k].x0%(P.length:Int)).toNat<P.length:=by omega
   obtain ⟨n,en⟩:∃ n,n=P[(d.Uses[k].x0%(P.length:Int)).toNat]:=⟨_,rfl⟩
   have hn3:=Zj8 n (P2 n (by rw [en];exact List.getElem_mem hn))
   have f0:=Int.emod_nonneg d.Uses[k].x2 (show n≠0 by omega)
   have f1:=Int.emod_lt_of_pos d.Uses[k].x2 (show 0<n by omega)
   have g0:=Int.emod_nonneg d.Uses[k].x3 (show n≠0 by omega)
   have g1:=Int.emod_lt_of_pos d.Uses[k].x3 (show 0<n by omega)
   have g2:=Int.emod_nonneg (d.Uses[k].x3%n) (show (4:Int)≠0 by decide)
   have g3:=Int.emod_lt_of_pos (d.Uses[k].x3%n) (show (0:Int)<4 by decide)
   have g4:=Int.emod_nonneg (d.Uses[k].x3%n%4) (show n≠0 by omega)
   have g5:=Int.emod_lt_of_pos (d.Uses[k].x3%n%4) (show 0<n by omega)
   have p0:=Int.emod_nonneg d.Uses[k].x1 (show (4:Int)≠0 by decide)
   have p1:=Int.emod_lt_of_pos d.Uses[k].x1 (show (0:Int)<4 by decide)
   refine ⟨(((k+1:Nat):Int),l++[⟨d.Uses[k].x0%P.length,d.Uses[k].x1%4,d.Uses[k].x2%n,1+d.Uses[k].x3%n%4%n⟩]),?_,⟨by omega,by omega,by simp;omega,λu hu=>?_⟩,by omega⟩
   ·rw [Z2 (by simp;omega),Z2 (by simp;omega)]
    simp only [ZU]
    rw [Z2 (by simp;omega),Zbl hk,ZU,Zbc (by omega) (by omega),Zbx (by omega),ZU,Zj b0.1,Zof s0 hn,ZU,← en,
     Zbc (x:=d.Uses[k].x2) (by omega) (by omega),Zbx (by omega),ZU,Zbc (x:=d.Uses[k].x3) (by omega) (by omega),Zbx (by omega),ZU,Zbx (by omega),ZU,
     Zj b1.1,Zj b2.1,Zj b3.1,Zj g0,Zj g2,Zbc (x:=d.Uses[k].x1%4) (by omega) (by omega),Zbc (x:=1+_) (by omega) (by omega),Zje (by omega) (by omega),ZU,ZaS (by omega)]
   rcases List.mem_append.1 hu with q1|q1
   ·exact i3 u q1
   simp only [ZP] at q1
   subst q1
   refine ⟨ZeD.2 ?_,p1⟩
   unfold perU
   simp only
   rw [Za2 hn,← en]
   omega
  right
  refine ⟨l,?_,by omega,i3⟩
  by_cases c1:i<(d.Uses.length:Int)
  ·rw [Z2 (by simpa using c1)]
   by_cases c2:i<12
   ·rw [Z2 (by simpa using c2),ZU,Z1 (by rw [ZZ];omega)]
   rw [Z1 (by simpa using c2),ZU,Z1 (by simp)]
  rw [Z1 (by simpa using c1),ZU,Z1 (by simp)]) N (0,[]) ⟨by omega,by omega,rfl,by simp⟩ (by simp;omega)
 rw [hU,ZU]
 refine ⟨_,rfl,?_,P1,U1,P2,λu hu=>(U2 u hu).2⟩
 rw [Zlj]
 refine ⟨by show P.length<=12;omega,by show U.length<=192;omega,hper,List.all_eq_true.2 λu hu=>(U2 u hu).1,?_⟩
 have hdv:lcmL P∣120:=ZhB.2 λq hq=>(Zj8 q (P2 q hq)).2.2
 have:=Nat.le_of_dvd (by decide) hdv
 show lcmL P<=960
 omega
theorem Zks {N:Nat}(hN:2000<=N){p:Z8}(h:VP p){a:List Int}(ha:∀ x∈a,InK .u8 x):∃ l,Zdc N p a=some l/\Zd1 p l=true:=by
 have hlen:=h.len
 unfold Zdc
 obtain ⟨l,hl,l1,l2⟩:=Zbs (body:=λx:Int×(List Int)=>ZcV N p a x.1 x.2) (λx=>0<=x.1/\x.1<=p.Periods.length/\(x.2.length:Int)=x.1/\∀ k,k<x.2.length->offB p k (x.2.getD k 0)=true) (λx=>(p.Periods.length-x.1).toNat) (λl=>l.length=p.Periods.length/\∀ k,k<l.length->offB p k (l.getD k 0)=true) (λx hx=>by
  obtain ⟨i,l⟩:=x
  obtain ⟨i0,i1,i2,i3⟩:=hx
  simp only at i0 i1 i2 i3
  simp only [ZcV]
  by_cases c:i<(p.Periods.length:Int)
  ·left
   obtain ⟨k,rfl⟩:∃ k:Nat,i=k:=⟨i.toNat,by omega⟩
   have hk:k<p.Periods.length:=by omega
   have hq:=h.per _ (List.getElem_mem hk)
   have key:∃ x,(if (decide ((k:Int)<((List.length a:Nat):Int))) then ((idx a k).bind λe1010=>((idx p.Periods k).bind λe1011=>((remI (w64 (e1010)) e1011).bind λm1012=>(some m1012)))) else (some 0))=some x/\0<=x/\x<p.Periods[k]:=by
    by_cases c2:k<a.length
    ·have hb:0<=a[k]/\a[k]<=255:=(ha _ (List.getElem_mem c2)).u8
     refine ⟨a[k]%p.Periods[k],?_,Int.emod_nonneg _ (by omega),Int.emod_lt_of_pos _ (by omega)⟩
     rw [Z2 (by simpa using c2),Zbl c2,ZU,Zbl hk,ZU,Zbc (by omega) (by omega),Zbx (by omega),ZU,Zj hb.1]
    exact ⟨0,by rw [Z1 (by simpa using c2)],by omega,by omega⟩
   obtain ⟨x,hx,x0,x1⟩:=key
   refine ⟨(((k+1:Nat):Int),l++[x]),?_,⟨by omega,by omega,by simp;omega,λm hm=>?_⟩,by omega⟩
   ·rw [Z2 (by simpa using c),hx,ZU,Zje (by omega) (by omega),ZU,ZaS (by omega)]
   simp only [ZE,ZF,ZH] at hm
   by_cases e:m<l.length
   ·have:=i3 m e
    rw [Za2 e] at this
    rw [Za2 (by simp;omega),List.getElem_append_left e]
    exact this
   obtain rfl:m=k:=by omega
   rw [Za2 (by simp;omega),List.getElem_append_right (by omega)]
   simp only [show m-l.length=0 by omega,List.getElem_cons_zero]
   rw [ZbT]
   simp only [Zk]
   rw [Za2 hk]
   omega
  right
  refine ⟨l,?_,by omega,i3⟩
  rw [Z1 (by simpa using c)]) N (0,[]) ⟨by omega,by simp,rfl,by simp⟩ (by simp;omega)
 rw [hl,ZU]
 refine ⟨l,rfl,?_⟩
 unfold Zd1
 rw [Ze,ZZ,ZdU]
 exact ⟨l1,l2⟩
end Go.Sh
namespace Go.Sh
open Go Go.Eng
theorem ZlN (n:Nat)(p:Nat->Bool):allB (n+1) p=(allB n p&&p n):=by
 unfold allB
 rw [List.range_succ,List.all_append]
 simp
def Zb6 (p:Z8)(l:List Int)(by_:Int)(n:Nat):List Int:=(List.range n).map λk=>(l.getD k 0+by_)%(p.Periods.getD k 0)
theorem Zg8 {p:Z8}{l:List Int}{by_:Int}{n k:Nat}(hk:k<n):(Zb6 p l by_ n).getD k 0=(l.getD k 0+by_)%(p.Periods.getD k 0):=by
 rw [Za2 (by simpa [Zb6] using hk)]
 simp [Zb6]
theorem Zn3 {p:Z8}(h:VP p){l:List Int}(ho:Zd1 p l=true)(by_:Int):Zd1 p (Zb6 p l by_ l.length)=true:=by
 obtain ⟨h1,h2⟩:=ZmL ho
 unfold Zd1
 rw [Ze,ZZ,ZdU]
 have hl:(Zb6 p l by_ l.length).length=l.length:=by simp [Zb6]
 refine ⟨by omega,λk hk=>?_⟩
 rw [hl] at hk
 rw [Zg8 hk,ZbT]
 simp only [Zk]
 rw [Za2 (show k<p.Periods.length by omega)]
 have:=h.per _ (List.getElem_mem (show k<p.Periods.length by omega))
 have a:=Int.emod_nonneg (l.getD k 0+by_) (show p.Periods[k]≠0 by omega)
 have b:=Int.emod_lt_of_pos (l.getD k 0+by_) (show 0<p.Periods[k] by omega)
 omega
theorem Zii {p:Z8}(h:VP p){u:ZaJ}(hu:u∈p.Uses){i:Nat}(hi:u.Stream=(i:Int))(x by_:Int):ZdF p u ((x+by_)%p.Periods.getD i 0)=shift (ZdF p u x) by_:=by
 have e:perU p.Periods u=p.Periods.getD i 0:=by unfold perU;rw [hi];simp
 unfold ZdF shift
 simp only [← e]
 congr 1
 rw [Int.emod_add_emod,Int.add_emod_emod,Int.add_assoc]
theorem Zl9 {p:Z8}(h:VP p)(i j:Nat)(a b by_:Int):ZdG p i ((a+by_)%p.Periods.getD i 0) j ((b+by_)%p.Periods.getD j 0)=ZdG p i a j b:=by
 unfold ZdG
 congr 1
 refine ZjW λk hk=>ZjW λm hm=>?_
 congr 1
 unfold hitB
 rw [Za2 hk,Za2 hm,Bool.eq_iff_iff]
 simp only [Ze,ZZ,beq_iff_eq,Zg,decide_eq_false_iff_not]
 refine and_congr_right λ_=>and_congr_right λc=>and_congr_right λd=>and_congr_right λ_=>?_
 rw [Zii h (List.getElem_mem hk) c,Zii h (List.getElem_mem hm) d,ZnO (h.vspan (List.getElem_mem hk) a) (h.vspan (List.getElem_mem hm) b)]
end Go.Sh
namespace Go.Sh
open Go Go.Eng
theorem Zn6 {κ υ:Type}[DecidableEq κ](m:List (κ×υ))(x y:κ)(v:υ):Zfe (Zgn m x v) y=if x=y then some v else Zfe m y:=by
 induction m with
 | nil =>
  unfold Zgn Zfe
  by_cases h:x=y<;>simp [h]
 | cons q m ih =>
  unfold Zgn
  by_cases h:q.1=x
  ·rw [Z2 h]
   unfold Zfe
   rw [Zr,Zr]
   by_cases e:x=y
   ·simp [e]
   simp [e,h]
  rw [Z1 h]
  have e1:Zfe (q::Zgn m x v) y=if q.1=y then some q.2 else Zfe (Zgn m x v) y:=by
   unfold Zfe
   rw [Zr]
   by_cases e:q.1=y<;>simp [e]
  have e2:Zfe (q::m) y=if q.1=y then some q.2 else Zfe m y:=by
   unfold Zfe
   rw [Zr]
   by_cases e:q.1=y<;>simp [e]
  rw [e1,e2,ih]
  by_cases e:q.1=y
  ·rw [Z2 e,Z2 e,Z1 (λe3=>h (by rw [e,e3]))]
  rw [Z1 e,Z1 e]
section
variable {N:Nat} {p:Z8}
def MOK (p:Z8)(m:List (Zam×Bool)):Prop:=∀ k b,Zfe m k=some b->b=(ZeB p k.i k.x_ k.j 0).1
theorem MOK.nil:MOK p []:=λk b h=>by simp [Zfe] at h
theorem MOK.set {m:List (Zam×Bool)}(h:MOK p m)(k:Zam):MOK p (Zgn m k (ZeB p k.i k.x_ k.j 0).1):=λk' b hb=>by
 rw [Zn6] at hb
 by_cases e:k=k'
 ·rw [Z2 e,ZW] at hb
  rw [← hb,e]
 rw [Z1 e] at hb
 exact h k' b hb
theorem Zhv {x y per:Int}(hp:1<=per)(hp2:per<=1000)(hx:0<=x)(hx2:x<=1000)(hy:0<=y)(hy2:y<=1000):ZeZ N (w64 (x-y)) per=some ((x-y)%per):=by
 unfold ZeZ
 have h1:=Int.lt_tmod_of_pos (x-y) (show 0<per by omega)
 have h2:=Int.tmod_lt_of_pos (x-y) (show 0<per by omega)
 rw [Zbc (x:=x-y) (by omega) (by omega),Zbx (by omega),ZU,Zbc (by omega) (by omega),Zbx (by omega),ZU,Zj6 (by omega)]
theorem Zo5 (hN:2000<=N)(hp:Zeh p=true){r:List (Zam×Bool)}{m:List (Zam×Bool)}(hm:MOK p m){i j:Nat}{x y:Int}(hi:offB p i x=true)(hj:offB p j y=true)(hij:i=j->x=y) :
  ∃ m',Zbq N (p,r) m i x j y=some (m',ZdG p i x j y)/\MOK p m':=by
 have h:=VP.of hp
 obtain ⟨i0,i1,x0,x1⟩:=ZbT.1 hi
 obtain ⟨j0,j1,y0,y1⟩:=ZbT.1 hj
 have xl:=ZiI h hi;have yl:=ZiI h hj
 have hpi:p.Periods.getD i 0∈p.Periods:=by rw [Za2 (by omega)];exact List.getElem_mem _
 have hpj:p.Periods.getD j 0∈p.Periods:=by rw [Za2 (by omega)];exact List.getElem_mem _
 have pi:=h.per _ hpi;have pj:=h.per _ hpj
 simp only [Zk] at x1 y1
 obtain ⟨q,hq⟩:∃ q,q=(x-y)%p.Periods.getD i 0:=⟨_,rfl⟩
 have q0:0<=q:=by rw [hq];exact Int.emod_nonneg _ (by omega)
 have q1:q<p.Periods.getD i 0:=by rw [hq];exact Int.emod_lt_of_pos _ (by omega)
 have ec:ZeB p i q j 0=(ZdG p i x j y,0):=by
  unfold ZeB
  have ea:argB p i q j 0=true:=by
   unfold argB
   have o1:offB p i q=true:=ZbT.2 ⟨by omega,by omega,q0,by rw [Zk];exact q1⟩
   have o2:offB p j 0=true:=ZbT.2 ⟨by omega,by omega,by omega,by rw [Zk];omega⟩
   rw [o1,o2]
   by_cases e:i=j
   ·have:=hij e
    have hz:q=0:=by rw [hq,this];simp
    simp [hz]
   have:¬ ((i:Int)=(j:Int)):=by omega
   simp [this]
  rw [Z2 hp,Z2 ea]
  congr 1
  have:=Zl9 h i j x y (-y)
  rw [show y + -y=0 by omega,Int.zero_emod,show x + -y=x-y by omega,← hq] at this
  exact this
 unfold Zbq
 simp only
 rw [show idx p.Periods ((i:Nat):Int)=some (p.Periods.getD i 0) by rw [Zbl (by omega),Za2 (by omega)],ZU,Zhv pi.1 (by omega) x0 (by omega) y0 (by omega),ZU,← hq]
 cases hg:Zfe m (Zam.mk i q j) with
 | some b =>
  have hb:=hm _ _ hg
  simp only [ec] at hb
  refine ⟨m,?_,hm⟩
  unfold mhas Zn7
  rw [hg]
  simp [hb]
 | none =>
  refine ⟨Zgn m (Zam.mk i q j) (ZeB p i q j 0).1,?_,hm.set (Zam.mk i q j)⟩
  unfold mhas
  rw [hg,Z2 (by simp),Zh2 hN,ec]
  rfl
end
end Go.Sh

namespace Go.Sh
open Go Go.Eng
section
variable {N:Nat} {p:Z8}
def AOK (p:Z8)(g:Zad):Prop:=∀ k:Nat,k<p.Periods.length->g.l.getD k 0 = -1∨offB p k (g.l.getD k 0)=true
theorem Zd3 (g:Zad){k:Nat}(h:k<12):g.get (k:Int)=some (g.l.getD k 0):=by
 have hl:g.l.length=12:=rfl
 unfold Zad.get
 rw [Zbl (by omega),Za2 (by omega)]
theorem Zja (g:Zad)(k j:Nat)(x:Int)(h:k<12):(g.set k x).l.getD j 0=if j=k then x else g.l.getD j 0:=by
 have hl:g.l.length=12:=rfl
 rw [Zad.l_set,Zk]
 simp only [Zs,ZB]
 by_cases e:k=j
 ·subst e
  rw [Z2 rfl,Z2 (by omega),Z2 rfl]
  rfl
 rw [Z1 e,Z1 (Ne.symm e)]
theorem AOK.set {g:Zad}(h:AOK p g)(hP:p.Periods.length<=12){s:Nat}(hs:s<p.Periods.length){x:Int}(hx:offB p s x=true):AOK p (g.set s x):=λk hk=>by
 rw [Zja g s k x (by omega)]
 by_cases e:k=s
 ·subst e;rw [Z2 rfl];exact .inr hx
 rw [Z1 e];exact h k hk
def othO (g:Zad)(s b:Nat)(x:Int):Int:=if b=s then x else g.l.getD b 0
def refB (p:Z8)(s:Nat)(g:Zad)(a:Zax):Bool :=
 (decide (a.By.toNat=s) || !(g.l.getD a.By.toNat 0 == -1))&&allB (a.To-a.From).toNat λk=>ZdG p s (a.From+k) a.By.toNat (othO g s a.By.toNat (a.From+k))
structure Zmu (p:Z8) (s:Nat) (a:Zax):Prop where
 f0:0<=a.From
 lt:a.From<a.To
 le:a.To<=p.Periods.getD s 0
theorem ZkA {s:Nat}{a:Zax}(ha:Zmu p s a)(hs:s<p.Periods.length){k:Nat}(hk:k<(a.To-a.From).toNat):offB p s (a.From+k)=true:=by
 have:=ha.f0;have:=ha.lt;have:=ha.le
 exact ZbT.2 ⟨by omega,by omega,by omega,by rw [Zk];omega⟩
theorem ZhZ (hN:2000<=N)(hp:Zeh p=true){r m:List (Zam×Bool)}(hm:MOK p m){s:Nat}(hs:s<p.Periods.length){a:Zax}(ha:Zmu p s a)(b0:0<=a.By)(b1:a.By<(p.Periods.length:Int)){g:Zad}(hg:AOK p g) :
  ∃ m',Zdu N (λ(s:(List (Zam×Bool))) (x2578:Int) (x2579:Int) (x2580:Int) (x2581:Int)=>Zbq N (p,r) s x2578 x2579 x2580 x2581) (s:Int) g a m=some (m',refB p s g a)/\MOK p m':=by
 have h:=VP.of hp
 have hP:=h.len
 obtain ⟨b,hb⟩:∃ b:Nat,a.By=b:=⟨a.By.toNat,by omega⟩
 have f0:=ha.f0;have lt:=ha.lt;have le:=ha.le
 have hps:p.Periods.getD s 0∈p.Periods:=by rw [Za2 hs];exact List.getElem_mem _
 have ps:=h.per _ hps
 have hbn:a.By.toNat=b:=by omega
 unfold Zdu refB
 rw [hbn]
 by_cases none1:a.By≠s/\g.l.getD b 0 = -1
 ·have e1:(decide (b=s) || !(g.l.getD b 0 == -1))=false:=by
   rw [decide_eq_false (by omega),none1.2];rfl
  rw [e1,Bool.false_and]
  refine ⟨m,?_,hm⟩
  rw [Z2 (by simpa using none1.1),hb,Zd3 g (by omega),ZU,none1.2]
  rfl
 have e1:(decide (b=s) || !(g.l.getD b 0 == -1))=true:=by
  by_cases q:b=s
  ·simp [q]
  have:¬ g.l.getD b 0 = -1:=λe=>none1 ⟨by omega,e⟩
  rw [beq_eq_false_iff_ne.2 this];simp
 rw [e1,Zi]
 have e2:(if (a.By != (s:Int))=true then ((g.get a.By).bind λe2=>(some (e2==(-1)))) else (some false))=some false:=by
  by_cases q:a.By=s
  ·rw [Z1 (by simpa using q)]
  rw [Z2 (by simpa using q),hb,Zd3 g (by omega),ZU]
  have:¬ g.l.getD b 0 = -1:=λe=>none1 ⟨q,e⟩
  rw [beq_eq_false_iff_ne.2 this]
 rw [e2,ZU,Z1 (by simp)]
 obtain ⟨n,hn⟩:∃ n,n=(a.To-a.From).toNat:=⟨_,rfl⟩
 rw [← hn]
 obtain ⟨o,ho,eo⟩:=Zbs (body:=λx:Int×(List (Zam×Bool))=>ZbP N (λ(s:(List (Zam×Bool))) (x2578:Int) (x2579:Int) (x2580:Int) (x2581:Int)=>Zbq N (p,r) s x2578 x2579 x2580 x2581) (s:Int) g a x.1 x.2)
  (λx=>∃ k:Nat,x.1=a.From+k/\k<=n/\MOK p x.2/\allB k (λk=>ZdG p s (a.From+k) b (othO g s b (a.From+k)))=true) (λx=>(a.To-x.1).toNat)
  (λo=>∃ m',MOK p m'/\((o=.inl m'/\allB n (λk=>ZdG p s (a.From+k) b (othO g s b (a.From+k)))=true)∨(o=.inr (m',false)/\allB n (λk=>ZdG p s (a.From+k) b (othO g s b (a.From+k)))=false))) (λx hx=>by
   obtain ⟨i,m1⟩:=x
   obtain ⟨k,k1,k2,k3,k4⟩:=hx
   simp only at k1 k3
   subst k1
   simp only [ZbP]
   by_cases c:k<n
   ·rw [Z2 (by simp;omega),hb,Zd3 g (by omega),ZU]
    have hx:=ZkA ha hs (k:=k) (by omega)
    have ej:(if ((b:Int)==(s:Int))=true then (some (a.From+(k:Int))) else (some (g.l.getD b 0)))=some (othO g s b (a.From+k)):=by
     unfold othO
     by_cases q:b=s
     ·rw [Z2 (by rw [beq_iff_eq];omega),Z2 q]
     rw [Z1 (by rw [beq_iff_eq];omega),Z1 q]
    rw [ej,ZU]
    have hy:offB p b (othO g s b (a.From+k))=true:=by
     unfold othO
     by_cases q:b=s
     ·rw [Z2 q,q];exact hx
     rw [Z1 q]
     rcases hg b (by omega) with e|e
     ·exact absurd ⟨by omega,e⟩ none1
     exact e
    obtain ⟨m2,hm2,hk2⟩:=Zo5 (N:=N) hN hp (r:=r) k3 hx hy (λe=>by unfold othO;rw [Z2 e.symm])
    rw [hm2,ZU]
    cases hme:ZdG p s (a.From+k) b (othO g s b (a.From+k)) with
    | true =>
     left
     refine ⟨(a.From+((k+1:Nat):Int),m2),?_,⟨k+1,rfl,by omega,hk2,by rw [ZlN,k4,hme];rfl⟩,by simp only;omega⟩
     rw [Z1 (by simp),Zbc (by omega) (by omega)]
     congr 3
     omega
    | false =>
     right
     refine ⟨_,by rw [Z2 (by simp)],m2,hk2,.inr ⟨rfl,?_⟩⟩
     cases hq:allB n (λk=>ZdG p s (a.From+k) b (othO g s b (a.From+k))) with
     | false=>rfl
     | true=>have:=ZdU.1 hq k c;rw [hme] at this;cases this
   right
   obtain rfl:k=n:=by omega
   exact ⟨.inl m1,by rw [Z1 (by simp;omega)],m1,k3,.inl ⟨rfl,k4⟩⟩) N (a.From,m) ⟨0,by simp,by omega,hm,by simp [allB]⟩ (by simp only;omega)
 obtain ⟨m',hm',h1|h1⟩:=eo
 ·obtain ⟨rfl,h2⟩:=h1
  exact ⟨m',by rw [ho,ZU,h2],hm'⟩
 obtain ⟨rfl,h2⟩:=h1
 exact ⟨m',by rw [ho,ZU,h2],hm'⟩
end
end Go.Sh

namespace Go.Sh
open Go Go.Eng
section
variable {N:Nat} {p:Z8}
theorem Zkl (hN:2000<=N)(hp:Zeh p=true){s:Nat}(hs:s<p.Periods.length){e1:Z7}(hst:e1.Stream=s){a:Zax}(ha:Zmu p s a)(b0:0<=a.By)(b1:a.By<(p.Periods.length:Int)){g:Zad}(hg:AOK p g) :
  ZaO (λx:Int=>Zbp N p g e1 a x) N a.From=some (if refB p s g a=true then .inl () else .inr false):=by
 have h:=VP.of hp
 have hP:=h.len
 obtain ⟨b,hb⟩:∃ b:Nat,a.By=b:=⟨a.By.toNat,by omega⟩
 have f0:=ha.f0;have lt:=ha.lt;have le:=ha.le
 have hps:p.Periods.getD s 0∈p.Periods:=by rw [Za2 hs];exact List.getElem_mem _
 have ps:=h.per _ hps
 have hbn:a.By.toNat=b:=by omega
 obtain ⟨n,hn⟩:∃ n,n=(a.To-a.From).toNat:=⟨_,rfl⟩
 have hget:g.get a.By=some (g.l.getD b 0):=by rw [hb,Zd3 g (by omega)]
 have ej:∀ i:Int,(if (a.By==e1.Stream)=true then (some i) else (some (g.l.getD b 0)))=some (othO g s b i):=λi=>by
  unfold othO
  by_cases q:b=s
  ·rw [Z2 (by rw [beq_iff_eq];omega),Z2 q]
  rw [Z1 (by rw [beq_iff_eq];omega),Z1 q]
 by_cases none1:a.By≠s/\g.l.getD b 0 = -1
 ·have e2:refB p s g a=false:=by
   unfold refB
   rw [hbn,decide_eq_false (by omega),none1.2];rfl
  rw [e2,Z1 (by simp)]
  obtain ⟨N',rfl⟩:∃ N',N=N'+1:=⟨N-1,by omega⟩
  refine Za7 ?_
  simp only [Zbp]
  have eo:othO g s b a.From = -1:=by unfold othO;rw [Z1 (by omega),none1.2]
  rw [Z2 (by simp only [Ze,ZZ];omega),hget,ZU,ej,ZU,eo,Z2 (by decide),ZU,Z2 rfl]
 have e1':(decide (b=s) || !(g.l.getD b 0 == -1))=true:=by
  by_cases q:b=s
  ·simp [q]
  have:¬ g.l.getD b 0 = -1:=λe=>none1 ⟨by omega,e⟩
  rw [beq_eq_false_iff_ne.2 this];simp
 have er:refB p s g a=allB n (λk=>ZdG p s (a.From+k) b (othO g s b (a.From+k))):=by
  unfold refB
  rw [hbn,e1',Zi,hn]
 rw [er]
 obtain ⟨o,ho,eo⟩:=Zbs (body:=λx:Int=>Zbp N p g e1 a x)
  (λx=>∃ k:Nat,x=a.From+k/\k<=n/\allB k (λk=>ZdG p s (a.From+k) b (othO g s b (a.From+k)))=true) (λx=>(a.To-x).toNat)
  (λo=>o=if allB n (λk=>ZdG p s (a.From+k) b (othO g s b (a.From+k)))=true then .inl () else .inr false) (λx hx=>by
   obtain ⟨k,rfl,k2,k4⟩:=hx
   simp only [Zbp]
   by_cases c:k<n
   ·rw [Z2 (by simp only [Ze,ZZ];omega),hget,ZU,ej,ZU]
    have hx:=ZkA ha hs (k:=k) (by omega)
    have hy:offB p b (othO g s b (a.From+k))=true:=by
     unfold othO
     by_cases q:b=s
     ·rw [Z2 q,q];exact hx
     rw [Z1 q]
     rcases hg b (by omega) with e|e
     ·exact absurd ⟨by omega,e⟩ none1
     exact e
    have xl:=ZiI h hx;have yl:=ZiI h hy
    rw [Z1 (by rw [ZZ];omega),hst,hb,Zga hN h (by omega) (by omega) (by omega) (by omega),ZU,ZU]
    cases hme:ZdG p s (a.From+k) b (othO g s b (a.From+k)) with
    | true =>
     left
     refine ⟨a.From+((k+1:Nat):Int),?_,⟨k+1,rfl,by omega,by rw [ZlN,k4,hme];rfl⟩,by omega⟩
     rw [Z1 (by simp),Zbc (by omega) (by omega)]
     congr 2
     omega
    | false =>
     right
     refine ⟨_,by rw [Z2 (by simp)],?_⟩
     cases hq:allB n (λk=>ZdG p s (a.From+k) b (othO g s b (a.From+k))) with
     | false=>rfl
     | true=>have:=ZdU.1 hq k c;rw [hme] at this;cases this
   right
   obtain rfl:k=n:=by omega
   exact ⟨.inl (),by rw [Z1 (by simp only [Ze,ZZ];omega)],by rw [k4,Z2 rfl]⟩) N a.From ⟨0,by simp,by omega,by simp [allB]⟩ (by omega)
 rw [ho,eo]
end
end Go.Sh

namespace Go.Sh
open Go Go.Eng
section
variable {N:Nat} {p:Z8} {f:List Z7}
theorem Zge {nP len c per:Int}{l:List Zax}:∀ {k:Nat} {e:Int},upF (Zc0 nP len c per l) k 0=some e->0<=e
 | 0,e,h=>by simp only [upF,ZW] at h;omega
 | k+1,e,h=>by
  simp only [upF] at h
  obtain ⟨s,h1,h2⟩:=bind_some h
  have:=Zge h1
  unfold Zc0 at h2
  obtain ⟨a,h3,h4⟩:=bind_some h2
  by_cases q:ZgU nP len c per s a=true
  ·rw [Z2 q,ZW] at h4
   obtain ⟨a1,a2,_⟩:=Zep q
   omega
  rw [Z1 q] at h4;cases h4
theorem Zjc {c:Nat}(h:Zbg p f c=true):∃ (hc:c<f.length) (s:Nat),f[c].Stream=s/\s<p.Periods.length/\∀ a∈f[c].Arms,Zmu p s a/\ZbH p.Periods.length f.length c a=true:=by
 obtain ⟨hc,h0,h1,h2⟩:=Ze3 h
 refine ⟨hc,f[c].Stream.toNat,by omega,by omega,λa ha=>?_⟩
 have hr:=Zjb h2 a ha
 refine ⟨?_,hr⟩
 obtain ⟨k,hk,rfl⟩:=List.getElem_of_mem ha
 unfold Zhh at h2
 cases hu:upF (Zc0 p.Periods.length f.length c (p.Periods.getD f[c].Stream.toNat 0) f[c].Arms) f[c].Arms.length 0 with
 | none=>rw [hu] at h2;cases h2
 | some s =>
  obtain ⟨s1,s2,h3,h4⟩:=ZlW hu k hk
  have:=Zge h3
  unfold Zc0 at h4
  rw [Zy hk,ZU] at h4
  by_cases q:ZgU p.Periods.length f.length c (p.Periods.getD f[c].Stream.toNat 0) s1 f[c].Arms[k]=true
  ·obtain ⟨a1,a2,a3,_⟩:=Zep q
   exact ⟨by omega,a2,a3⟩
  rw [Z1 q] at h4;cases h4
def armH (p:Z8)(s:Nat)(g:Zad)(rec_:Nat->Zad->Bool)(a:Zax):Bool :=
 if a.By = -1 then rec_ a.Next.toNat (g.set s a.From) else if 0<=a.By then refB p s g a else true
def hB (p:Z8)(f:List Z7):Nat->Nat->Zad->Bool
 | 0,_,_=>false
 | n+1,c,g=>match f[c]? with
  | none=>false
  | some x=>(g.l.getD x.Stream.toNat 0 == -1)&&x.Arms.all (armH p x.Stream.toNat g (hB p f n))
theorem Zh4 (hp:Zeh p=true)(hall:∀ c,c<f.length->Zbg p f c=true){M:Nat}(hM:2000<=M)(ha:∀ x∈f,x.Arms.length<1000000/\x.Arms.length<M) :
  ∀ (n N c:Nat) (g:Zad),c<f.length->f.length-c<=n->M+n<=N->AOK p g->ZdL N p f c g=some (hB p f n c g)
 | 0,_,c,_,h1,h2,_,_=>by omega
 | n+1,0,c,g,h1,h2,h3,hg=>by omega
 | n+1,N+1,c,g,h1,h2,h3,hg=>by
  have hP:=(VP.of hp).len
  obtain ⟨hc,s,hs,hsl,harm⟩:=Zjc (hall c h1)
  have hb:=ha _ (List.getElem_mem hc)
  have hst:f[c].Stream.toNat=s:=by omega
  show Zdr N (ZdL N) p f (c:Int) g=_
  unfold Zdr hB
  rw [Zy hc]
  simp only
  rw [Zbl hc,ZU,hs,Zd3 g (by omega),ZU,Zk]
  by_cases hz:g.l.getD s 0 = -1
  ·rw [Z1 (by rw [ZZ];omega),beq_iff_eq.2 hz,Zi]
   rw [Zen (l:=f[c].Arms) (p:=armH p s g (hB p f n)) (bad:=.inr false) (fin:=.inl ()) (λk hk=>?_) (by simp [Zcu,Zbl hc]) (by omega),ZU]
   ·cases f[c].Arms.all (armH p s g (hB p f n))<;>rfl
   obtain ⟨hok,hre⟩:=harm _ (List.getElem_mem hk)
   have f0:=hok.f0;have lt:=hok.lt;have le:=hok.le
   simp only [Zcu]
   rw [Zbl hc,ZU,Z2 (by simpa using hk),ZU,Zbl hk,ZU,ZaS (by omega)]
   unfold armH
   by_cases b:f[c].Arms[k].By = -1
   ·rw [Z2 (by simpa using b),Z2 b,hs,Zd3 g (by omega),ZU]
    unfold ZbH at hre
    rw [Z2 b,ZZ] at hre
    have hset:AOK p (g.set s f[c].Arms[k].From):=hg.set hP hsl (by have:=ZkA hok hsl (k:=0) (by omega);simpa using this)
    have hi:=Zh4 hp hall hM ha n N f[c].Arms[k].Next.toNat (g.set s f[c].Arms[k].From) (by omega) (by omega) (by omega) hset
    rw [Zl (by omega)] at hi
    rw [hi,ZU]
    cases hB p f n f[c].Arms[k].Next.toNat (g.set s f[c].Arms[k].From)<;>rfl
   rw [Z1 (by simpa using b),Z1 b]
   by_cases b2:0<=f[c].Arms[k].By
   ·have b3:f[c].Arms[k].By<(p.Periods.length:Int):=by
     unfold ZbH at hre
     rw [Z1 b] at hre
     by_cases q:f[c].Arms[k].Next=0
     ·rw [Z2 q,Z1 (by omega),ZZ] at hre;exact hre.2
     rw [Z1 q] at hre;cases hre
    rw [Z2 b2,Zkl (by omega) hp hsl hs hok b2 b3 hg,ZU]
    cases refB p s g f[c].Arms[k]<;>rfl
   rw [Z1 b2]
   obtain ⟨N',rfl⟩:∃ N',N=N'+1:=⟨N-1,by omega⟩
   rw [Za7 (r:=.inl ()) (by simp only [Zbp];rw [Z1 (by simp only [Ze,ZZ];omega)]),ZU]
   rfl
  rw [beq_eq_false_iff_ne.2 hz,Bool.false_and,Z2 ?_]
  rw [ZZ]
  rcases hg s hsl with e|e
  ·exact absurd e hz
  have:=ZiI (VP.of hp) e
  omega
end
end Go.Sh

namespace Go.Sh
open Go Go.Eng
section
variable {N:Nat} {p:Z8} {f:List Z7}
def rOK (p:Z8)(s:Nat)(g:Zad)(a:Zax):Bool:=if a.By = -1 then true else if 0<=a.By then refB p s g a else true
def kids (s:Nat)(g:Zad)(as:List Zax):List Zal:=(as.filter λa=>a.By == -1).map λa=>⟨a.Next,g.set s a.From⟩
theorem ZkG (s:Nat)(g:Zad)(as:List Zax):(kids s g as).length<=as.length:=by
 unfold kids
 rw [ZG]
 exact List.length_filter_le _ _
theorem Zly (s:Nat)(g:Zad)(as:List Zax)(a:Zax):kids s g (as++[a])=kids s g as++(if a.By = -1 then [⟨a.Next,g.set s a.From⟩] else []):=by
 unfold kids
 rw [List.filter_append,ZL]
 congr 1
 by_cases h:a.By = -1
 ·rw [Z2 h];simp [List.filter,h]
 rw [Z1 h];simp [List.filter,beq_eq_false_iff_ne.2 h]
theorem Zou (hN:2000<=N)(hp:Zeh p=true){r m:List (Zam×Bool)}(hm:MOK p m){s:Nat}(hs:s<p.Periods.length){t:Zal}(hg:AOK p t.given){x:Z7}(hst:x.Stream=s){nP len c:Int}(hnP:nP=p.Periods.length)
  (harm:∀ a∈x.Arms,Zmu p s a/\ZbH nP len c a=true) {l:List Zal} (hl:l.length<=100000000) (hA:x.Arms.length<1000000) (hAN:x.Arms.length<N) :
  ∃ m',MOK p m'/\ZaO (λy:Int×(List Zal)×(List (Zam×Bool))=>ZbW N (p,r) t x x y.1 y.2.1 y.2.2) N (0,l,m)=some (if x.Arms.all (rOK p s t.given)=true then .inl (l++kids s t.given x.Arms,m') else .inr false):=by
 have hP:=(VP.of hp).len
 obtain ⟨o,ho,m',hm',eo⟩:=Zbs (body:=λy:Int×(List Zal)×(List (Zam×Bool))=>ZbW N (p,r) t x x y.1 y.2.1 y.2.2)
  (λy=>∃ k:Nat,y.1=k/\k<=x.Arms.length/\y.2.1=l++kids s t.given (x.Arms.take k)/\MOK p y.2.2/\(x.Arms.take k).all (rOK p s t.given)=true) (λy=>(x.Arms.length-y.1).toNat)
  (λo=>∃ m',MOK p m'/\o=if x.Arms.all (rOK p s t.given)=true then .inl (l++kids s t.given x.Arms,m') else .inr false) (λy hy=>by
   obtain ⟨i,l1,m1⟩:=y
   obtain ⟨k,k1,k2,k3,k4,k5⟩:=hy
   simp only at k1 k3 k4
   subst k1 k3
   simp only [ZbW]
   by_cases c1:k<x.Arms.length
   ·obtain ⟨hok,hre⟩:=harm _ (List.getElem_mem c1)
    have hkl:=ZkG s t.given (x.Arms.take k)
    rw [ZK] at hkl
    have etake:x.Arms.take (k+1)=x.Arms.take k++[x.Arms[k]]:=List.take_succ_eq_append_getElem c1
    rw [Z2 (by simpa using c1),Zbl c1,ZU,ZaS (by omega)]
    by_cases b:x.Arms[k].By = -1
    ·left
     refine ⟨(((k+1:Nat):Int),l++kids s t.given (x.Arms.take (k+1)),m1),?_,⟨k+1,rfl,by omega,rfl,k4,?_⟩,by simp;omega⟩
     ·rw [Z2 (by simpa using b),hst,Zd3 _ (by omega),ZU]
      simp only [Zc2]
      have ha:appI 104 (l++kids s t.given (x.Arms.take k)) [Zal.mk x.Arms[k].Next (t.given.set s x.Arms[k].From)]=some (l++kids s t.given (x.Arms.take k)++[Zal.mk x.Arms[k].Next (t.given.set s x.Arms[k].From)]):=by
       unfold appI
       rw [Z2 (by simp only [ZE,ZF,ZH];omega)]
      rw [ha,ZU,ZU,etake,Zly,Z2 b,Zn]
     rw [etake,List.all_append,k5,Zi]
     simp [rOK,b]
    have hre2:=hre
    unfold ZbH at hre2
    rw [Z1 b] at hre2
    rw [Z1 (by simpa using b)]
    have ek:kids s t.given (x.Arms.take (k+1))=kids s t.given (x.Arms.take k):=by rw [etake,Zly,Z1 b,List.append_nil]
    by_cases b2:0<=x.Arms[k].By
    ·have b3:x.Arms[k].By<(p.Periods.length:Int):=by
      by_cases q:x.Arms[k].Next=0
      ·rw [Z2 q,Z1 (by omega),ZZ] at hre2;omega
      rw [Z1 q] at hre2;cases hre2
     obtain ⟨m2,hm2,hk2⟩:=ZhZ (N:=N) hN hp (r:=r) k4 hs hok b2 b3 hg
     rw [Z2 (by simpa using b2),hst,hm2,ZU,ZU]
     have er:rOK p s t.given x.Arms[k]=refB p s t.given x.Arms[k]:=by unfold rOK;rw [Z1 b,Z2 b2]
     cases hr:refB p s t.given x.Arms[k] with
     | true =>
      left
      refine ⟨(((k+1:Nat):Int),l++kids s t.given (x.Arms.take (k+1)),m2),?_,⟨k+1,rfl,by omega,rfl,hk2,?_⟩,by simp;omega⟩
      ·rw [Z1 (by simp),ek]
      rw [etake,List.all_append,k5,Zi,List.all_cons,er,hr];rfl
     | false =>
      right
      refine ⟨_,by rw [Z2 (by simp)],m2,hk2,?_⟩
      rw [Z1]
      rw [Zm]
      intro hq
      have:=hq _ (List.getElem_mem c1)
      rw [er,hr] at this
      cases this
    rw [Z1 (by simpa using b2),ZU]
    left
    refine ⟨(((k+1:Nat):Int),l++kids s t.given (x.Arms.take (k+1)),m1),?_,⟨k+1,rfl,by omega,rfl,k4,?_⟩,by simp;omega⟩
    ·rw [Z1 (by simp),ek]
    rw [etake,List.all_append,k5,Zi]
    simp [rOK,b,b2]
   right
   obtain rfl:k=x.Arms.length:=by omega
   rw [List.take_length] at k5 ⊢
   exact ⟨_,by rw [Z1 (by simp)],m1,k4,by rw [Z2 k5]⟩) N (0,l,m) ⟨0,rfl,by omega,by simp [kids],hm,by simp⟩ (by simp;omega)
 exact ⟨m',hm',by rw [ho,eo]⟩
end
end Go.Sh

