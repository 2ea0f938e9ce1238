/- Part of the proof. -/
import Derived.Test.YthhhjjjbpcaadaaSolveSearchesSh
import Derived.Test.YthhhjjjbpcaadaaSolveSearchesRd
import Derived.KernelRfl
set_option linter.all false
namespace Go.Sh
open Go Go.Eng
theorem Za7 {x:Int}(h : -9223372036854775808<=x)(h2:x<=9223372036854775807):w64 x=x:=by
 unfold w64 IntKind.wrap
 simp only [IntKind.bits,IntKind.signed]
 by_cases h0:0<=x
 ·have:x%(2 ^ 64:Int)=x:=Int.emod_eq_of_lt h0 (by omega)
  simp only [this]
  rw [ZZ]
  simp;omega
 have:x%(2 ^ 64:Int)=x+2 ^ 64:=by
  rw [← Int.add_emod_right]
  exact Int.emod_eq_of_lt (by omega) (by omega)
 simp only [this]
 rw [Z0]
 ·omega
 simp;omega
theorem Zir {σ ρ:Type}(body:σ->Option (σ⊕ρ))(m:Nat)(x:σ):Zbf body (m+1) x=match body x with
  | none=>none
  | some (.inl y)=>Zbf body m y
  | some (.inr r)=>some r:=rfl
theorem ZbU {σ ρ:Type}{body:σ->Option (σ⊕ρ)}{m:Nat}{x y:σ}(h:body x=some (.inl y)):Zbf body (m+1) x=Zbf body m y:=by rw [Zir,h]
theorem Za4 {σ ρ:Type}{body:σ->Option (σ⊕ρ)}{m:Nat}{x:σ}{r:ρ}(h:body x=some (.inr r)):Zbf body (m+1) x=some r:=by rw [Zir,h]
theorem Zeb {σ ρ:Type}{body:σ->Option (σ⊕ρ)}(I:σ->Prop)(μ:σ->Nat)(Post:ρ->Prop)
  (step:∀ x,I x->(∃ y,body x=some (.inl y)/\I y/\μ y<μ x)∨(∃ r,body x=some (.inr r)/\Post r)):∀ (N:Nat) (x:σ),I x->μ x<N->∃ r,Zbf body N x=some r/\Post r
 | 0,x,_,h=>by omega
 | N+1,x,hI,h=>by
  rcases step x hI with ⟨y,h1,h2,h3⟩|⟨r,h1,h2⟩
  ·rw [ZbU h1]
   exact Zeb I μ Post step N y h2 (by omega)
  exact ⟨r,by rw [Za4 h1],h2⟩
theorem ZeG {α:Type}(l:List α)(k:Nat):idx l (k:Int)=l[k]?:=by
 unfold idx
 rw [Z0 (by omega)]
 rfl
theorem Zm1 {α:Type}{l:List α}{i:Int}(h0:0<=i)(h:i.toNat<l.length):idx l i=some l[i.toNat]:=by
 unfold idx
 rw [Z0 h0]
 exact Zv h
theorem ZbD {a b:Int}(h:b≠0):remI a b=some (a.tmod b):=by unfold remI;rw [ZZ h]
theorem ZnC {k:IntKind}{a b:Int}(h:b≠0):quoI k a b=some (k.wrap (a.tdiv b)):=by unfold quoI;rw [ZZ h]
theorem ZhP {α:Type}{l:List α}{k:Nat}(h:k<l.length):l.drop k=l[k]::l.drop (k+1):=List.drop_eq_getElem_cons h
theorem ZiO {a b:Int}(hb:0<b):(a.tmod b+b).tmod b=a%b:=by
 have h1:0<=a.tmod b+b:=by have:=Int.lt_tmod_of_pos a hb;omega
 rw [Zj h1,Int.add_emod_right]
 rw [Int.tmod_eq_emod]
 split
 ·simp
 have:(b.natAbs:Int)=b:=by omega
 rw [this]
 simp
theorem Zj8 {α ρ:Type}{l:List α}{p:α->Bool}{body:Int->Option (Int⊕ρ)}{bad fin:ρ}(hstep:∀ (k:Nat) (h:k<l.length),body (k:Int)=if p l[k]=true then some (.inl ((k+1:Nat):Int)) else some (.inr bad))
  (hend:body (l.length:Int)=some (.inr fin)):∀ (n N k:Nat),l.length-k=n->k<=l.length->n<N->Zbf body N (k:Int)=some (if (l.drop k).all p then fin else bad):=by
 intro n
 induction n with
 | zero =>
  intro N k hn hk hN
  have:k=l.length:=by omega
  subst this
  cases N with
  | zero=>omega
  | succ N=>rw [Za4 hend];simp
 | succ n ih =>
  intro N k hn hk hN
  cases N with
  | zero=>omega
  | succ N =>
   have hlt:k<l.length:=by omega
   rw [ZhP hlt,List.all_cons]
   by_cases hp:p l[k]=true
   ·rw [ZbU (by rw [hstep k hlt,Z0 hp]),ih N (k+1) (by omega) (by omega) (by omega)]
    simp [hp]
   rw [Za4 (by rw [hstep k hlt,ZZ hp])]
   simp [hp]
end Go.Sh

namespace Go.Sh
open Go Go.Eng
def VSpan (s:Zab):Prop:=1<=s.Period/\s.Period<=960/\0<=s.From/\s.From<s.Period/\1<=s.Long/\s.Long<=s.Period
instance (s:Zab):Decidable (VSpan s):=by unfold VSpan;infer_instance
theorem Zda (N:Nat)(s:Zab):ZbM N s=some (if VSpan s then 0 else 330):=by
 unfold ZbM
 by_cases h:VSpan s
 ·rw [Z0 h]
  unfold VSpan at h
  rw [ZZ (by simp;omega),ZZ (by simp;omega)]
 rw [ZZ h]
 unfold VSpan at h
 by_cases h1:((decide (s.Period<1))||((decide (s.Period>960))||((decide (s.From<0))||(decide (s.From≥s.Period)))))=true
 ·rw [Z0 h1]
 rw [ZZ h1,Z0]
 simp at h1 ⊢
 omega
theorem Zh2 (N:Nat){a b:Int}(hb:0<b)(hb2:b<=1000000):Zdp N a b=some (a%b):=by
 unfold Zdp
 have h1:=Int.lt_tmod_of_pos a hb
 have h2:=Int.tmod_lt_of_pos a hb
 rw [ZbD (by omega),ZR,Za7 (by omega) (by omega),ZbD (by omega),ZR,ZiO hb]
theorem ZjL (N:Nat){a b:Int}(hb:0<b)(hb2:b<=1000000):Zeu N a b=some (a%b):=by
 unfold Zeu
 have h1:=Int.lt_tmod_of_pos a hb
 have h2:=Int.tmod_lt_of_pos a hb
 have h3:=ZiO (a:=a) hb
 rw [ZbD (by omega),ZR]
 by_cases h:a.tmod b<0
 ·rw [Z0 (by simpa using h),ZR,Za7 (by omega) (by omega)]
  rw [Int.tmod_eq_of_lt (by omega) (by omega)] at h3
  rw [h3]
 rw [ZZ (by simpa using h),ZR]
 rw [← h3,show a.tmod b+b=a.tmod b+b*1 by omega]
 have e:(a.tmod b+b).tmod b=(a.tmod b+b)%b:=Zj (by omega)
 rw [Int.mul_one,e,Int.add_emod_right]
 rw [Int.emod_eq_of_lt (by omega) (by omega)]
theorem ZgB (M:Nat):∀ (b N a:Nat),b<N->Zbf (λx:Int×Int=>Zbz M x.1 x.2) N ((a:Int),(b:Int))=some (Nat.gcd a b:Int):=by
 intro b
 induction b using Nat.strongRecOn with
 | _ b ih =>
  intro N a hN
  cases N with
  | zero=>omega
  | succ N =>
   by_cases hb:b=0
   ·subst hb
    rw [Za4 (r:=(a:Int))]
    ·simp
    simp [Zbz]
   have hlt:=Nat.mod_lt a (Nat.pos_of_ne_zero hb)
   rw [ZbU (y:=((b:Int),((a%b:Nat):Int)))]
   ·rw [ih (a%b) hlt N b (by omega)]
    rw [Nat.gcd_comm a b,Nat.gcd_rec b a,Nat.gcd_comm (a%b) b]
   simp only [Zbz]
   rw [Z0 (by simp;omega),ZbD (by omega),ZR,Zj (by omega)]
   rfl
theorem Ze6 {N:Nat}{a b:Int}(ha:0<=a)(hb:0<=b)(hN:b.toNat<N):ZcR N a b=some (Nat.gcd a.toNat b.toNat:Int):=by
 unfold ZcR
 have:=ZgB N b.toNat N a.toNat hN
 rw [Zl ha,Zl hb] at this
 rw [this]
 rfl
theorem ZcA {a d:Int}(hd:0<d)(ha:0<=a):a.tmod d=0↔d.toNat∣a.toNat:=by
 rw [Zj ha]
 constructor
 ·intro h
  have h1:d∣a:=Int.dvd_of_emod_eq_zero h
  rw [← Zl ha,← Zl (show 0<=d by omega)] at h1
  exact Int.natCast_dvd_natCast.1 h1
 intro h
 have:((d.toNat:Nat):Int)∣((a.toNat:Nat):Int):=Int.natCast_dvd_natCast.2 h
 rw [Zl ha,Zl (by omega)] at this
 exact Int.emod_eq_zero_of_dvd this
theorem Zh6 (M:Nat){a b:Int}(ha:1<=a)(hb:1<=b)(ha2:a<=1000000):∀ (d:Nat) (N:Nat),d<N->(d:Int)<=a->(∀ e:Nat,d<e->¬ (e∣a.toNat/\e∣b.toNat)) →
  ∃ r,Zbf (λx:Int=>ZbJ M a b x) N (d:Int)=some r/\(match r with | .inl _=>(1:Int) | .inr p=>p)=(Nat.gcd a.toNat b.toNat:Int):=by
 intro d
 induction d with
 | zero =>
  intro N hN _ hall
  exfalso
  exact hall 1 (by omega) ⟨Nat.one_dvd _,Nat.one_dvd _⟩
 | succ d ih =>
  intro N hN hle hall
  cases N with
  | zero=>omega
  | succ N =>
   have hgpos:0<Nat.gcd a.toNat b.toNat:=Nat.gcd_pos_of_pos_left _ (by omega)
   have hgle:Nat.gcd a.toNat b.toNat<=d+1:=by
    rcases Nat.lt_or_ge (d+1) (Nat.gcd a.toNat b.toNat) with h|h
    ·exact absurd ⟨Nat.gcd_dvd_left _ _,Nat.gcd_dvd_right _ _⟩ (hall _ h)
    exact h
   by_cases h1:d=0
   ·subst h1
    refine ⟨.inl (),Za4 (by simp [ZbJ]),?_⟩
    simp only
    omega
   have hd1:((d+1:Nat):Int)>1:=by omega
   by_cases h2:(d+1)∣a.toNat/\(d+1)∣b.toNat
   ·refine ⟨.inr ((d+1:Nat):Int),Za4 ?_,?_⟩
    ·simp only [ZbJ]
     rw [Z0 (by simpa using hd1),ZbD (by omega),ZR,Z0,ZbD (by omega),ZR]
     ·simp only [ZR]
      rw [Z0]
      simp only [beq_iff_eq]
      exact (ZcA (by omega) (by omega)).2 (by simpa using h2.2)
     simp only [beq_iff_eq]
     exact (ZcA (by omega) (by omega)).2 (by simpa using h2.1)
    simp only
    have:d+1∣Nat.gcd a.toNat b.toNat:=Nat.dvd_gcd h2.1 h2.2
    have:=Nat.le_of_dvd hgpos this
    omega
   rw [ZbU (y:=(d:Int))]
   ·refine ih N (by omega) (by omega) λe he hd=>?_
    by_cases h3:e=d+1
    ·subst h3;exact h2 hd
    exact hall e (by omega) hd
   simp only [ZbJ]
   rw [Z0 (by simpa using hd1),ZbD (by omega),ZR]
   have hiff1:=ZcA (a:=a) (d:=((d+1:Nat):Int)) (by omega) (by omega)
   have hiff2:=ZcA (a:=b) (d:=((d+1:Nat):Int)) (by omega) (by omega)
   simp only [Zk] at hiff1 hiff2
   by_cases h4:a.tmod ((d+1:Nat):Int)=0
   ·rw [Z0 (by simpa using h4),ZbD (by omega),ZR,ZR,ZZ,Za7 (by omega) (by omega)]
    ·congr 2;omega
    simp only [beq_iff_eq]
    intro h5
    exact h2 ⟨hiff1.1 h4,hiff2.1 h5⟩
   rw [ZZ (by simpa using h4),ZR,ZZ (by simp),Za7 (by omega) (by omega)]
   congr 2;omega
theorem ZjN {N:Nat}{a b:Int}(ha:1<=a)(hb:1<=b)(ha2:a<=1000000)(hN:a.toNat<N):Zev N a b=some (Nat.gcd a.toNat b.toNat:Int):=by
 unfold Zev
 obtain ⟨r,h1,h2⟩:=Zh6 N ha hb ha2 a.toNat N hN (by omega) (λe he hd=>by
  have:=Nat.le_of_dvd (by omega) hd.1
  omega)
 rw [Zl (by omega)] at h1
 rw [h1,ZR,← h2]
 cases r<;>rfl
def gP (a b:Zab):Int:=(Nat.gcd a.Period.toNat b.Period.toNat:Int)
theorem Zm3 {a b:Zab}(ha:1<=a.Period):0<gP a b:=by
 have:0<Nat.gcd a.Period.toNat b.Period.toNat:=Nat.gcd_pos_of_pos_left _ (by omega)
 unfold gP;omega
theorem Zoo {a b:Zab}(ha:1<=a.Period):gP a b<=a.Period:=by
 have:=Nat.le_of_dvd (by omega:0<a.Period.toNat) (Nat.gcd_dvd_left a.Period.toNat b.Period.toNat)
 unfold gP;omega
theorem ZkP {a b:Zab}(ha:1<=a.Period):gP a b∣a.Period:=by
 have:=Int.natCast_dvd_natCast.2 (Nat.gcd_dvd_left a.Period.toNat b.Period.toNat)
 rwa [Zl (by omega)] at this
theorem Zkb {a b:Zab}(hb:1<=b.Period):gP a b∣b.Period:=by
 have:=Int.natCast_dvd_natCast.2 (Nat.gcd_dvd_right a.Period.toNat b.Period.toNat)
 rwa [Zl (by omega)] at this
def SepD (a b:Zab)(d:Int):Prop:=a.Long<=d%gP a b/\d%gP a b<=gP a b-b.Long
instance (a b:Zab) (d:Int):Decidable (SepD a b d):=by unfold SepD;infer_instance
theorem Zmz {al bl d g:Int}(hg:0<g)(ha:1<=al)(hb:1<=bl):(∀ x,1-bl<=x->x<al->(d-x)%g≠0)↔(al<=d%g/\d%g<=g-bl):=by
 have h0:=Int.emod_nonneg d (show g≠0 by omega)
 have h1:=Int.emod_lt_of_pos d hg
 have hd:=Int.mul_ediv_add_emod d g
 constructor
 ·intro h
  constructor
  ·rcases Int.lt_or_le (d%g) al with hlt|hle
   ·exfalso
    refine h (d%g) (by omega) hlt ?_
    have:d-d%g=g*(d/g):=by omega
    rw [this]
    exact Int.mul_emod_right _ _
   exact hle
  rcases Int.lt_or_le (g-bl) (d%g) with hlt|hle
  ·exfalso
   refine h (d%g-g) (by omega) (by omega) ?_
   have:d-(d%g-g)=g*(d/g+1):=by rw [Int.mul_add];omega
   rw [this]
   exact Int.mul_emod_right _ _
  exact hle
 rintro ⟨h2,h3⟩ x hx1 hx2 hx
 obtain ⟨q,hq⟩:=Int.dvd_of_emod_eq_zero hx
 have e:d%g-x=g*(q-d/g):=by rw [Int.mul_sub];omega
 generalize q-d/g=k at e
 rcases Int.lt_trichotomy k 0 with hk|hk|hk
 ·have:g*k<=g*(-1):=Int.mul_le_mul_of_nonneg_left (by omega) (by omega)
  omega
 ·subst hk;omega
 have:g*1<=g*k:=Int.mul_le_mul_of_nonneg_left (by omega) (by omega)
 omega
end Go.Sh

namespace Go.Sh
open Go Go.Eng
theorem VSpan.bounds {s:Zab}(h:VSpan s):1<=s.Period/\s.Period<=960/\0<=s.From/\s.From<s.Period/\1<=s.Long/\s.Long<=s.Period:=h
theorem Zf3 {N:Nat}(hN:2000<=N){a b:Zab}(ha:1<=a.Period)(ha2:a.Period<=960)(hb:1<=b.Period)(hb2:b.Period<=960)(haf:0<=a.From)(haf2:a.From<=960)(hbf:0<=b.From)(hbf2:b.From<=960)
  (hal:1<=a.Long) (hal2:a.Long<=960) (hbl:1<=b.Long) (hbl2:b.Long<=960):Zb3 N a b=some (decide (SepD a b (b.From-a.From))):=by
 unfold Zb3
 rw [ZjN ha hb (by omega) (by omega),ZR]
 have hg0:0<gP a b:=Zm3 ha
 have hg1:gP a b<=a.Period:=Zoo ha
 have key:∀ (n:Nat) (M:Nat) (x:Int),(a.Long-x).toNat=n->1-b.Long<=x->n<M->(∀ y,1-b.Long<=y->y<x->(b.From-a.From-y)%gP a b≠0) →
   ∃ r,Zbf (λx:Int=>ZaR N a b (gP a b) x) M x=some r/\(match r with | .inl _=>true | .inr p=>p)=decide (SepD a b (b.From-a.From)):=by
  intro n
  induction n with
  | zero =>
   intro M x hn hx hM hall
   cases M with
   | zero=>omega
   | succ M =>
    refine ⟨.inl (),Za4 (by simp only [ZaR];rw [ZZ (by simp;omega)]),?_⟩
    symm
    simp only [ZX]
    refine (Zmz hg0 hal hbl).1 λy h1 h2=>hall y h1 (by omega)
  | succ n ih =>
   intro M x hn hx hM hall
   cases M with
   | zero=>omega
   | succ M =>
    have hlt:x<a.Long:=by omega
    have e1:w64 (b.From-a.From)=b.From-a.From:=Za7 (by omega) (by omega)
    have e2:w64 (b.From-a.From-x)=b.From-a.From-x:=Za7 (by omega) (by omega)
    have hbody:ZaR N a b (gP a b) x=if ((b.From-a.From-x)%gP a b==0)=true then some (.inr (.inr false)) else some (.inl (w64 (x+1))):=by
     simp only [ZaR]
     rw [Z0 (by simpa using hlt),e1,e2,ZjL N hg0 (by omega),ZR]
    by_cases h0:(b.From-a.From-x)%gP a b=0
    ·refine ⟨.inr false,Za4 (by rw [hbody,Z0 (by simpa using h0)]),?_⟩
     symm
     simp only [decide_eq_false_iff_not]
     intro hs
     exact (Zmz hg0 hal hbl).2 hs x hx hlt h0
    rw [ZbU (y:=x+1) (by rw [hbody,ZZ (by simpa using h0),Za7 (by omega) (by omega)])]
    refine ih M (x+1) (by omega) (by omega) (by omega) λy h1 h2=>?_
    by_cases h3:y=x
    ·subst h3;exact h0
    exact hall y h1 (by omega)
 rw [Za7 (by omega) (by omega)]
 obtain ⟨r,h1,h2⟩:=key (a.Long-(1-b.Long)).toNat N (1-b.Long) rfl (Int.le_refl _) (by omega) (λy h1 h2=>by omega)
 show (Zbf (λx:Int=>ZaR N a b (gP a b) x) N (1-b.Long)).bind _=_
 rw [h1,ZR,← h2]
 cases r<;>rfl
theorem VSpan.separate {N:Nat}(hN:2000<=N){a b:Zab}(ha:VSpan a)(hb:VSpan b):Zb3 N a b=some (decide (SepD a b (b.From-a.From))):=by
 obtain ⟨a1,a2,a3,a4,a5,a6⟩:=ha
 obtain ⟨b1,b2,b3,b4,b5,b6⟩:=hb
 exact Zf3 hN a1 a2 b1 b2 a3 (by omega) b3 (by omega) a5 (by omega) b5 (by omega)
theorem Zhl {N:Nat}(hN:2000<=N){a b:Zab}(ha:VSpan a)(hb:VSpan b):Zc2 N a b=some (a.Long,gP a b-b.Long,gP a b):=by
 obtain ⟨a1,a2,a3,a4,a5,a6⟩:=ha
 obtain ⟨b1,b2,b3,b4,b5,b6⟩:=hb
 have hg0:0<gP a b:=Zm3 a1
 have hg1:gP a b<=a.Period:=Zoo a1
 unfold Zc2
 rw [Ze6 (by omega) (by omega) (by omega),ZR]
 show some (a.Long,w64 (gP a b-b.Long),gP a b)=_
 rw [Za7 (by omega) (by omega)]
theorem ZgD {N:Nat}(hN:2000<=N){a b:Zab}(ha:VSpan a)(hb:VSpan b):ZcD N a b=some (decide (SepD a b (b.From-a.From))):=by
 have hr:=Zhl hN ha hb
 obtain ⟨a1,a2,a3,a4,a5,a6⟩:=ha
 obtain ⟨b1,b2,b3,b4,b5,b6⟩:=hb
 have hg0:0<gP a b:=Zm3 a1
 have hg1:gP a b<=a.Period:=Zoo a1
 unfold ZcD
 by_cases h:((a.Period==b.Period)&&((a.From==b.From)&&((a.Long==b.Long)&&true)))=true
 ·rw [Z0 h]
  simp only [Ze,beq_iff_eq,ZW] at h
  symm
  simp only [ZU,decide_eq_false_iff_not]
  unfold SepD
  rw [h.2.1,Int.sub_self,Int.zero_emod]
  omega
 rw [ZZ h,hr]
 simp only [ZR]
 rw [Za7 (by omega) (by omega),Zh2 N hg0 (by omega)]
 simp only [ZR,ZU]
 rw [Bool.eq_iff_iff,decide_eq_true_iff]
 simp only [Ze,ZX,SepD]
theorem ZgH {N:Nat}(hN:2000<=N)(a b:Zab):ZcF N a b=some (if VSpan a/\VSpan b then (decide (SepD a b (b.From-a.From)),0) else (false,330)):=by
 unfold ZcF
 rw [Zda,Zda]
 simp only [ZR]
 by_cases ha:VSpan a
 ·by_cases hb:VSpan b
  ·simp only [ha,hb,Z1,and_self,bne_self_eq_false,Zf,ZY,ZgD hN ha hb,ZR]
  simp [ha,hb]
 simp [ha]
end Go.Sh
namespace Go.Sh
open Go Go.Eng
theorem ZbH {α:Type}{b:Nat}{l m:List α}(h:l.length+m.length<=100000)(hb:b<=100000):appI b l m=some (l++m):=by
 unfold appI
 rw [Z0]
 have:(l.length+m.length)*b<=100000*100000:=Nat.mul_le_mul h hb
 omega
def allV (l:List Zab):Bool:=l.all λs=>decide (VSpan s)
theorem Zfn {N:Nat}(hN:100<=N)(l:List Zab):ZbT N l=some (if 32<l.length then 3 else if allV l then 0 else 330):=by
 unfold ZbT
 by_cases h:32<l.length
 ·rw [Z0 (by simp;omega),Z0 h]
 rw [ZZ (by simp;omega),ZZ h]
 have:=Zj8 (l:=l) (p:=λs=>decide (VSpan s)) (body:=λx:Int=>ZaZ N l x) (bad:=.inr 330) (fin:=.inl ()) (λk hk=>by
  simp only [ZaZ]
  rw [Z0 (by simpa using hk),ZeG,Zv hk,ZR,Zda,ZR]
  by_cases hv:VSpan l[k]
  ·simp only [hv,Z1,bne_self_eq_false,Zf,ZY,decide_true]
   rw [Za7 (by omega) (by omega)];simp
  simp [hv]) (by simp [ZaZ]) l.length N 0 (by omega) (by omega) (by omega)
 rw [show ((0:Nat):Int)=0 from rfl] at this
 rw [this,ZR,List.drop_zero]
 have e:(l.all λs=>decide (VSpan s))=allV l:=rfl
 rw [e]
 cases allV l<;>rfl
def shift (b:Zab)(k:Int):Zab:=⟨b.Period,(b.From+k)%b.Period,b.Long⟩
end Go.Sh
namespace Go.Sh
open Go Go.Eng
def lcmP:List Zab->Nat
 | []=>1
 | s::l=>Nat.lcm s.Period.toNat (lcmP l)
theorem Zlu:∀ {l:List Zab},(∀ s∈l,VSpan s)->0<lcmP l
 | [],_=>by decide
 | s::l,h=>by
  have h1:=(h s (by simp)).bounds
  exact Nat.lcm_pos (by omega) (Zlu λt ht=>h t (by simp [ht]))
theorem Zgt:∀ {l:List Zab} {n:Nat},lcmP l∣n↔∀ s∈l,s.Period.toNat∣n
 | [],n=>by simp [lcmP]
 | s::l,n=>by
  simp only [lcmP,List.mem_cons,forall_eq_or_imp]
  rw [Nat.lcm_dvd_iff,Zgt]
theorem Zf1 {N:Nat}(hN:2000<=N){ps:List Int}(hps:∀ p∈ps,1<=p/\p<=960):∀ (n M k:Nat) (m:Nat),ps.length-k=n->k<=ps.length->n<M->1<=m->m<=960->ps.length<=1000 →
  ∃ r,Zbf (λx:Int×Int=>Za3 N 960 ps x.1 x.2) M ((m:Int),(k:Int))=some r ∧
   (r<=960->r=((ps.drop k).foldl (λa p=>Nat.lcm a p.toNat) m:Nat))/\(960<r->960<(ps.drop k).foldl (λa p=>Nat.lcm a p.toNat) m):=by
 have mono:∀ (l:List Int) (a:Nat),(∀ p∈l,1<=p)->0<a->a<=l.foldl (λa p=>Nat.lcm a p.toNat) a:=by
  intro l
  induction l with
  | nil=>intro a _ _;exact Nat.le_refl _
  | cons p l ih =>
   intro a hp ha
   simp only [List.foldl_cons]
   have h1:=hp p (by simp)
   have hpos:0<Nat.lcm a p.toNat:=Nat.lcm_pos ha (by omega)
   exact Nat.le_trans (Nat.le_of_dvd hpos (Nat.dvd_lcm_left _ _)) (ih _ (λq hq=>hp q (by simp [hq])) hpos)
 intro n
 induction n with
 | zero =>
  intro M k m hn hk hM hm hm2 hl
  have:k=ps.length:=by omega
  subst this
  cases M with
  | zero=>omega
  | succ M =>
   refine ⟨(m:Int),Za4 (by simp only [Za3];rw [ZZ (by simp)]),λ_=>?_,λh=>?_⟩
   ·simp
   omega
 | succ n ih =>
  intro M k m hn hk hM hm hm2 hl
  cases M with
  | zero=>omega
  | succ M =>
   have hlt:k<ps.length:=by omega
   obtain ⟨p1,p2⟩:=hps ps[k] (List.getElem_mem hlt)
   have hg:0<Nat.gcd m ps[k].toNat:=Nat.gcd_pos_of_pos_left _ (by omega)
   have hq:(m:Int).tdiv (Nat.gcd m ps[k].toNat:Int)=((m/Nat.gcd m ps[k].toNat:Nat):Int):=by
    rw [Int.tdiv_eq_ediv_of_nonneg (by omega)];rfl
   have hqle:m/Nat.gcd m ps[k].toNat<=m:=Nat.div_le_self _ _
   have hmul:((m/Nat.gcd m ps[k].toNat:Nat):Int)*ps[k]=(Nat.lcm m ps[k].toNat:Int):=by
    have e1:ps[k]=(ps[k].toNat:Int):=by omega
    have e2:Nat.lcm m ps[k].toNat=m/Nat.gcd m ps[k].toNat*ps[k].toNat:=by
     rw [Nat.lcm,Nat.mul_comm m,Nat.mul_div_assoc _ (Nat.gcd_dvd_left _ _),Nat.mul_comm]
    rw [e2,Int.natCast_mul,← e1]
   have hlcm:Nat.lcm m ps[k].toNat<=960*960:=by
    have h1:m/Nat.gcd m ps[k].toNat*ps[k].toNat<=960*960:=Nat.mul_le_mul (by omega) (by omega)
    have e2:Nat.lcm m ps[k].toNat=m/Nat.gcd m ps[k].toNat*ps[k].toNat:=by
     rw [Nat.lcm,Nat.mul_comm m,Nat.mul_div_assoc _ (Nat.gcd_dvd_left _ _),Nat.mul_comm]
    omega
   have hlpos:0<Nat.lcm m ps[k].toNat:=Nat.lcm_pos (by omega) (by omega)
   have hbody:Za3 N 960 ps (m:Int) (k:Int)=if 960<Nat.lcm m ps[k].toNat then some (.inr (Nat.lcm m ps[k].toNat:Int)) else some (.inl ((Nat.lcm m ps[k].toNat:Int),((k+1:Nat):Int))):=by
    simp only [Za3]
    rw [Z0 (by simpa using hlt),ZeG,Zv hlt,ZR,Ze6 (by omega) (by omega) (by omega),ZR,Zk,ZnC (by omega),ZR,hq]
    have hq0:(0:Int)<=((m/Nat.gcd m ps[k].toNat:Nat):Int):=Int.natCast_nonneg _
    have hq1:((m/Nat.gcd m ps[k].toNat:Nat):Int)<=960:=Int.ofNat_le.2 (Nat.le_trans hqle hm2)
    have e3:IntKind.i64.wrap ((m/Nat.gcd m ps[k].toNat:Nat):Int)=((m/Nat.gcd m ps[k].toNat:Nat):Int):=Za7 (Int.le_trans (by decide) hq0) (Int.le_trans hq1 (by decide))
    rw [e3,hmul,Za7 (by omega) (by omega),Za7 (by omega) (by omega)]
    by_cases hc:960<Nat.lcm m ps[k].toNat
    ·rw [Z0 (by simp;omega),Z0 hc]
    rw [ZZ (by simp;omega),ZZ hc];simp
   rw [ZhP hlt,List.foldl_cons]
   by_cases hc:960<Nat.lcm m ps[k].toNat
   ·refine ⟨(Nat.lcm m ps[k].toNat:Int),Za4 (by rw [hbody,Z0 hc]),λh=>?_,λ_=>?_⟩
    ·omega
    exact Nat.lt_of_lt_of_le hc (mono _ _ (λq hq=>(hps q (List.mem_of_mem_drop hq)).1) hlpos)
   rw [ZbU (by rw [hbody,ZZ hc])]
   exact ih M (k+1) _ (by omega) (by omega) (by omega) (by omega) (by omega) hl
theorem Ziu:∀ (l:List Zab) (m:Nat),(l.map Zab.Period).foldl (λa p=>Nat.lcm a p.toNat) m=Nat.lcm m (lcmP l)
 | [],m=>by simp [lcmP,Nat.lcm_one_right]
 | s::l,m=>by simp only [ZI,List.foldl_cons,lcmP];rw [Ziu l,Nat.lcm_assoc]
def Zly (l:List Zab):Int×Int:=if 32<l.length then (0,3) else if allV l=true then (if lcmP l<=960 then ((lcmP l:Int),0) else (0,6)) else (0,330)
theorem ZlC {l:List Zab}(h:allV l=true):∀ s∈l,VSpan s:=by
 unfold allV at h
 rw [Zm] at h
 exact λs hs=>by simpa using h s hs
theorem ZgF {N:Nat}(hN:2000<=N)(l:List Zab):ZcE N l=some (Zly l):=by
 unfold ZcE Zly
 rw [Zfn (by omega)]
 simp only [ZR]
 by_cases h:32<l.length
 ·simp [h]
 by_cases hv:allV l=true
 ·simp only [h,hv,Z1,ZY,bne_self_eq_false,Zf]
  have hmk:Zj5 8 (l.length:Int) (l.length:Int) (0:Int)=some (List.replicate l.length 0):=by
   unfold Zj5;rw [Z0 (by omega)];simp
  rw [hmk,ZR]
  have hloop:∀ (n M k:Nat),l.length-k=n->k<=l.length->n<M->Zbf (λx:Int×List Int=>Zbh N l x.1 x.2) M ((k:Int),(l.map Zab.Period).take k++List.replicate (l.length-k) 0)=some (l.map Zab.Period):=by
   intro n
   induction n with
   | zero =>
    intro M k hn hk hM
    have:k=l.length:=by omega
    subst this
    cases M with
    | zero=>omega
    | succ M =>
     refine Za4 ?_
     simp only [Zbh]
     rw [ZZ (by simp)]
     simp [List.take_of_length_le]
   | succ n ih =>
    intro M k hn hk hM
    cases M with
    | zero=>omega
    | succ M =>
     have hlt:k<l.length:=by omega
     have hc:=ih M (k+1) (by omega) (by omega) (by omega)
     rw [ZbU (y:=(((k+1:Nat):Int),(l.map Zab.Period).take (k+1)++List.replicate (l.length-(k+1)) 0)),hc]
     simp only [Zbh]
     have hlen:((l.map Zab.Period).take k++List.replicate (l.length-k) 0).length=l.length:=by simp;omega
     rw [Z0 (by simpa using hlt),ZeG,Zv hlt,ZR,ZeG,Zv (by omega),ZR,Za7 (by omega) (by omega)]
     have hset:List.set ((l.map Zab.Period).take k++List.replicate (l.length-k) 0) k l[k].Period=(l.map Zab.Period).take (k+1)++List.replicate (l.length-(k+1)) 0:=by
      rw [List.set_append_right _ _ (by simp;omega)]
      have e1:k-((l.map Zab.Period).take k).length=0:=by simp;omega
      rw [e1,show l.length-k=(l.length-(k+1))+1 by omega,List.replicate_succ,List.set_cons_zero,List.take_succ_eq_append_getElem (by simpa using hlt)]
      simp
     simp only [Zk,hset]
     rfl
  have hc:=hloop l.length N 0 (by omega) (by omega) (by omega)
  simp only [List.take_zero,ZL,Nat.sub_zero] at hc
  rw [show ((0:Nat):Int)=0 from rfl] at hc
  rw [hc,ZR]
  have hVl:=ZlC hv
  obtain ⟨r,h1,h2,h3⟩:=Zf1 hN (ps:=l.map Zab.Period) (λp hp=>by
   obtain ⟨s,hs,rfl⟩:=List.mem_map.1 hp
   have:=(hVl s hs).bounds;omega) l.length N 0 1 (by simp) (by omega) (by omega) (by omega) (by omega) (by simp;omega)
  rw [List.drop_zero,Ziu,Nat.lcm_one_left] at h2 h3
  have hf:Zc3 N 960 (l.map Zab.Period)=some r:=by
   unfold Zc3
   have h1':Zbf (λx:Int×Int=>Za3 N 960 (l.map Zab.Period) x.1 x.2) N (1,0)=some r:=h1
   rw [h1',ZR]
  rw [hf,ZR]
  by_cases hc2:960<r
  ·rw [Z0 (by simpa using hc2),ZZ (by have:=h3 hc2;omega)]
  have:=h2 (by omega)
  rw [ZZ (by simpa using hc2),Z0 (by omega),this]
 simp [h,hv]
end Go.Sh
namespace Go.Sh
open Go Go.Eng
theorem Zmy {a b:Zab}(ha:VSpan a)(hb:VSpan b)(k:Int):SepD (shift a k) (shift b k) ((shift b k).From-(shift a k).From)↔SepD a b (b.From-a.From):=by
 obtain ⟨a1,a2,a3,a4,a5,a6⟩:=ha.bounds
 obtain ⟨b1,b2,b3,b4,b5,b6⟩:=hb.bounds
 have hga:gP a b∣a.Period:=ZkP a1
 have hgb:gP a b∣b.Period:=Zkb b1
 have hg:gP (shift a k) (shift b k)=gP a b:=rfl
 have hd:((shift b k).From-(shift a k).From)%gP a b=(b.From-a.From)%gP a b:=by
  show ((b.From+k)%b.Period-(a.From+k)%a.Period)%gP a b=_
  rw [Int.sub_emod,Int.emod_emod_of_dvd _ hgb,Int.emod_emod_of_dvd _ hga,← Int.sub_emod]
  congr 1;omega
 unfold SepD
 rw [hg,hd]
 rfl
end Go.Sh
namespace Go.Sh
open Go Go.Eng
def allB (n:Nat)(p:Nat->Bool):Bool:=(List.range n).all p
theorem Zjl {n:Nat}{p:Nat->Bool}:allB n p=true↔∀ k,k<n->p k=true:=by simp [allB]
theorem ZiE {n:Nat}{p q:Nat->Bool}(h:∀ k,k<n->p k=q k):allB n p=allB n q:=by
 rw [Bool.eq_iff_iff,Zjl,Zjl]
 exact ⟨λhp k hk=>by rw [← h k hk];exact hp k hk,λhp k hk=>by rw [h k hk];exact hp k hk⟩
theorem Zis {ρ:Type}{n:Nat}{p:Nat->Bool}{body:Int->Option (Int⊕ρ)}{bad fin:ρ}(hstep:∀ k:Nat,k<n->body (k:Int)=if p k=true then some (.inl ((k+1:Nat):Int)) else some (.inr bad))
  (hend:body (n:Int)=some (.inr fin)) {N:Nat} (hN:n<N):Zbf body N 0=some (if allB n p then fin else bad):=by
 have key:∀ (m N k:Nat),n-k=m->k<=n->m<N->Zbf body N (k:Int)=some (if (List.range' k m).all p then fin else bad):=by
  intro m
  induction m with
  | zero =>
   intro N k h1 h2 h3
   obtain rfl:k=n:=by omega
   cases N with
   | zero=>omega
   | succ N=>rw [Za4 hend];rfl
  | succ m ih =>
   intro N k h1 h2 h3
   cases N with
   | zero=>omega
   | succ N =>
    rw [ZM,List.all_cons]
    by_cases hp:p k=true
    ·rw [ZbU (by rw [hstep k (by omega),Z0 hp]),ih N (k+1) (by omega) (by omega) (by omega),hp,Zi]
    rw [Za4 (by rw [hstep k (by omega),ZZ hp])]
    simp [hp]
 have:=key n N 0 (by omega) (by omega) hN
 rw [← List.range_eq_range'] at this
 exact this
theorem ZhI {β ρ:Type}{n:Nat}{p:Nat->Bool}{f:β->Nat->β}{body:Int×β->Option ((Int×β)⊕ρ)}{bad:ρ}{fin:β->ρ}(I:Nat->β->Prop)
  (hstep:∀ k b,k<n->I k b->body ((k:Int),b)=if p k=true then some (.inl (((k+1:Nat):Int),f b k)) else some (.inr bad)) (hI:∀ k b,k<n->I k b->p k=true->I (k+1) (f b k))
  (hend:∀ b,I n b->body ((n:Int),b)=some (.inr (fin b))) {N:Nat} (hN:n<N) {b0:β} (h0:I 0 b0):Zbf body N (0,b0)=some (if allB n p then fin ((List.range n).foldl f b0) else bad)/\(allB n p=true->I n ((List.range n).foldl f b0)):=by
 have key:∀ (m N k:Nat) (b:β),n-k=m->k<=n->m<N->I k b->Zbf body N ((k:Int),b)=some (if (List.range' k m).all p then fin ((List.range' k m).foldl f b) else bad)/\((List.range' k m).all p=true->I n ((List.range' k m).foldl f b)):=by
  intro m
  induction m with
  | zero =>
   intro N k b h1 h2 h3 hb
   obtain rfl:k=n:=by omega
   cases N with
   | zero=>omega
   | succ N=>exact ⟨by rw [Za4 (hend b hb)];rfl,λ_=>hb⟩
  | succ m ih =>
   intro N k b h1 h2 h3 hb
   cases N with
   | zero=>omega
   | succ N =>
    rw [ZM,List.all_cons,List.foldl_cons]
    by_cases hp:p k=true
    ·obtain ⟨i1,i2⟩:=ih N (k+1) (f b k) (by omega) (by omega) (by omega) (hI k b (by omega) hb hp)
     rw [hp,Zi]
     exact ⟨by rw [ZbU (by rw [hstep k b (by omega) hb,Z0 hp]),i1],i2⟩
    refine ⟨?_,λh=>?_⟩
    ·rw [Za4 (by rw [hstep k b (by omega) hb,ZZ hp])];simp [hp]
    simp [hp] at h
 obtain ⟨h1,h2⟩:=key n N 0 b0 (by omega) (by omega) hN h0
 rw [← List.range_eq_range'] at h1 h2
 exact ⟨h1,h2⟩
theorem Zbq {n:Nat}(h:n<1000000):w64 ((n:Int)+1)=((n+1:Nat):Int):=by rw [Za7 (by omega) (by omega)];omega
theorem ZcX {α:Type}{l:List α}{k:Nat}(h:k<l.length):idx l (k:Int)=some l[k]:=by rw [ZeG,Zv h]
theorem Zjc {α:Type}{l:List α}{i:Int}(d:α)(h0:0<=i)(h:i<l.length):idx l i=some (l.getD i.toNat d):=by
 rw [Zm1 h0 (by omega)]
 simp [Zp,Zv (show i.toNat<l.length by omega)]
theorem ZbG {α:Type}{l:List α}{k:Nat}(h:k<l.length)(d:α):l.getD k d=l[k]:=by simp [Zp,h]
end Go.Sh

namespace Go.Sh
open Go Go.Eng
def mkS (p:Int):Zab:=⟨p,0,1⟩
def perB (p:Int):Bool:=decide (1<=p)&&decide (p<=240)
def lcmL (P:List Int):Nat:=lcmP (P.map mkS)
def perU (P:List Int)(u:Zax):Int:=P.getD u.Stream.toNat 0
def useB (P:List Int)(u:Zax):Bool:=decide (0<=u.Stream/\u.Stream<(P.length:Int)/\0<=u.Port/\u.Port<48/\0<=u.From/\u.From<perU P u/\1<=u.Long/\u.Long<=perU P u)
def Zdr (p:Z3):Bool:=decide (p.Periods.length<=12)&&decide (p.Uses.length<=192)&&p.Periods.all perB&&p.Uses.all (useB p.Periods)&&decide (lcmL p.Periods<=960)
theorem ZfG {p:Int}:perB p=true↔1<=p/\p<=240:=by simp [perB]
theorem ZlB {P:List Int}(h:P.all perB=true):allV (P.map mkS)=true:=by
 unfold allV
 rw [Zm] at h ⊢
 intro s hs
 obtain ⟨p,hp,rfl⟩:=List.mem_map.1 hs
 have:=ZfG.1 (h p hp)
 rw [ZX]
 show 1<=p/\p<=960/\(0:Int)<=0/\(0:Int)<p/\(1:Int)<=1/\(1:Int)<=p
 omega
theorem Zi0 {N:Nat}(hN:2000<=N){P:List Int}(hl:P.length<=1000):Zdg N P=some (Zly (P.map mkS)):=by
 unfold Zdg
 have hmk:Zj5 24 (P.length:Int) (P.length:Int) (Zab.mk 0 0 0)=some (List.replicate P.length (Zab.mk 0 0 0)):=by
  unfold Zj5;rw [Z0 (by omega)];simp
 rw [hmk,ZR]
 have hloop:∀ (n M k:Nat),P.length-k=n->k<=P.length->n<M->Zbf (λx:Int×List Zab=>ZbO N P x.1 x.2) M ((k:Int),(P.map mkS).take k++List.replicate (P.length-k) (Zab.mk 0 0 0))=some (P.map mkS):=by
  intro n
  induction n with
  | zero =>
   intro M k hn hk hM
   have:k=P.length:=by omega
   subst this
   cases M with
   | zero=>omega
   | succ M =>
    refine Za4 ?_
    simp only [ZbO]
    rw [ZZ (by simp)]
    simp [List.take_of_length_le]
  | succ n ih =>
   intro M k hn hk hM
   cases M with
   | zero=>omega
   | succ M =>
    have hlt:k<P.length:=by omega
    have hc:=ih M (k+1) (by omega) (by omega) (by omega)
    rw [ZbU (y:=(((k+1:Nat):Int),(P.map mkS).take (k+1)++List.replicate (P.length-(k+1)) (Zab.mk 0 0 0))),hc]
    simp only [ZbO]
    have hlen:((P.map mkS).take k++List.replicate (P.length-k) (Zab.mk 0 0 0)).length=P.length:=by simp;omega
    rw [Z0 (by simpa using hlt),ZeG,Zv hlt,ZR,ZeG,Zv (by omega),ZR,Za7 (by omega) (by omega)]
    have hset:List.set ((P.map mkS).take k++List.replicate (P.length-k) (Zab.mk 0 0 0)) k (mkS P[k])=(P.map mkS).take (k+1)++List.replicate (P.length-(k+1)) (Zab.mk 0 0 0):=by
     rw [List.set_append_right _ _ (by simp;omega)]
     have e1:k-((P.map mkS).take k).length=0:=by simp;omega
     rw [e1,show P.length-k=(P.length-(k+1))+1 by omega,List.replicate_succ,List.set_cons_zero,List.take_succ_eq_append_getElem (by simpa using hlt)]
     simp
    simp only [Zk]
    rw [show (Zab.mk P[k] 0 1)=mkS P[k] from rfl,hset]
    rfl
 have hc:=hloop P.length N 0 (by omega) (by omega) (by omega)
 simp only [List.take_zero,ZL,Nat.sub_zero] at hc
 rw [show ((0:Nat):Int)=0 from rfl] at hc
 rw [hc,ZR,ZgF hN,ZR]
theorem Zi7 {P:List Int}(h:P.all perB=true):0<lcmL P:=Zlu (ZlC (ZlB h))
theorem Zgu {P:List Int}{n:Nat}:lcmL P∣n↔∀ p∈P,p.toNat∣n:=by
 unfold lcmL
 rw [Zgt]
 simp [mkS]
theorem Zhv {N:Nat}(hN:2000<=N){P:List Int}(hl:P.length<=12)(h:P.all perB=true):Zdg N P=some (if lcmL P<=960 then ((lcmL P:Int),0) else (0,6)):=by
 rw [Zi0 hN (by omega)]
 unfold Zly
 rw [ZZ (by simp;omega),Z0 (ZlB h)]
 rfl
theorem ZjJ {N:Nat}(hN:2000<=N){P:List Int}(hl:P.length<=12)(h:P.all perB=true):Zet N P=some (if lcmL P<=960 then (lcmL P:Int) else 0):=by
 have hp:∀ p∈P,1<=p/\p<=240:=λp hp=>ZfG.1 (List.all_eq_true.1 h p hp)
 have inner:∀ (j:Nat),1<=j->j<=1000->∀ (n M k:Nat) (b:Bool),P.length-k=n->k<=P.length->n<M->Zbf (λx:Bool×Int=>Zb8 N P (j:Int) x.1 x.2) M (b,(k:Int))=some (b&&(P.drop k).all (λp=>decide (p.toNat∣j))):=by
  intro j hj1 hj2 n
  induction n with
  | zero =>
   intro M k b hn hk hM
   have:k=P.length:=by omega
   subst this
   cases M with
   | zero=>omega
   | succ M=>rw [Za4 (r:=b) (by simp [Zb8])];simp
  | succ n ih =>
   intro M k b hn hk hM
   cases M with
   | zero=>omega
   | succ M =>
    have hlt:k<P.length:=by omega
    have hV:=hp P[k] (List.getElem_mem hlt)
    have hiff:=ZcA (a:=(j:Int)) (d:=P[k]) (by omega) (by omega)
    simp only [Zk] at hiff
    have hc:=ih M (k+1) (b&&decide (P[k].toNat∣j)) (by omega) (by omega) (by omega)
    rw [ZbU (y:=(b&&decide (P[k].toNat∣j),((k+1:Nat):Int))),hc,ZhP hlt,List.all_cons,Bool.and_assoc]
    simp only [Zb8]
    rw [Z0 (by simpa using hlt)]
    cases b with
    | false=>simp only [Zf,ZY,ZR,Bool.false_and];rw [Za7 (by omega) (by omega)];rfl
    | true =>
     simp only [Z1,Zi]
     rw [ZeG,Zv hlt,ZR,ZbD (by omega),ZR]
     by_cases hd:P[k].toNat∣j
     ·rw [Z0 (by simpa using hiff.2 hd),ZR,Za7 (by omega) (by omega)]
      simp [hd]
     have:¬ (j:Int).tmod P[k]=0:=λe=>hd (hiff.1 e)
     rw [ZZ (by simpa using this),ZR,Za7 (by omega) (by omega)]
     simp [hd]
 have step:∀ j:Nat,1<=j->j<=960->ZbI N P (j:Int)=if lcmL P∣j then some (.inr (.inr (j:Int))) else some (.inl ((j+1:Nat):Int)):=by
  intro j h1 h2
  simp only [ZbI]
  rw [Z0 (by simp;omega)]
  have:=inner j h1 (by omega) P.length N 0 true (by omega) (by omega) (by omega)
  rw [show ((0:Nat):Int)=0 from rfl] at this
  rw [this,ZR,List.drop_zero,Zi]
  have e:(P.all (λp=>decide (p.toNat∣j))=true)↔lcmL P∣j:=by
   rw [Zgu,Zm]
   simp
  by_cases hd:lcmL P∣j
  ·rw [Z0 (e.2 hd),Z0 hd]
  rw [ZZ (λq=>hd (e.1 q)),ZZ hd,Za7 (by omega) (by omega)]
  congr 2
 have hpos:=Zi7 h
 have key:∀ (n M j:Nat),961-j=n->1<=j->j<=961->n<M->(∀ i,1<=i->i<j->¬ lcmL P∣i)->∃ r,Zbf (λx:Int=>ZbI N P x) M (j:Int)=some r/\(match r with | .inl _=>(0:Int) | .inr p=>p)=if lcmL P<=960 then (lcmL P:Int) else 0:=by
  intro n
  induction n with
  | zero =>
   intro M j hn h1 h2 hM hno
   obtain rfl:j=961:=by omega
   cases M with
   | zero=>omega
   | succ M =>
    refine ⟨.inl (),Za4 (by simp [ZbI]),?_⟩
    rw [ZZ]
    intro hle
    exact hno (lcmL P) (by omega) (by omega) (Nat.dvd_refl _)
  | succ n ih =>
   intro M j hn h1 h2 hM hno
   cases M with
   | zero=>omega
   | succ M =>
    by_cases hd:lcmL P∣j
    ·refine ⟨.inr (j:Int),Za4 (by rw [step j h1 (by omega),Z0 hd]),?_⟩
     have hle:=Nat.le_of_dvd (by omega) hd
     have:lcmL P=j:=by
      by_cases e:lcmL P=j
      ·exact e
      exact absurd (Nat.dvd_refl _) (hno (lcmL P) (by omega) (by omega))
     rw [Z0 (by omega),this]
    rw [ZbU (by rw [step j h1 (by omega),ZZ hd])]
    refine ih M (j+1) (by omega) (by omega) (by omega) (by omega) λi hi1 hi2=>?_
    by_cases e:i=j
    ·subst e;exact hd
    exact hno i hi1 (by omega)
 unfold Zet
 obtain ⟨r,h1,h2⟩:=key 960 N 1 (by omega) (by omega) (by omega) (by omega) (λi h1 h2=>by omega)
 rw [show ((1:Nat):Int)=1 from rfl] at h1
 rw [h1,ZR,← h2]
 cases r<;>rfl
theorem ZcW {α ρ:Type}{l:List α}{p:α->Bool}{body:Int->Option (Int⊕ρ)}{bad fin:ρ}(hstep:∀ (k:Nat) (h:k<l.length),body (k:Int)=if p l[k]=true then some (.inl ((k+1:Nat):Int)) else some (.inr bad))
  (hend:body (l.length:Int)=some (.inr fin)) {N:Nat} (hN:l.length<N):Zbf body N 0=some (if l.all p=true then fin else bad):=by
 have:=Zj8 hstep hend l.length N 0 (by omega) (by omega) hN
 rw [show ((0:Nat):Int)=0 from rfl] at this
 rw [this,List.drop_zero]
theorem Zja {P:List Int}{u:Zax}(h0:0<=u.Stream)(h1:u.Stream<(P.length:Int)):idx P u.Stream=some (perU P u):=Zjc 0 h0 h1
theorem ZdB {P:List Int}{u:Zax}:useB P u=true↔0<=u.Stream/\u.Stream<(P.length:Int)/\0<=u.Port/\u.Port<48/\0<=u.From/\u.From<perU P u/\1<=u.Long/\u.Long<=perU P u:=by simp [useB]
theorem Zh5 {N:Nat}(hN:2000<=N)(p:Z3):Zdq N p=some (Zdr p):=by
 unfold Zdq Zdr
 by_cases h1:p.Periods.length<=12
 ·by_cases h2:p.Uses.length<=192
  ·rw [ZZ (by simp;omega)]
   simp only [h1,h2,decide_true,Zi]
   rw [ZcW (l:=p.Periods) (p:=perB) (bad:=.inr false) (fin:=.inl ()) (λk hk=>?_) (by simp [Zb0]) (by omega)]
   ·cases hP:p.Periods.all perB with
    | false=>simp
    | true =>
     simp only [Z1,ZR,Zi]
     rw [ZcW (l:=p.Uses) (p:=useB p.Periods) (bad:=.inr false) (fin:=.inl ()) (λk hk=>?_) (by simp [ZbZ]) (by omega)]
     ·cases hU:p.Uses.all (useB p.Periods) with
      | false=>simp
      | true =>
       simp only [Z1,ZR,Zi]
       rw [ZjJ hN h1 hP,ZR]
       have:=Zi7 hP
       by_cases hc:lcmL p.Periods<=960
       ·rw [Z0 hc];simp [hc];omega
       rw [ZZ hc];simp [hc]
     simp only [ZbZ]
     rw [Z0 (by simpa using hk),ZcX hk,ZR]
     have hw:w64 ((k:Int)+1)=((k+1:Nat):Int):=Zbq (by omega)
     rw [hw]
     by_cases hc:0<=p.Uses[k].Stream/\p.Uses[k].Stream<(p.Periods.length:Int)/\0<=p.Uses[k].Port/\p.Uses[k].Port<48
     ·obtain ⟨c1,c2,c3,c4⟩:=hc
      rw [ZZ (by simp;omega),Zja c1 c2]
      simp only [ZR]
      by_cases hu:useB p.Periods p.Uses[k]=true
      ·obtain ⟨_,_,_,_,u1,u2,u3,u4⟩:=ZdB.1 hu
       rw [ZZ (by simpa using u1),ZZ (by simpa using u2),ZZ (by simp;omega),ZR,ZZ (by simpa using u4),Z0 hu]
      have hn:¬ (0<=p.Uses[k].From/\p.Uses[k].From<perU p.Periods p.Uses[k]/\1<=p.Uses[k].Long/\p.Uses[k].Long<=perU p.Periods p.Uses[k]):=λq=>hu (ZdB.2 ⟨c1,c2,c3,c4,q⟩)
      rw [ZZ hu]
      by_cases u1:p.Uses[k].From<0
      ·rw [Z0 (by simpa using u1)];rfl
      rw [ZZ (by simpa using u1)]
      by_cases u2:p.Uses[k].From≥perU p.Periods p.Uses[k]
      ·rw [Z0 (by simpa using u2)];rfl
      rw [ZZ (by simpa using u2)]
      by_cases u3:p.Uses[k].Long<1
      ·rw [Z0 (by simpa using u3)];rfl
      rw [ZZ (by simpa using u3),ZR,Z0 (by simp;omega)]
     have hu:¬ useB p.Periods p.Uses[k]=true:=λq=>hc (by obtain ⟨a,b,c,d,_⟩:=ZdB.1 q;exact ⟨a,b,c,d⟩)
     rw [Z0 (by simp;omega),ZZ hu]
   simp only [Zb0]
   rw [Z0 (by simpa using hk),ZcX hk]
   simp only [ZR]
   rw [Zbq (by omega)]
   by_cases c1:p.Periods[k]<1
   ·rw [Z0 (by simpa using c1)]
    simp only [ZR,Z1]
    rw [ZZ (by simp [perB];omega)]
   rw [ZZ (by simpa using c1),ZR]
   by_cases c2:p.Periods[k]>240
   ·rw [Z0 (by simpa using c2),ZZ (by simp [perB];omega)]
   rw [ZZ (by simpa using c2),Z0 (by simp [perB];omega)]
  rw [Z0 (by simp;omega)];simp [h2]
 rw [Z0 (by simp;omega)];simp [h1]
theorem ZfF {N:Nat}(hN:2000<=N)(p:Z3):Zdh N p=some (if Zdr p=true then 0 else 340):=by
 unfold Zdh Zdr
 by_cases h1:p.Periods.length<=12
 ·by_cases h2:p.Uses.length<=192
  ·rw [ZZ (by simp;omega)]
   simp only [h1,h2,decide_true,Zi]
   rw [ZcW (l:=p.Periods) (p:=perB) (bad:=.inr 340) (fin:=.inl ()) (λk hk=>?_) (by simp [Zcj]) (by omega)]
   ·cases hP:p.Periods.all perB with
    | false=>simp
    | true =>
     simp only [Z1,ZR,Zi]
     rw [Zhv hN h1 hP,ZR]
     by_cases hc:lcmL p.Periods<=960
     ·rw [Z0 hc]
      simp only [bne_self_eq_false,Zf,ZY]
      rw [ZcW (l:=p.Uses) (p:=useB p.Periods) (bad:=.inr 340) (fin:=.inl ()) (λk hk=>?_) (by simp [Zci]) (by omega)]
      ·cases hU:p.Uses.all (useB p.Periods) with
       | false=>simp
       | true=>simp [hc]
      simp only [Zci]
      rw [Z0 (by simpa using hk),ZcX hk,ZR]
      have hw:w64 ((k:Int)+1)=((k+1:Nat):Int):=Zbq (by omega)
      rw [hw]
      by_cases hc:0<=p.Uses[k].Stream/\p.Uses[k].Stream<(p.Periods.length:Int)/\0<=p.Uses[k].Port/\p.Uses[k].Port<48
      ·obtain ⟨c1,c2,c3,c4⟩:=hc
       rw [ZZ (by simp;omega),Zja c1 c2]
       simp only [ZR]
       by_cases hu:useB p.Periods p.Uses[k]=true
       ·obtain ⟨_,_,_,_,u1,u2,u3,u4⟩:=ZdB.1 hu
        rw [ZZ (by simp;omega),Z0 hu]
       have hn:¬ (0<=p.Uses[k].From/\p.Uses[k].From<perU p.Periods p.Uses[k]/\1<=p.Uses[k].Long/\p.Uses[k].Long<=perU p.Periods p.Uses[k]):=λq=>hu (ZdB.2 ⟨c1,c2,c3,c4,q⟩)
       rw [ZZ hu,Z0 (by simp;omega)]
      have hu:¬ useB p.Periods p.Uses[k]=true:=λq=>hc (by obtain ⟨a,b,c,d,_⟩:=ZdB.1 q;exact ⟨a,b,c,d⟩)
      rw [Z0 (by simp;omega),ZZ hu]
     rw [ZZ hc];simp [hc]
   simp only [Zcj]
   rw [Z0 (by simpa using hk),ZcX hk]
   simp only [ZR]
   rw [Zbq (by omega)]
   by_cases c:perB p.Periods[k]=true
   ·have:=ZfG.1 c
    rw [ZZ (by simp;omega),Z0 c]
   rw [Z0,ZZ c]
   simp [perB] at c ⊢;omega
  rw [Z0 (by simp;omega)];simp [h2]
 rw [Z0 (by simp;omega)];simp [h1]
theorem ZjP {p:Z3}:Zdr p=true↔p.Periods.length<=12/\p.Uses.length<=192/\p.Periods.all perB=true/\p.Uses.all (useB p.Periods)=true/\lcmL p.Periods<=960:=by
 unfold Zdr
 simp only [Ze,ZX]
 constructor
 ·rintro ⟨⟨⟨⟨a,b⟩,c⟩,d⟩,e⟩;exact ⟨a,b,c,d,e⟩
 rintro ⟨a,b,c,d,e⟩;exact ⟨⟨⟨⟨a,b⟩,c⟩,d⟩,e⟩
end Go.Sh
namespace Go.Sh
open Go Go.Eng
structure VP (p:Z3):Prop where
 len:p.Periods.length<=12
 uses:p.Uses.length<=192
 per:∀ q∈p.Periods,1<=q/\q<=240
 use:∀ u∈p.Uses,0<=u.Stream/\u.Stream<(p.Periods.length:Int)/\0<=u.Port/\u.Port<48/\0<=u.From/\u.From<perU p.Periods u/\1<=u.Long/\u.Long<=perU p.Periods u
 lcm:lcmL p.Periods<=960
 lpos:0<lcmL p.Periods
theorem VP.of {p:Z3}(h:Zdr p=true):VP p:=by
 obtain ⟨h1,h2,h3,h4,h5⟩:=ZjP.1 h
 exact ⟨h1,h2,λq hq=>ZfG.1 (List.all_eq_true.1 h3 q hq),λu hu=>ZdB.1 (List.all_eq_true.1 h4 u hu),h5,Zi7 h3⟩
theorem Zog {P:List Int}{u:Zax}(h0:0<=u.Stream)(h1:u.Stream<(P.length:Int)):perU P u∈P:=by
 unfold perU
 rw [ZbG (by omega)]
 exact List.getElem_mem _
theorem VP.peru {p:Z3}(h:VP p){u:Zax}(hu:u∈p.Uses):1<=perU p.Periods u/\perU p.Periods u<=240:=by
 obtain ⟨a,b,_⟩:=h.use u hu
 exact h.per _ (Zog a b)
def ZcO (p:Z3)(u:Zax)(x:Int):Zab:=⟨perU p.Periods u,(u.From+x)%perU p.Periods u,u.Long⟩
def u0:Zax:=⟨0,0,0,0⟩
theorem VP.vspan {p:Z3}(h:VP p){u:Zax}(hu:u∈p.Uses)(x:Int):VSpan (ZcO p u x):=by
 obtain ⟨_,_,_,_,_,_,h1,h2⟩:=h.use u hu
 obtain ⟨h3,h4⟩:=h.peru hu
 have h5:=Int.emod_nonneg (u.From+x) (show perU p.Periods u≠0 by omega)
 have h6:=Int.emod_lt_of_pos (u.From+x) (show 0<perU p.Periods u by omega)
 show 1<=perU p.Periods u/\perU p.Periods u<=960/\0<=(u.From+x)%perU p.Periods u/\(u.From+x)%perU p.Periods u<perU p.Periods u/\1<=u.Long/\u.Long<=perU p.Periods u
 omega
theorem VP.rem {p:Z3}(h:VP p){u:Zax}(hu:u∈p.Uses){x:Int}(h0:0<=x)(h1:x<=1000000):remI (w64 (u.From+x)) (perU p.Periods u)=some ((u.From+x)%perU p.Periods u):=by
 obtain ⟨_,_,_,_,h5,h6,h7,h8⟩:=h.use u hu
 obtain ⟨h3,h4⟩:=h.peru hu
 rw [Za7 (by omega) (by omega),ZbD (by omega),Zj (by omega)]
theorem Zei (N:Nat){p:Z3}(h:VP p){u:Zax}(hu:u∈p.Uses){x:Int}(h0:0<=x)(h1:x<=1000000):Zch N p u x=some (ZcO p u x):=by
 obtain ⟨a,b,_⟩:=h.use u hu
 unfold Zch
 rw [Zja a b,ZR,h.rem hu h0 h1,ZR]
 rfl
theorem Zho (N:Nat){p:Z3}(h:VP p){k:Nat}(hk:k<p.Uses.length){x:Int}(h0:0<=x)(h1:x<=1000000):ZeO N p k x=some (ZcO p (p.Uses.getD k u0) x):=by
 have hu:p.Uses[k]∈p.Uses:=List.getElem_mem hk
 obtain ⟨a,b,_⟩:=h.use _ hu
 unfold ZeO
 rw [ZcX hk]
 simp only [ZR]
 rw [Zja a b,ZR,h.rem hu h0 h1,ZR,ZbG hk]
 rfl
def offB (p:Z3)(i x:Int):Bool:=decide (0<=i/\i<(p.Periods.length:Int)/\0<=x/\x<p.Periods.getD i.toNat 0)
theorem Zbx {p:Z3}{i x:Int}:offB p i x=true↔0<=i/\i<(p.Periods.length:Int)/\0<=x/\x<p.Periods.getD i.toNat 0:=by simp [offB]
theorem Zfc (N:Nat){p:Z3}{i x:Int}(h0:0<=i)(h1:i<(p.Periods.length:Int)):ZcV N p i x=some (offB p i x):=by
 unfold ZcV
 by_cases hx:x≥0
 ·rw [Z0 (by simpa using hx),Zjc 0 h0 h1]
  simp only [ZR]
  congr 1
  rw [Bool.eq_iff_iff,Zbx]
  simp
  omega
 rw [ZZ (by simpa using hx),ZR]
 congr 1
 symm
 rw [Bool.eq_false_iff]
 intro q
 have:=Zbx.1 q
 omega
def hitB (p:Z3)(i a j b:Int)(k m:Nat):Bool :=
 decide (k≠m)&&(((p.Uses.getD k u0).Stream==i)&&(((p.Uses.getD m u0).Stream==j)&&(((p.Uses.getD k u0).Port==(p.Uses.getD m u0).Port) &&
  !(decide (SepD (ZcO p (p.Uses.getD k u0) a) (ZcO p (p.Uses.getD m u0) b) ((ZcO p (p.Uses.getD m u0) b).From-(ZcO p (p.Uses.getD k u0) a).From))))))
def Zct (p:Z3)(i a j b:Int):Bool := !(allB p.Uses.length λk=>allB p.Uses.length λm => !(hitB p i a j b k m))
theorem Zfa {N:Nat}(hN:2000<=N){p:Z3}(h:VP p){i a j b:Int}(ha:0<=a)(ha2:a<=1000)(hb:0<=b)(hb2:b<=1000):ZcU N p i a j b=some (Zct p i a j b):=by
 have hl:=h.uses
 unfold ZcU
 rw [Zis (n:=p.Uses.length) (p:=λk=>allB p.Uses.length λm => !(hitB p i a j b k m)) (bad:=.inr true) (fin:=.inl ()) (λk hk=>?_) (by simp [Zb2]) (by omega)]
 ·unfold Zct
  cases allB p.Uses.length λk=>allB p.Uses.length λm => !(hitB p i a j b k m)<;>rfl
 simp only [Zb2]
 rw [Z0 (by simpa using hk),Zis (n:=p.Uses.length) (p:=λm => !(hitB p i a j b k m)) (bad:=.inr true) (fin:=.inl ()) (λm hm=>?_) (by simp [Zb1]) (by omega)]
 ·have hw:w64 ((k:Int)+1)=((k+1:Nat):Int):=Zbq (by omega)
  cases allB p.Uses.length λm => !(hitB p i a j b k m) with
  | false=>rfl
  | true=>simp only [Z1,ZR];rw [hw]
 simp only [Zb1]
 have hw:w64 ((m:Int)+1)=((m+1:Nat):Int):=Zbq (by omega)
 rw [Z0 (by simpa using hm),ZcX hk,ZcX hm,hw]
 simp only [ZR]
 rw [Zho N h hk ha (by omega),Zho N h hm hb (by omega)]
 simp only [ZR]
 rw [ZbG hk,ZbG hm,VSpan.separate hN (h.vspan (List.getElem_mem hk) a) (h.vspan (List.getElem_mem hm) b)]
 simp only [ZR]
 unfold hitB
 rw [ZbG hk,ZbG hm]
 by_cases c0:k=m
 ·subst c0;simp
 rw [Z0 (by simp;omega)]
 cases c1:(p.Uses[k].Stream==i) with
 | false=>simp
 | true =>
  cases c2:(p.Uses[m].Stream==j) with
  | false=>simp
  | true =>
   cases c3:(p.Uses[k].Port==p.Uses[m].Port) with
   | false=>simp
   | true =>
    simp only [Z1,ZR,c0,ne_eq,not_false_eq_true,decide_true,Zi,Bool.not_not]
    cases decide (SepD (ZcO p p.Uses[k] a) (ZcO p p.Uses[m] b) ((ZcO p p.Uses[m] b).From-(ZcO p p.Uses[k] a).From))<;>rfl
theorem Zny {s:Zab}(hs:VSpan s):¬ SepD s s (s.From-s.From):=by
 have:=hs.bounds
 unfold SepD
 simp
 omega
theorem Zn4 {u v:Zax}(h:(((u.Stream==v.Stream)&&((u.Port==v.Port)&&((u.From==v.From)&&((u.Long==v.Long)&&true))))=true)):u=v:=by
 obtain ⟨a,b,c,d⟩:=u
 obtain ⟨a',b',c',d'⟩:=v
 simp at h
 obtain ⟨rfl,rfl,rfl,rfl⟩:=h
 rfl
theorem Zej {N:Nat}(hN:2000<=N){p:Z3}(h:VP p){i a j b:Int}(ha:0<=a)(ha2:a<=1000)(hb:0<=b)(hb2:b<=1000)(hij:i=j->a=b):ZcG N p i a j b=some (Zct p i a j b):=by
 have hl:=h.uses
 unfold ZcG ZeP
 simp only [ZR]
 have round:∀ k m:Nat,∀ (hk:k<p.Uses.length) (hm:m<p.Uses.length),p.Uses[k].Stream=i->p.Uses[m].Stream=j →
   Za6 N p a b false p.Uses[k] p.Uses[m]=some (if SepD (ZcO p p.Uses[k] a) (ZcO p p.Uses[m] b) ((ZcO p p.Uses[m] b).From-(ZcO p p.Uses[k] a).From) then (false,0) else (true,1)):=by
  intro k m hk hm e1 e2
  unfold Za6
  have hv1:=h.vspan (List.getElem_mem hk) a
  have hv2:=h.vspan (List.getElem_mem hm) b
  by_cases c:((p.Uses[k].Stream==p.Uses[m].Stream)&&((p.Uses[k].Port==p.Uses[m].Port)&&((p.Uses[k].From==p.Uses[m].From)&&((p.Uses[k].Long==p.Uses[m].Long)&&true))))=true
  ·rw [Z0 c]
   have e:=Zn4 c
   have hab:a=b:=hij (by rw [← e1,← e2,e])
   subst hab
   rw [← e,ZZ (Zny hv1)]
  have hA:=ZgH hN (ZcO p p.Uses[k] a) (ZcO p p.Uses[m] b)
  rw [Z0 ⟨hv1,hv2⟩] at hA
  rw [ZZ c,Zei N h (List.getElem_mem hk) ha (by omega),ZR,Zei N h (List.getElem_mem hm) hb (by omega),ZR,hA,ZR]
  by_cases s:SepD (ZcO p p.Uses[k] a) (ZcO p p.Uses[m] b) ((ZcO p p.Uses[m] b).From-(ZcO p p.Uses[k] a).From)
  ·simp [s]
  simp [s]
 have loop:Zc4 N (λ(s:Bool×Nat) (x16:Zax) (x17:Zax)=>Zg4 (λv:Bool=>Za6 N p a b v x16 x17) s) p i j (false,0)=some (if Zct p i a j b=true then (true,1) else (false,0)):=by
  unfold Zc4
  rw [(ZhI (n:=p.Uses.length) (p:=λk=>allB p.Uses.length λm => !(hitB p i a j b k m)) (f:=λs _=>s) (bad:=.inr (true,1)) (fin:=λs=>.inl s) (λ_ s=>s=(false,0)) (λk s hk hs=>?_) (λ_ s _ hs _=>hs) (λs _=>by simp [ZbF]) (N:=N) (by omega) rfl).1]
  ·unfold Zct
   have hf:∀ (l:List Nat),l.foldl (λ(s:Bool×Nat) _=>s) (false,0)=(false,0):=by
    intro l;induction l with
    | nil=>rfl
    | cons x l ih=>simpa using ih
   rw [hf]
   cases allB p.Uses.length λk=>allB p.Uses.length λm => !(hitB p i a j b k m)<;>rfl
  subst hs
  simp only [ZbF]
  have hw:w64 ((k:Int)+1)=((k+1:Nat):Int):=Zbq (by omega)
  rw [Z0 (by simpa using hk),ZcX hk,ZR,hw]
  by_cases c1:p.Uses[k].Stream=i
  ·rw [ZZ (by simpa using c1)]
   rw [(ZhI (n:=p.Uses.length) (p:=λm => !(hitB p i a j b k m)) (f:=λs _=>s) (bad:=.inr (true,1)) (fin:=λs=>.inl s) (λ_ s=>s=(false,0)) (λm s hm hs=>?_) (λ_ s _ hs _=>hs) (λs _=>by simp [ZbE]) (N:=N) (by omega) rfl).1]
   ·have hf:∀ (l:List Nat),l.foldl (λ(s:Bool×Nat) _=>s) (false,0)=(false,0):=by
     intro l;induction l with
     | nil=>rfl
     | cons x l ih=>simpa using ih
    rw [hf]
    cases allB p.Uses.length λm => !(hitB p i a j b k m)<;>rfl
   subst hs
   simp only [ZbE]
   have hw2:w64 ((m:Int)+1)=((m+1:Nat):Int):=Zbq (by omega)
   rw [Z0 (by simpa using hm),ZcX hm,ZR,hw2]
   unfold hitB
   rw [ZbG hk,ZbG hm]
   by_cases c0:k=m
   ·subst c0;simp
   have c0':((m:Int)==(k:Int))=false:=by simp;omega
   rw [c0']
   simp only [Zf,ZY]
   by_cases c2:p.Uses[m].Stream=j
   ·rw [ZZ (by simpa using c2),ZR]
    by_cases c3:p.Uses[k].Port=p.Uses[m].Port
    ·rw [ZZ (by simp [c3])]
     unfold Zg4
     simp only [Z1]
     rw [round k m hk hm c1 c2]
     simp only [c0,c1,c2,c3,ne_eq,not_false_eq_true,decide_true,Zi,beq_self_eq_true,Bool.not_not]
     by_cases s:SepD (ZcO p p.Uses[k] a) (ZcO p p.Uses[m] b) ((ZcO p p.Uses[m] b).From-(ZcO p p.Uses[k] a).From)
     ·simp [s]
     simp [s]
    rw [Z0 (by simp;exact λq=>c3 q.symm)]
    simp [c3]
   rw [Z0 (by simpa using c2),ZR]
   simp [c2]
  rw [Z0 (by simpa using c1)]
  have:(allB p.Uses.length λm => !(hitB p i a j b k m))=true:=by
   rw [Zjl]
   intro m hm
   unfold hitB
   rw [ZbG hk]
   simp [c1]
  rw [this,Z0 rfl]
 rw [loop,ZR]
 cases Zct p i a j b<;>rfl
def argB (p:Z3)(i a j b:Int):Bool:=offB p i a&&offB p j b && !(decide (i=j)&&decide (a≠b))
def Zdw (p:Z3)(i a j b:Int):Bool×Int:=if Zdr p=true then (if argB p i a j b=true then (Zct p i a j b,0) else (false,2)) else (false,340)
theorem Zin {p:Z3}(h:VP p){i x:Int}(ho:offB p i x=true):0<=x/\x<240:=by
 obtain ⟨a,b,c,d⟩:=Zbx.1 ho
 rw [ZbG (by omega)] at d
 have:=h.per _ (List.getElem_mem (show i.toNat<p.Periods.length by omega))
 omega
theorem ZgN {N:Nat}(hN:2000<=N)(p:Z3)(i a j b:Int):ZcH N p i a j b=some (Zdw p i a j b):=by
 unfold ZcH Zdw
 rw [ZfF hN,ZR]
 cases hp:Zdr p with
 | false=>rfl
 | true =>
  have h:=VP.of hp
  simp only [Z1,bne_self_eq_false,Zf,ZY]
  by_cases c1:0<=i/\i<(p.Periods.length:Int)/\0<=j/\j<(p.Periods.length:Int)
  ·obtain ⟨i1,i2,j1,j2⟩:=c1
   rw [ZZ (by simp;omega),Zfc N i1 i2,Zfc N j1 j2]
   simp only [ZR]
   unfold argB
   cases o1:offB p i a with
   | false=>rfl
   | true =>
    cases o2:offB p j b with
    | false=>rfl
    | true =>
     simp only [Bool.not_true,Zf,ZY,Zi]
     have b1:=Zin h o1
     have b2:=Zin h o2
     by_cases c:i=j
     ·by_cases d:a=b
      ·rw [Zej hN h b1.1 (by omega) b2.1 (by omega) (λ_=>d)]
       simp [c,d]
      simp [c,d]
     rw [Zej hN h b1.1 (by omega) b2.1 (by omega) (λq=>absurd q c)]
     simp [c]
  rw [Z0 (by simp;omega)]
  have:argB p i a j b=false:=by
   unfold argB
   rw [Bool.eq_false_iff]
   intro q
   simp only [Ze] at q
   have q1:=Zbx.1 q.1.1
   have q2:=Zbx.1 q.1.2
   omega
  rw [this];rfl
end Go.Sh

namespace Go.Sh
open Go Go.Eng
def upF {σ:Type}(step:Nat->σ->Option σ):Nat->σ->Option σ
 | 0,s=>some s
 | n+1,s=>(upF step n s).bind (step n)
section
variable {N:Nat} {p:Z3} {f:List Z5}
def Zoe (nP len c:Int)(a:Zag):Bool :=
 if a.By = -1 then decide (a.To=w64 (a.From+1)/\c<a.Next/\a.Next<len)
 else if a.Next=0 then (if a.By = -2 then decide (c=0/\a.From≠0) else decide (0<=a.By/\a.By<nP)) else false
def Zvi (nP len c per at_:Int)(a:Zag):Bool:=decide (a.From=at_/\a.From<a.To/\a.To<=per)&&Zoe nP len c a
def Zou (nP len c per:Int)(l:List Zag)(k:Nat)(at_:Int):Option Int:=(l[k]?).bind λa=>if Zvi nP len c per at_ a=true then some a.To else none
def Zvh (nP len c per:Int)(l:List Zag):Bool:=match upF (Zou nP len c per l) l.length 0 with
 | some e=>e==per
 | none=>false
def Zoq (p:Z3)(f:List Z5)(c:Nat):Bool:=match f[c]? with
 | some x=>decide (0<=x.Stream/\x.Stream<(p.Periods.length:Int))&&Zvh p.Periods.length f.length c (p.Periods.getD x.Stream.toNat 0) x.Arms
 | none=>false
end
end Go.Sh

namespace Go.Sh
open Go Go.Eng
section
variable {N:Nat} {p:Z3} {f:List Z5}
def bump (l:List Int)(a:Zag):List Int:=if a.By = -1 then l.set a.Next.toNat (w64 (l.getD a.Next.toNat 0+1)) else l
def Zvg (f:List Z5)(k:Nat)(l:List Int):List Int:=match f[k]? with
 | some x=>x.Arms.foldl bump l
 | none=>l
end
end Go.Sh

namespace Go.Sh
open Go Go.Eng
section
variable {N:Nat} {p:Z3} {f:List Z5}
def ZhW (p:Z3)(f:List Z5)(k:Nat)(l:List Int):Option (List Int):=if Zoq p f k=true then some (Zvg f k l) else none
end
end Go.Sh

namespace Go.Sh
open Go Go.Eng
def Zjv:List Int:=[4,6,8,12,3,5,10,24]
theorem ZiP:∀ x∈Zjv,3<=x/\x<=24/\x.toNat∣120:=by decide
structure GP (p:Z3):Prop where
 prob:Zdr p=true
 len:p.Periods.length<=5
 uses:p.Uses.length<=12
 tab:∀ x∈p.Periods,x∈Zjv
 port:∀ u∈p.Uses,u.Port<4
theorem Zkl {α:Type}{b:Nat}{l:List α}{x:α}(hl:l.length<=1000)(hb:b<=1000):appI b l [x]=some (l++[x]):=by
 refine ZbH ?_ (by omega)
 simp;omega
theorem Zem {N:Nat}(hN:2000<=N){d:Zbn}(hd:ZdO d):∃ p,Zbm N d=some p/\GP p:=by
 obtain ⟨⟨_,d1⟩,⟨_,d2⟩⟩:=hd
 unfold Zbm
 obtain ⟨P,hP,P1,P2⟩:=Zeb (body:=λx:Int×(List Int)=>ZaV N d x.1 x.2) (λx=>0<=x.1/\x.1<=5/\(x.2.length:Int)=x.1/\∀ q∈x.2,q∈Zjv) (λx=>(5-x.1).toNat) (λl=>l.length<=5/\∀ q∈l,q∈Zjv) (λx hx=>by
  obtain ⟨i,l⟩:=x
  obtain ⟨i0,i1,i2,i3⟩:=hx
  simp only at i0 i1 i2 i3
  simp only [ZaV]
  by_cases c:i<(d.Periods.length:Int)/\i<5
  ·left
   obtain ⟨k,rfl⟩:∃ k:Nat,i=k:=⟨i.toNat,by omega⟩
   have hk:k<d.Periods.length:=by omega
   have hb:0<=d.Periods[k]/\d.Periods[k]<=255:=(d1 _ (List.getElem_mem hk)).u8
   have hm0:=Int.emod_nonneg d.Periods[k] (show (8:Int)≠0 by decide)
   have hm1:=Int.emod_lt_of_pos d.Periods[k] (show (0:Int)<8 by decide)
   have ht:(d.Periods[k]%8).toNat<Zjv.length:=by simp [Zjv];omega
   refine ⟨(((k+1:Nat):Int),l++[Zjv[(d.Periods[k]%8).toNat]]),?_,⟨by omega,by omega,by simp;omega,λq hq=>?_⟩,by omega⟩
   ·rw [Z0 (by simp;omega),ZcX hk,ZR,Zj hb.1,show ([4,6,8,12,3,5,10,24]:List Int)=Zjv from rfl,Zm1 hm0 ht,ZR,Zkl (by omega) (by omega),ZR,Zbq (by omega)]
   rcases List.mem_append.1 hq with q1|q1
   ·exact i3 q q1
   simp only [ZK] at q1
   subst q1
   exact List.getElem_mem ht
  right
  refine ⟨l,?_,by omega,i3⟩
  rw [ZZ (by simp;omega)]) N (0,[]) ⟨by omega,by omega,rfl,by simp⟩ (by simp;omega)
 rw [hP,ZR]
 have hper:P.all perB=true:=List.all_eq_true.2 λq hq=>by
  have:=ZiP q (P2 q hq)
  exact ZfG.2 (by omega)
 obtain ⟨U,hU,U1,U2⟩:=Zeb (body:=λx:Int×(List Zax)=>ZaU N d P x.1 x.2) (λx=>0<=x.1/\x.1<=12/\(x.2.length:Int)=x.1/\∀ u∈x.2,useB P u=true/\u.Port<4) (λx=>(12-x.1).toNat) (λl=>l.length<=12/\∀ u∈l,useB P u=true/\u.Port<4) (λx hx=>by
  obtain ⟨i,l⟩:=x
  obtain ⟨i0,i1,i2,i3⟩:=hx
  simp only at i0 i1 i2 i3
  simp only [ZaU]
  by_cases c:i<(d.Uses.length:Int)/\i<12/\0<P.length
  ·left
   obtain ⟨c1,c2,c3⟩:=c
   obtain ⟨k,rfl⟩:∃ k:Nat,i=k:=⟨i.toNat,by omega⟩
   have hk:k<d.Uses.length:=by omega
   obtain ⟨b0,b1,b2,b3⟩:=d2 _ (List.getElem_mem hk)
   have b0:0<=d.Uses[k].x0/\d.Uses[k].x0<=255:=b0.u8
   have b1:0<=d.Uses[k].x1/\d.Uses[k].x1<=255:=b1.u8
   have b2:0<=d.Uses[k].x2/\d.Uses[k].x2<=255:=b2.u8
   have b3:0<=d.Uses[k].x3/\d.Uses[k].x3<=255:=b3.u8
   have s0:=Int.emod_nonneg d.Uses[k].x0 (show (P.length:Int)≠0 by omega)
   have s1:=Int.emod_lt_of_pos d.Uses[k].x0 (show 0<(P.length:Int) by omega)
   have hn:(d.Uses[k].x0%(P.length:Int)).toNat<P.length:=by omega
   obtain ⟨n,en⟩:∃ n,n=P[(d.Uses[k].x0%(P.length:Int)).toNat]:=⟨_,rfl⟩
   have hn3:=ZiP n (P2 n (by rw [en];exact List.getElem_mem hn))
   have f0:=Int.emod_nonneg d.Uses[k].x2 (show n≠0 by omega)
   have f1:=Int.emod_lt_of_pos d.Uses[k].x2 (show 0<n by omega)
   have g0:=Int.emod_nonneg d.Uses[k].x3 (show n≠0 by omega)
   have g1:=Int.emod_lt_of_pos d.Uses[k].x3 (show 0<n by omega)
   have g2:=Int.emod_nonneg (d.Uses[k].x3%n) (show (4:Int)≠0 by decide)
   have g3:=Int.emod_lt_of_pos (d.Uses[k].x3%n) (show (0:Int)<4 by decide)
   have g4:=Int.emod_nonneg (d.Uses[k].x3%n%4) (show n≠0 by omega)
   have g5:=Int.emod_lt_of_pos (d.Uses[k].x3%n%4) (show 0<n by omega)
   have p0:=Int.emod_nonneg d.Uses[k].x1 (show (4:Int)≠0 by decide)
   have p1:=Int.emod_lt_of_pos d.Uses[k].x1 (show (0:Int)<4 by decide)
   refine ⟨(((k+1:Nat):Int),l++[⟨d.Uses[k].x0%P.length,d.Uses[k].x1%4,d.Uses[k].x2%n,1+d.Uses[k].x3%n%4%n⟩]),?_,⟨by omega,by omega,by simp;omega,λu hu=>?_⟩,by omega⟩
   ·rw [Z0 (by simp;omega),Z0 (by simp;omega)]
    simp only [ZR]
    rw [Z0 (by simp;omega),ZcX hk,ZR,Za7 (by omega) (by omega),ZbD (by omega),ZR,Zj b0.1,Zm1 s0 hn,ZR,← en,
     Za7 (x:=d.Uses[k].x2) (by omega) (by omega),ZbD (by omega),ZR,Za7 (x:=d.Uses[k].x3) (by omega) (by omega),ZbD (by omega),ZR,ZbD (by omega),ZR,
     Zj b1.1,Zj b2.1,Zj b3.1,Zj g0,Zj g2,Za7 (x:=d.Uses[k].x1%4) (by omega) (by omega),Za7 (x:=1+_) (by omega) (by omega),Zkl (by omega) (by omega),ZR,Zbq (by omega)]
   rcases List.mem_append.1 hu with q1|q1
   ·exact i3 u q1
   simp only [ZK] at q1
   subst q1
   refine ⟨ZdB.2 ?_,p1⟩
   unfold perU
   simp only
   rw [ZbG hn,← en]
   omega
  right
  refine ⟨l,?_,by omega,i3⟩
  by_cases c1:i<(d.Uses.length:Int)
  ·rw [Z0 (by simpa using c1)]
   by_cases c2:i<12
   ·rw [Z0 (by simpa using c2),ZR,ZZ (by rw [ZX];omega)]
   rw [ZZ (by simpa using c2),ZR,ZZ (by simp)]
  rw [ZZ (by simpa using c1),ZR,ZZ (by simp)]) N (0,[]) ⟨by omega,by omega,rfl,by simp⟩ (by simp;omega)
 rw [hU,ZR]
 refine ⟨_,rfl,?_,P1,U1,P2,λu hu=>(U2 u hu).2⟩
 rw [ZjP]
 refine ⟨by show P.length<=12;omega,by show U.length<=192;omega,hper,List.all_eq_true.2 λu hu=>(U2 u hu).1,?_⟩
 have hdv:lcmL P∣120:=Zgu.2 λq hq=>(ZiP q (P2 q hq)).2.2
 have:=Nat.le_of_dvd (by decide) hdv
 show lcmL P<=960
 omega
end Go.Sh
namespace Go.Sh
open Go Go.Eng
def ZpH (p:Z3)(l:List Int)(by_:Int)(n:Nat):List Int:=(List.range n).map λk=>(l.getD k 0+by_)%(p.Periods.getD k 0)
theorem Zhb {p:Z3}(h:VP p){u:Zax}(hu:u∈p.Uses){i:Nat}(hi:u.Stream=(i:Int))(x by_:Int):ZcO p u ((x+by_)%p.Periods.getD i 0)=shift (ZcO p u x) by_:=by
 have e:perU p.Periods u=p.Periods.getD i 0:=by unfold perU;rw [hi];simp
 unfold ZcO shift
 simp only [← e]
 congr 1
 rw [Int.emod_add_emod,Int.add_emod_emod,Int.add_assoc]
theorem ZkI {p:Z3}(h:VP p)(i j:Nat)(a b by_:Int):Zct p i ((a+by_)%p.Periods.getD i 0) j ((b+by_)%p.Periods.getD j 0)=Zct p i a j b:=by
 unfold Zct
 congr 1
 refine ZiE λk hk=>ZiE λm hm=>?_
 congr 1
 unfold hitB
 rw [ZbG hk,ZbG hm,Bool.eq_iff_iff]
 simp only [Ze,ZX,beq_iff_eq,Zg,decide_eq_false_iff_not]
 refine and_congr_right λ_=>and_congr_right λc=>and_congr_right λd=>and_congr_right λ_=>?_
 rw [Zhb h (List.getElem_mem hk) c,Zhb h (List.getElem_mem hm) d,Zmy (h.vspan (List.getElem_mem hk) a) (h.vspan (List.getElem_mem hm) b)]
end Go.Sh
namespace Go.Sh
open Go Go.Eng
theorem ZmS {κ υ:Type}[DecidableEq κ](m:List (κ×υ))(x y:κ)(v:υ):Zd8 (ZfL m x v) y=if x=y then some v else Zd8 m y:=by
 induction m with
 | nil =>
  unfold ZfL Zd8
  by_cases h:x=y<;>simp [h]
 | cons q m ih =>
  unfold ZfL
  by_cases h:q.1=x
  ·rw [Z0 h]
   unfold Zd8
   rw [List.find?_cons,List.find?_cons]
   by_cases e:x=y
   ·simp [e]
   simp [e,h]
  rw [ZZ h]
  have e1:Zd8 (q::ZfL m x v) y=if q.1=y then some q.2 else Zd8 (ZfL m x v) y:=by
   unfold Zd8
   rw [List.find?_cons]
   by_cases e:q.1=y<;>simp [e]
  have e2:Zd8 (q::m) y=if q.1=y then some q.2 else Zd8 m y:=by
   unfold Zd8
   rw [List.find?_cons]
   by_cases e:q.1=y<;>simp [e]
  rw [e1,e2,ih]
  by_cases e:q.1=y
  ·rw [Z0 e,Z0 e,ZZ (λe3=>h (by rw [e,e3]))]
  rw [ZZ e,ZZ e]
section
variable {N:Nat} {p:Z3}
end
end Go.Sh

namespace Go.Sh
open Go Go.Eng
section
variable {N:Nat} {p:Z3}
def othO (g:ZaK)(s b:Nat)(x:Int):Int:=if b=s then x else g.l.getD b 0
def refB (p:Z3)(s:Nat)(g:ZaK)(a:Zag):Bool :=
 (decide (a.By.toNat=s) || !(g.l.getD a.By.toNat 0 == -1))&&allB (a.To-a.From).toNat λk=>Zct p s (a.From+k) a.By.toNat (othO g s a.By.toNat (a.From+k))
end
end Go.Sh

namespace Go.Sh
open Go Go.Eng
section
variable {N:Nat} {p:Z3} {f:List Z5}
def armH (p:Z3)(s:Nat)(g:ZaK)(rec_:Nat->ZaK->Bool)(a:Zag):Bool :=
 if a.By = -1 then rec_ a.Next.toNat (g.set s a.From) else if 0<=a.By then refB p s g a else true
def hB (p:Z3)(f:List Z5):Nat->Nat->ZaK->Bool
 | 0,_,_=>false
 | n+1,c,g=>match f[c]? with
  | none=>false
  | some x=>(g.l.getD x.Stream.toNat 0 == -1)&&x.Arms.all (armH p x.Stream.toNat g (hB p f n))
end
end Go.Sh
namespace Go.Sh
open Go Go.Eng
def g0:ZaK:=⟨-1,-1,-1,-1,-1,-1,-1,-1,-1,-1,-1,-1⟩
section
variable {N:Nat} {p:Z3} {f:List Z5}
end
end Go.Sh
namespace Go.Sh
open Go Go.Eng
def ZeH (q:Nat->Bool):Nat->Option Nat
 | 0=>none
 | n+1=>match ZeH q n with
  | some j=>some j
  | none=>if q n=true then some n else none
theorem Zdv {q:Nat->Bool}:∀ {n:Nat},ZeH q n=none↔∀ k,k<n->q k=false
 | 0=>by simp [ZeH]
 | n+1=>by
  have ih:=Zdv (q:=q) (n:=n)
  simp only [ZeH]
  cases h:ZeH q n with
  | some j =>
   simp only [reduceCtorEq,false_iff]
   intro h2
   rw [ih.2 λk hk=>h2 k (by omega)] at h
   cases h
  | none =>
   simp only
   have h3:=ih.1 h
   constructor
   ·intro h2 k hk
    by_cases e:k=n
    ·subst e
     cases hq:q k with
     | false=>rfl
     | true=>rw [hq,Z0 rfl] at h2;cases h2
    exact h3 k (by omega)
   intro h2
   rw [h2 n (by omega),ZZ (by simp)]
theorem Zcu {q:Nat->Bool}{j:Nat}:∀ {n:Nat},ZeH q n=some j↔j<n/\q j=true/\∀ k,k<j->q k=false
 | 0=>by simp [ZeH]
 | n+1=>by
  have ih:=Zcu (q:=q) (j:=j) (n:=n)
  simp only [ZeH]
  cases h:ZeH q n with
  | some j' =>
   simp only [ZU]
   rw [h] at ih
   simp only [ZU] at ih
   constructor
   ·intro e
    obtain ⟨a,b,c⟩:=ih.1 e
    exact ⟨by omega,b,c⟩
   rintro ⟨a,b,c⟩
   by_cases e:j=n
   ·subst e
    obtain ⟨a',b',_⟩:=Zcu.1 h
    rw [c j' a'] at b'
    cases b'
   exact ih.2 ⟨by omega,b,c⟩
  | none =>
   simp only
   have h3:=Zdv.1 h
   constructor
   ·intro h2
    split at h2
    ·rename_i hq
     cases h2
     exact ⟨by omega,hq,h3⟩
    cases h2
   rintro ⟨a,b,c⟩
   by_cases e:j=n
   ·subst e;rw [Z0 b]
   rw [h3 j (by omega)] at b;cases b
section
variable {N:Nat} {p:Z3}
def byS (p:Z3)(i:Nat)(x:Int)(all:List Int):Int:=match ZeH (λj=>Zct p i x j (all.getD j 0)) (i+1) with
 | some j=>j
 | none => -1
def c00:Z5:=⟨0,[]⟩
def a00:Zag:=⟨0,0,0,0⟩
def ZeB (l:List Zag)(b:Int):Bool:=decide (b ≠ -1)&&decide (l≠[])&&decide ((l.getD (l.length-1) a00).By=b)
def ZkQ (l:List Zag)(t:Int):List Zag:=l.set (l.length-1) { l.getD (l.length-1) a00 with To:=t }
def bS (p:Z3)(given:List Int)(c x:Nat):Int:=if c=0/\0<x then -2 else byS p given.length x (given++[(x:Int)])
def ZdP (p:Z3)(given:List Int)(c:Nat)(R:List Z5->List Int->Option (List Z5))(x:Nat)(s:List Z5):Option (List Z5):=
 if ZeB (s.getD c c00).Arms (bS p given c x)=true then some (s.set c ⟨(s.getD c c00).Stream,ZkQ (s.getD c c00).Arms ((x:Int)+1)⟩)
 else if bS p given c x = -1 then (R s (given++[(x:Int)])).map λr=>r.set c ⟨(r.getD c c00).Stream,(r.getD c c00).Arms++[⟨x,(x:Int)+1,-1,s.length⟩]⟩
 else some (s.set c ⟨(s.getD c c00).Stream,(s.getD c c00).Arms++[⟨x,(x:Int)+1,bS p given c x,0⟩]⟩)
def ZgO (p:Z3):Nat->List Z5->List Int->Option (List Z5)
 | 0,_,_=>none
 | n+1,f,given=>if 2000<=f.length then none else upF (ZdP p given f.length (ZgO p n)) (p.Periods.getD given.length 0).toNat (f++[⟨given.length,[]⟩])
def ZcC (s:List Z5):Prop:=∀ y∈s,y.Arms.length<=240
structure GI (f:List Z5) (i x:Nat) (s:List Z5):Prop where
 pre:f <+: s
 lt:f.length<s.length
 le:s.length<=2000
 st:(s.getD f.length c00).Stream=i
 ar:(s.getD f.length c00).Arms.length<=x
 sm:ZcC s
def RK (R:List Z5->List Int->Option (List Z5)):Prop:=∀ s g r,s.length<=2000->ZcC s->R s g=some r->s <+: r/\r.length<=2000/\ZcC r
theorem ZcC.set {s:List Z5}(h:ZcC s){c:Nat}{y:Z5}(hy:y.Arms.length<=240):ZcC (s.set c y):=λz hz=>by
 rcases List.mem_or_eq_of_mem_set hz with hz|rfl
 ·exact h z hz
 exact hy
theorem ZnD {α:Type}{l m:List α}{i:Nat}(x:α)(h:l <+: m)(hi:l.length<=i):l <+: m.set i x:=by
 obtain ⟨t,rfl⟩:=h
 rw [List.set_append_right _ _ hi]
 exact ⟨_,rfl⟩
theorem ZdG {α:Type}{l m:List α}{i:Nat}(d:α)(h:l <+: m)(hi:i<l.length):m.getD i d=l.getD i d:=by
 obtain ⟨t,rfl⟩:=h
 simp [Zp,Zq hi]
theorem ZcL {α:Type}{l:List α}{i:Nat}(d x:α)(hi:i<l.length):(l.set i x).getD i d=x:=by
 simp [Zp,hi]
theorem Zm8 (l:List Zag)(t:Int):(ZkQ l t).length=l.length:=by simp [ZkQ]
theorem GI.set {f:List Z5}{i x x':Nat}{s:List Z5}(h:GI f i x s){l:List Zag}(hl:l.length<=x')(hx:x'<=240):GI f i x' (s.set f.length ⟨(s.getD f.length c00).Stream,l⟩):=
 {pre:=ZnD _ h.pre (Nat.le_refl _)
  lt:=by rw [ZF];exact h.lt
  le:=by rw [ZF];exact h.le
  st:=by rw [ZcL _ _ h.lt];exact h.st
  ar:=by rw [ZcL _ _ h.lt];exact hl
  sm:=h.sm.set (by simp only;omega) }
theorem GI.step {f:List Z5}{given:List Int}{R:List Z5->List Int->Option (List Z5)}(hR:RK R){i x:Nat}{s s':List Z5}(h:GI f i x s)(hx:x<240)(hs:ZdP p given f.length R x s=some s'):GI f i (x+1) s':=by
 unfold ZdP at hs
 split at hs
 ·cases hs
  exact h.set (by rw [Zm8];have:=h.ar;omega) (by omega)
 split at hs
 ·cases hr:R s (given++[(x:Int)]) with
  | none=>rw [hr] at hs;cases hs
  | some r =>
   rw [hr] at hs
   cases hs
   obtain ⟨h1,h2,h3⟩:=hR s _ r h.le h.sm hr
   have h4:GI f i x r :=
    {pre:=h.pre.trans h1
     lt:=Nat.lt_of_lt_of_le h.lt h1.length_le
     le:=h2
     st:=by rw [ZdG _ h1 h.lt];exact h.st
     ar:=by rw [ZdG _ h1 h.lt];exact h.ar
     sm:=h3 }
   exact h4.set (by have:=h4.ar;rw [ZC,ZG];omega) (by omega)
 cases hs
 exact h.set (by have:=h.ar;rw [ZC,ZG];omega) (by omega)
theorem GI.start {f:List Z5}(i:Nat)(hf:f.length<2000)(hs:ZcC f):GI f i 0 (f++[⟨i,[]⟩]):=
 {pre:=List.prefix_append _ _
  lt:=by simp
  le:=by simp;omega
  st:=by simp [Zp]
  ar:=by simp [Zp]
  sm:=λy hy=>by
   rcases List.mem_append.1 hy with hy|hy
   ·exact hs y hy
   simp only [ZK] at hy;subst hy;simp }
theorem GI.loop {f:List Z5}{given:List Int}{R:List Z5->List Int->Option (List Z5)}(hR:RK R){i:Nat}{s0:List Z5}(h0:GI f i 0 s0) :
  ∀ {n:Nat} {s:List Z5},n<=240->upF (ZdP p given f.length R) n s0=some s->GI f i n s
 | 0,s,_,h=>by simp only [upF,ZU] at h;subst h;exact h0
 | n+1,s,hn,h=>by
  simp only [upF] at h
  cases hu:upF (ZdP p given f.length R) n s0 with
  | none=>rw [hu] at h;cases h
  | some s1 =>
   rw [hu] at h
   exact (GI.loop hR h0 (by omega) hu).step hR (by omega) h
theorem Zec (hp:VP p):∀ n,RK (ZgO p n)
 | 0=>λs g r _ _ h=>by cases h
 | n+1=>λs g r h1 h2 h=>by
  simp only [ZgO] at h
  split at h
  ·cases h
  rename_i hc
  have hper:(p.Periods.getD g.length 0).toNat<=240:=by
   by_cases e:g.length<p.Periods.length
   ·rw [ZbG e]
    have:=hp.per _ (List.getElem_mem e)
    omega
   rw [Zp,Zw (by omega)];simp
  have hG:=GI.loop (Zec hp n) (GI.start g.length (by omega) h2) hper h
  exact ⟨hG.pre,hG.le,hG.sm⟩
end
end Go.Sh
namespace Go.Sh
open Go Go.Eng
section
variable {N:Nat} {p:Z3}
def ZnK (p:Z3):Option (List Z5):=if p.Periods.length=0 then none else ZgO p p.Periods.length [] []
theorem u8 {x:Int}(h:InK .u8 x):0<=x/\x<=255:=h.u8
end
end Go.Sh
namespace Go.Sh
open Go Go.Eng
section
variable {N:Nat} {p:Z3}
def KOK (p:Z3)(m:slvK):Prop:=∀ k b,Zd8 m k=some b->b=(Zdw p k.i k.x_ k.j 0).1
theorem KOK.nil:KOK p []:=λk b h=>by simp [Zd8] at h
theorem KOK.set {m:slvK}(h:KOK p m)(k:ZaQ):KOK p (ZfL m k (Zdw p k.i k.x_ k.j 0).1):=λk' b hb=>by
 rw [ZmS] at hb
 by_cases e:k=k'
 ·rw [Z0 e,ZU] at hb
  rw [← hb,e]
 rw [ZZ e] at hb
 exact h k' b hb
theorem Zjg (hp:Zdr p=true){i j:Nat}{x y:Int}(hi:offB p i x=true)(hj:offB p j y=true)(hij:i=j->x=y) :
  Zdw p i ((x-y)%p.Periods.getD i 0) j 0=(Zct p i x j y,0):=by
 have h:=VP.of hp
 obtain ⟨i0,i1,x0,x1⟩:=Zbx.1 hi
 obtain ⟨j0,j1,y0,y1⟩:=Zbx.1 hj
 have hpi:p.Periods.getD i 0∈p.Periods:=by rw [ZbG (by omega)];exact List.getElem_mem _
 have pi:=h.per _ hpi
 simp only [Zk] at x1 y1
 obtain ⟨q,hq⟩:∃ q,q=(x-y)%p.Periods.getD i 0:=⟨_,rfl⟩
 have q0:0<=q:=by rw [hq];exact Int.emod_nonneg _ (by omega)
 have q1:q<p.Periods.getD i 0:=by rw [hq];exact Int.emod_lt_of_pos _ (by omega)
 rw [← hq]
 unfold Zdw
 have ea:argB p i q j 0=true:=by
  unfold argB
  have o1:offB p i q=true:=Zbx.2 ⟨by omega,by omega,q0,by rw [Zk];exact q1⟩
  have o2:offB p j 0=true:=Zbx.2 ⟨by omega,by omega,by omega,by rw [Zk];omega⟩
  rw [o1,o2]
  by_cases e:i=j
  ·have:=hij e
   have hz:q=0:=by rw [hq,this];simp
   simp [hz]
  have:¬ ((i:Int)=(j:Int)):=by omega
  simp [this]
 rw [Z0 hp,Z0 ea]
 congr 1
 have:=ZkI h i j x y (-y)
 rw [show y + -y=0 by omega,Int.zero_emod,show x + -y=x-y by omega,← hq] at this
 exact this
theorem Zgk (hN:2000<=N)(hp:Zdr p=true){m:slvK}(hm:KOK p m){i j:Nat}{x y:Int}(hi:offB p i x=true)(hj:offB p j y=true)(hij:i=j->x=y) :
  ∃ m',ZdS N p m i x j y=some (Zct p i x j y,m')/\KOK p m':=by
 have h:=VP.of hp
 obtain ⟨i0,i1,x0,x1⟩:=Zbx.1 hi
 obtain ⟨j0,j1,y0,y1⟩:=Zbx.1 hj
 have xl:=Zin h hi;have yl:=Zin h hj
 have hpi:p.Periods.getD i 0∈p.Periods:=by rw [ZbG (by omega)];exact List.getElem_mem _
 have pi:=h.per _ hpi
 have ec:=Zjg hp hi hj hij
 have h1:=Int.lt_tmod_of_pos (x-y) (show 0<p.Periods.getD i 0 by omega)
 have h2:=Int.tmod_lt_of_pos (x-y) (show 0<p.Periods.getD i 0 by omega)
 unfold ZdS
 rw [show idx p.Periods ((i:Nat):Int)=some (p.Periods.getD i 0) by rw [ZcX (by omega),ZbG (by omega)],ZR,Za7 (x:=x-y) (by omega) (by omega),ZbD (by omega),ZR,Za7 (by omega) (by omega),ZbD (by omega),ZR,ZiO (by omega)]
 obtain ⟨q,hq⟩:∃ q,q=(x-y)%p.Periods.getD i 0:=⟨_,rfl⟩
 rw [← hq] at ec ⊢
 cases hg:Zd8 m (ZaQ.mk i q j) with
 | some b =>
  have hb:=hm _ _ hg
  simp only [ec] at hb
  refine ⟨m,?_,hm⟩
  unfold mhas ZkH
  rw [hg]
  simp [hb]
 | none =>
  refine ⟨ZfL m (ZaQ.mk i q j) (Zdw p i q j 0).1,?_,hm.set (ZaQ.mk i q j)⟩
  unfold mhas
  rw [hg,Z0 (by simp),ZgN hN,ec]
  rfl
theorem ZbL {given:List Int}{x:Int}{j:Nat}(h:j<given.length):(given++[x]).getD j 0=given.getD j 0:=by
 rw [Zp,Zq h,Zp]
theorem Zb6 {given:List Int}{x:Int}:(given++[x]).getD given.length 0=x:=by
 rw [Zp];simp
def preB (p:Z3)(given:List Int):Prop:=∀ k,k<given.length->offB p k (given.getD k 0)=true
theorem preB.snoc {given:List Int}(h:preB p given){x:Int}(hx:offB p given.length x=true):preB p (given++[x]):=λk hk=>by
 rw [ZC,ZG] at hk
 by_cases e:k=given.length
 ·subst e;rw [Zb6];exact hx
 rw [ZbL (by omega)];exact h k (by omega)
theorem ZiS (hN:2000<=N)(hp:Zdr p=true){m:slvK}(hm:KOK p m){given:List Int}(hg:preB p given){x:Int}(hx:offB p given.length x=true) :
  ∃ m',ZdR N p given m given.length x=some (byS p given.length x (given++[x]),m')/\KOK p m':=by
 have h:=VP.of hp
 obtain ⟨i0,i1,x0,x1⟩:=Zbx.1 hx
 have hl:=h.len
 obtain ⟨r,hr,e⟩:=Zeb (body:=λy:Int×slvK=>Zcd N p given given.length x y.1 y.2)
  (λy=>∃ k:Nat,y.1=k/\k<=given.length/\KOK p y.2/\∀ m,m<k->Zct p given.length x m ((given++[x]).getD m 0)=false)
  (λy=>((given.length:Int)+1-y.1).toNat)
  (λo=>(∃ m',o=.inl m'/\KOK p m'/\∀ m,m<given.length->Zct p given.length x m ((given++[x]).getD m 0)=false)∨(∃ (j:Nat) (m':slvK),o=.inr ((j:Int),m')/\KOK p m'/\j<given.length/\Zct p given.length x j ((given++[x]).getD j 0)=true/\∀ m,m<j->Zct p given.length x m ((given++[x]).getD m 0)=false)) (λy hy=>by
   obtain ⟨j,m1⟩:=y
   obtain ⟨k,rfl,k1,k2,k3⟩:=hy
   simp only at k2 ⊢
   simp only [Zcd]
   by_cases c:k<given.length
   ·rw [Z0 (by simpa using c),ZcX c,ZR]
    have eg:given[k]'c=(given++[x]).getD k 0:=by rw [ZbL c];exact (ZbG c 0).symm
    obtain ⟨m',h1,h2⟩:=Zgk hN hp k2 hx (hg k c) (λe=>by omega)
    rw [eg,show (given++[x]).getD k 0=given.getD k 0 from ZbL c,h1,ZR]
    cases hmt:Zct p given.length x k (given.getD k 0) with
    | true=>exact .inr ⟨_,by rw [Z0 rfl],.inr ⟨k,m',rfl,h2,c,by rw [ZbL c];exact hmt,k3⟩⟩
    | false=>exact .inl ⟨_,by rw [ZZ (by simp)],⟨k+1,by simp only;rw [Zbq (by omega)],by omega,h2,λm hm'=>by
       by_cases e:m=k
       ·subst e;rw [ZbL c];exact hmt
       exact k3 m (by omega)⟩,by simp only;rw [Zbq (by omega)];omega⟩
   exact .inr ⟨_,by rw [ZZ (by simp;omega)],.inl ⟨m1,rfl,k2,λm hm'=>k3 m (by omega)⟩⟩) N (0,m) ⟨0,rfl,by omega,hm,λm hm=>by omega⟩ (by simp only;omega)
 unfold ZdR
 rw [hr,ZR]
 unfold byS
 rcases e with ⟨m',rfl,e2,e3⟩|⟨j,m',rfl,e2,e3,e4,e5⟩
 ·simp only
  obtain ⟨m2,h1,h2⟩:=Zgk hN hp e2 hx hx (λ_=>rfl)
  rw [h1,ZR]
  cases hmt:Zct p given.length x given.length x with
  | true =>
   rw [Zcu.2 ⟨show given.length<given.length+1 by omega,by rw [Zb6];exact hmt,e3⟩]
   exact ⟨m2,by rw [Z0 rfl],h2⟩
  | false =>
   rw [Zdv.2 λk hk=>by
    by_cases e:k=given.length
    ·subst e;rw [Zb6];exact hmt
    exact e3 k (by omega)]
   exact ⟨m2,by rw [ZZ (by simp)],h2⟩
 rw [Zcu.2 ⟨by omega,e4,e5⟩]
 exact ⟨m',rfl,e2⟩
end
end Go.Sh

namespace Go.Sh
open Go Go.Eng
section
variable {σ ρ:Type}
def upS (step:Nat->σ->Option (σ⊕ρ)):Nat->σ->Option (σ⊕ρ)
 | 0,s=>some (.inl s)
 | n+1,s=>match upS step n s with
  | some (.inl s1)=>step n s1
  | q=>q
theorem ZgR {step:Nat->σ->Option (σ⊕ρ)}{n:Nat}{s s1:σ}(h:upS step n s=some (.inl s1)):upS step (n+1) s=step n s1:=by
 simp only [upS,h]
theorem Zfv {step:Nat->σ->Option (σ⊕ρ)}{n:Nat}{s:σ}{q:Option (σ⊕ρ)}(h:upS step n s=q)(hq:∀ s1,q≠some (.inl s1)):upS step (n+1) s=q:=by
 simp only [upS,h]
theorem ZeL {step:Nat->σ->Option (σ⊕ρ)}{k:Nat}{s:σ}{q:Option (σ⊕ρ)}(h:upS step k s=q)(hq:∀ s1,q≠some (.inl s1)):∀ n,k<=n->upS step n s=q:=by
 intro n hn
 induction n with
 | zero =>
  obtain rfl:k=0:=by omega
  exact h
 | succ n ih =>
  by_cases e:k=n+1
  ·subst e;exact h
  exact Zfv (ih (by omega)) hq
theorem ZgS {step:Nat->σ->Option (σ⊕ρ)}{n:Nat}{s0 s:σ}(h:upS step (n+1) s0=some (.inl s)):∃ s1,upS step n s0=some (.inl s1)/\step n s1=some (.inl s):=by
 cases hu:upS step n s0 with
 | none=>rw [Zfv hu (λs1 h=>by cases h)] at h;cases h
 | some r =>
  cases r with
  | inl s1=>rw [ZgR hu] at h;exact ⟨s1,rfl,h⟩
  | inr r=>rw [Zfv hu (λs1 h=>by cases h)] at h;cases h
theorem Zkt {step:Nat->σ->Option (σ⊕ρ)}:∀ {n:Nat} {s0 s:σ},upS step n s0=some (.inl s)->∀ k,k<n->∃ s1 s2,upS step k s0=some (.inl s1)/\step k s1=some (.inl s2)
 | 0,s0,s,h,k,hk=>by omega
 | n+1,s0,s,h,k,hk=>by
  obtain ⟨s1,h1,h2⟩:=ZgS h
  by_cases e:k=n
  ·subst e;exact ⟨s1,s,h1,h2⟩
  exact Zkt h1 k (by omega)
theorem Zju {step:Nat->σ->Option (σ⊕ρ)}:∀ {n:Nat} {s0:σ} {r:ρ},upS step n s0=some (.inr r)->∃ k s1,k<n/\upS step k s0=some (.inl s1)/\step k s1=some (.inr r)
 | 0,s0,r,h=>by cases h
 | n+1,s0,r,h=>by
  cases hu:upS step n s0 with
  | none=>rw [Zfv hu (λs1 h=>by cases h)] at h;cases h
  | some q =>
   cases q with
   | inl s1=>rw [ZgR hu] at h;exact ⟨n,s1,by omega,hu,h⟩
   | inr r' =>
    rw [Zfv hu (λs1 h=>by cases h)] at h
    cases h
    obtain ⟨k,s1,h1,h2,h3⟩:=Zju hu
    exact ⟨k,s1,by omega,h2,h3⟩
end
abbrev SR:=Option (List Z5⊕List Int)
section
variable {p:Z3}
def addA (f:List Z5)(c:Nat)(z:Zag):List Z5 :=
 f.set c ⟨(f.getD c c00).Stream,if (decide (0<=z.By)&&ZeB (f.getD c c00).Arms z.By)=true then ZkQ (f.getD c c00).Arms z.To else (f.getD c c00).Arms++[z]⟩
theorem Zjo (f:List Z5)(c:Nat)(z:Zag):(addA f c z).length=f.length:=by simp [addA]
def ZdA (p:Z3)(given:List Int)(c:Nat)(last:Bool)(R:List Z5->List Int->SR)(x:Nat)(s:List Z5):SR :=
 if byS p given.length x (given++[(x:Int)]) = -1 then
  (if last=true then some (.inr (given++[(x:Int)])) else match R s (given++[(x:Int)]) with
   | some (.inl r)=>some (.inl (addA r c ⟨x,(x:Int)+1,-1,s.length⟩))
   | q=>q)
 else some (.inl (addA s c ⟨x,(x:Int)+1,byS p given.length x (given++[(x:Int)]),0⟩))
def ZcK (p:Z3)(i:Nat):Nat:=if i=0 then 1 else (p.Periods.getD i 0).toNat
def endS (p:Z3)(c i:Nat)(s:List Z5):List Z5:=if i=0/\1<p.Periods.getD i 0 then addA s c ⟨1,p.Periods.getD i 0,-2,0⟩ else s
def Zdu (p:Z3)(given:List Int):Bool:=decide (given.length+1=p.Periods.length)
def srch (p:Z3)(fuel:Int):Nat->List Z5->List Int->SR
 | 0,_,_=>none
 | n+1,f,given=>if fuel<(f.length:Int) then none else
  match upS (ZdA p given f.length (Zdu p given) (srch p fuel n)) (ZcK p given.length) (f++[⟨given.length,[]⟩]) with
  | some (.inl s)=>some (.inl (endS p f.length given.length s))
  | q=>q
theorem ZeJ (i:Nat)(x:Int)(all:List Int):(byS p i x all = -1/\∀ j,j<=i->Zct p i x j (all.getD j 0)=false)∨∃ j:Nat,byS p i x all=j/\j<=i/\Zct p i x j (all.getD j 0)=true:=by
 unfold byS
 cases h:ZeH (λj=>Zct p i x j (all.getD j 0)) (i+1) with
 | none=>exact .inl ⟨rfl,λj hj=>Zdv.1 h j (by omega)⟩
 | some j =>
  obtain ⟨h1,h2,_⟩:=Zcu.1 h
  exact .inr ⟨j,rfl,by omega,h2⟩
theorem ZmX (l:List Zag):ZeB l (-1)=false:=by simp [ZeB]
theorem Zih {given:List Int}{c:Nat}{last:Bool}{R:List Z5->List Int->SR}{R':List Z5->List Int->Option (List Z5)}{x:Nat}{s s':List Z5}
  (hR:∀ r,R s (given++[(x:Int)])=some (.inl r)->R' s (given++[(x:Int)])=some r) (hc:c=0->x=0) (h:ZdA p given c last R x s=some (.inl s')):ZdP p given c R' x s=some s':=by
 have hb:bS p given c x=byS p given.length x (given++[(x:Int)]):=by
  unfold bS
  rw [ZZ (by omega)]
 unfold ZdP
 unfold ZdA at h
 rw [hb]
 rcases ZeJ (p:=p) given.length x (given++[(x:Int)]) with ⟨e,_⟩|⟨j,e,_⟩
 ·rw [Z0 e] at h
  rw [e,ZmX,ZZ (by simp),Z0 rfl]
  cases last with
  | true=>rw [Z0 rfl] at h;cases h
  | false =>
   rw [ZZ (by simp)] at h
   cases hr:R s (given++[(x:Int)]) with
   | none=>rw [hr] at h;cases h
   | some q =>
    cases q with
    | inr o=>rw [hr] at h;cases h
    | inl r =>
     rw [hr] at h
     simp only [ZU,Sum.inl.injEq] at h
     rw [hR r hr,ZT,← h]
     unfold addA
     rw [ZZ (by simp)]
 rw [ZZ (by omega),ZU,Sum.inl.injEq] at h
 rw [e] at h ⊢
 rw [← h]
 unfold addA
 rw [decide_eq_true (show (0:Int)<=(j:Int) by omega),Zi]
 by_cases hl:ZeB (s.getD c c00).Arms (j:Int)=true
 ·rw [Z0 hl,Z0 hl]
 rw [ZZ hl,ZZ hl,ZZ (by omega)]
theorem Zl7 (l:List Zag)(a:Zag)(t:Int):ZkQ (l++[a]) t=l++[{ a with To:=t }]:=by
 unfold ZkQ
 simp [Zp]
theorem Zff (l:List Zag)(a:Zag)(b:Int):ZeB (l++[a]) b=true↔b ≠ -1/\a.By=b:=by
 unfold ZeB
 simp [Zp]
theorem Zm5 {R:List Z5->List Int->Option (List Z5)}(hR:∀ r,R [⟨0,[]⟩] ([]++[((0:Nat):Int)])=some r->[⟨0,[]⟩] <+: r){s:List Z5}(h:ZdP p [] 0 R 0 [⟨0,[]⟩]=some s) :
  0<s.length/\∃ l a,(s.getD 0 c00).Arms=l++[a]/\a.By ≠ -2:=by
 have hb:bS p [] 0 0=byS p 0 0 [0]:=by
  unfold bS
  rw [ZZ (by omega)]
  rfl
 unfold ZdP at h
 rw [hb] at h
 have e0:(([⟨0,[]⟩]:List Z5).getD 0 c00).Arms=[]:=rfl
 rw [e0,show ZeB [] (byS p 0 0 [0])=false by simp [ZeB],ZZ (by simp)] at h
 rcases ZeJ (p:=p) 0 0 [0] with ⟨e,_⟩|⟨j,e,_⟩
 ·rw [Z0 e] at h
  cases hr:R [⟨0,[]⟩] ([]++[((0:Nat):Int)]) with
  | none=>rw [hr] at h;cases h
  | some r =>
   rw [hr] at h
   have hl:0<r.length:=Nat.lt_of_lt_of_le (by simp) (hR _ hr).length_le
   cases h
   refine ⟨by rw [ZF];exact hl,_,_,by rw [ZcL _ _ hl],by simp⟩
 rw [ZZ (by omega)] at h
 cases h
 exact ⟨by simp,_,_,by rw [ZcL _ _ (by simp)],by simp only [e];omega⟩
theorem Zig {R:List Z5->List Int->Option (List Z5)}{s0 s:List Z5}(h1:upF (ZdP p [] 0 R) 1 s0=some s)(hl:0<s.length){l:List Zag}{a:Zag}(ha:(s.getD 0 c00).Arms=l++[a])(hb:a.By ≠ -2) :
  ∀ k:Nat,upF (ZdP p [] 0 R) (k+2) s0=some (s.set 0 ⟨(s.getD 0 c00).Stream,(s.getD 0 c00).Arms++[⟨1,(k:Int)+2,-2,0⟩]⟩)
 | 0=>by
  show (upF (ZdP p [] 0 R) 1 s0).bind _=_
  rw [h1,ZR]
  unfold ZdP
  have e:bS p [] 0 1 = -2:=rfl
  rw [e,ZZ (by rw [ha,Zff];omega),ZZ (by omega)]
  rfl
 | k+1=>by
  show (upF (ZdP p [] 0 R) (k+2) s0).bind _=_
  rw [Zig h1 hl ha hb k,ZR]
  unfold ZdP
  have e:bS p [] 0 (k+2) = -2:=by unfold bS;rw [Z0 (by omega)]
  rw [e,ZcL _ _ hl,Z0 (by rw [Zff];exact ⟨by omega,rfl⟩),Zl7,List.set_set]
  simp only
  congr 6
theorem Zfz {fuel:Int}(hp:VP p)(hf:fuel<=1999):∀ (n:Nat) (f:List Z5) (given:List Int) (r:List Z5),given.length+n=p.Periods.length->(given.length=0↔f.length=0)->f.length<=2000->ZcC f →
  srch p fuel n f given=some (.inl r)->ZgO p n f given=some r
 | 0,f,given,r,_,_,_,_,h=>by cases h
 | n+1,f,given,r,hl,h0,hf2,hs,h=>by
  simp only [srch] at h
  simp only [ZgO]
  by_cases hc:fuel<(f.length:Int)
  ·rw [Z0 hc] at h;cases h
  rw [ZZ hc] at h
  rw [ZZ (by omega)]
  have hin:given.length<p.Periods.length:=by omega
  have hpe:=hp.per _ (List.getElem_mem hin)
  have hpg:p.Periods.getD given.length 0=p.Periods[given.length]:=ZbG hin 0
  obtain ⟨s0,hs0⟩:∃ s0,s0=f++[(⟨given.length,[]⟩:Z5)]:=⟨_,rfl⟩
  rw [← hs0] at h ⊢
  have hloop:∀ (k:Nat) (s:List Z5),(given.length=0->k<=1)->k<=240->upS (ZdA p given f.length (Zdu p given) (srch p fuel n)) k s0=some (.inl s)->upF (ZdP p given f.length (ZgO p n)) k s0=some s:=by
   intro k
   induction k with
   | zero=>intro s _ _ h;simp only [upS,ZU,Sum.inl.injEq] at h;simp only [upF,h]
   | succ k ih =>
    intro s hk hk2 h
    obtain ⟨s1,h1,h2⟩:=ZgS h
    have h3:=ih s1 (λe=>by have:=hk e;omega) (by omega) h1
    show (upF _ k s0).bind _=_
    rw [h3,ZR]
    have hG:=GI.loop (Zec hp n) (hs0 ▸ GI.start given.length (by omega) hs:GI f given.length 0 s0) (by omega) h3
    have hlt:=hG.lt
    exact Zih (λr hr=>Zfz hp hf n s1 _ r (by simp;omega) ⟨λh=>by simp at h,λh=>by omega⟩ hG.le hG.sm hr) (λe=>by have:=hk (h0.2 e);omega) h2
  cases hu:upS (ZdA p given f.length (Zdu p given) (srch p fuel n)) (ZcK p given.length) s0 with
  | none=>rw [hu] at h;cases h
  | some q =>
   cases q with
   | inr o=>rw [hu] at h;cases h
   | inl s =>
    rw [hu] at h
    simp only [ZU,Sum.inl.injEq] at h
    have h3:=hloop _ s (λe=>by unfold ZcK;rw [Z0 e];omega) (by unfold ZcK;split<;>omega) hu
    by_cases e:given.length=0
    ·obtain rfl:given=[]:=List.eq_nil_of_length_eq_zero e
     obtain rfl:f=[]:=List.eq_nil_of_length_eq_zero (h0.1 e)
     simp only [List.length_nil,ZL] at *
     unfold ZcK at h3
     rw [Z0 rfl] at h3
     unfold endS at h
     by_cases c:1<p.Periods.getD 0 0
     ·rw [Z0 ⟨rfl,c⟩] at h
      obtain ⟨k,hk⟩:∃ k,(p.Periods.getD 0 0).toNat=k+2:=⟨(p.Periods.getD 0 0).toNat-2,by omega⟩
      have h4:ZdP p [] 0 (ZgO p n) 0 [⟨0,[]⟩]=some s:=by
       have:(upF (ZdP p [] 0 (ZgO p n)) 0 s0).bind (ZdP p [] 0 (ZgO p n) 0)=some s:=h3
       rw [hs0] at this
       exact this
      obtain ⟨hl1,l,a,ha,hb⟩:=Zm5 (R:=ZgO p n) (λr hr=>(Zec hp n _ _ r (by simp) (λy hy=>by rw [List.mem_singleton.1 hy];simp) hr).1) h4
      rw [hk,Zig h3 hl1 ha hb k,← h]
      unfold addA
      rw [ZZ (by simp)]
      congr 6
      omega
     rw [ZZ (by omega)] at h
     rw [show (p.Periods.getD 0 0).toNat=1 by omega,h3,h]
    unfold endS at h
    rw [ZZ (by omega)] at h
    unfold ZcK at h3
    rw [ZZ e] at h3
    rw [h3,h]
theorem ZmD {fuel:Int}{n:Nat}(ih:∀ (f:List Z5) (given:List Int) (r:List Z5),(f.length:Int)<=fuel+1->srch p fuel n f given=some (.inl r)->(r.length:Int)<=fuel+1){given:List Int}{c:Nat}{last:Bool}{x:Nat}{s s':List Z5}
  (hs:(s.length:Int)<=fuel+1) (h:ZdA p given c last (srch p fuel n) x s=some (.inl s')):(s'.length:Int)<=fuel+1:=by
 unfold ZdA at h
 by_cases e:byS p given.length x (given++[(x:Int)]) = -1
 ·rw [Z0 e] at h
  cases last with
  | true=>rw [Z0 rfl] at h;cases h
  | false =>
   rw [ZZ (by simp)] at h
   cases hr:srch p fuel n s (given++[(x:Int)]) with
   | none=>rw [hr] at h;cases h
   | some q =>
    cases q with
    | inr o=>rw [hr] at h;cases h
    | inl r =>
     rw [hr] at h
     simp only [ZU,Sum.inl.injEq] at h
     rw [← h,Zjo]
     exact ih _ _ _ hs hr
 rw [ZZ e] at h
 simp only [ZU,Sum.inl.injEq] at h
 rw [← h,Zjo]
 exact hs
theorem Zlf {fuel:Int}:∀ (n:Nat) (f:List Z5) (given:List Int) (r:List Z5),(f.length:Int)<=fuel+1->srch p fuel n f given=some (.inl r)->(r.length:Int)<=fuel+1
 | 0,f,given,r,_,h=>by cases h
 | n+1,f,given,r,hf,h=>by
  simp only [srch] at h
  by_cases hc:fuel<(f.length:Int)
  ·rw [Z0 hc] at h;cases h
  rw [ZZ hc] at h
  obtain ⟨s0,hs0⟩:∃ s0,s0=f++[(⟨given.length,[]⟩:Z5)]:=⟨_,rfl⟩
  rw [← hs0] at h
  have hloop:∀ (k:Nat) (s:List Z5),upS (ZdA p given f.length (Zdu p given) (srch p fuel n)) k s0=some (.inl s)->(s.length:Int)<=fuel+1:=by
   intro k
   induction k with
   | zero=>intro s h;simp only [upS,ZU,Sum.inl.injEq] at h;rw [← h,hs0];simp;omega
   | succ k ih =>
    intro s h
    obtain ⟨s1,h1,h2⟩:=ZgS h
    exact ZmD (Zlf n) (ih s1 h1) h2
  cases hu:upS (ZdA p given f.length (Zdu p given) (srch p fuel n)) (ZcK p given.length) s0 with
  | none=>rw [hu] at h;cases h
  | some q =>
   cases q with
   | inr o=>rw [hu] at h;cases h
   | inl s =>
    rw [hu] at h
    simp only [ZU,Sum.inl.injEq] at h
    have:=hloop _ s hu
    rw [← h]
    unfold endS
    split
    ·rw [Zjo];exact this
    exact this
end
end Go.Sh

namespace Go.Sh
open Go Go.Eng
section
variable {N:Nat} {p:Z3}
theorem Zhd {l:List Zag}(hl:l.length<=1000)(b:Int):ZdD l b=some (decide (0<=b)&&ZeB l b):=by
 unfold ZdD ZeB
 by_cases hn:l=[]
 ·subst hn;simp
 have h0:0<l.length:=List.length_pos_iff.2 hn
 rw [Z0 (by simp;omega),decide_eq_true hn]
 by_cases hb:0<=b
 ·rw [Z0 (by simpa using hb),decide_eq_true hb,decide_eq_true (show b ≠ -1 by omega),Zi,Zi,Zi]
  have e:w64 (((List.length l:Nat):Int)-1)=((l.length-1:Nat):Int):=by rw [Za7 (by omega) (by omega)];omega
  rw [e,ZcX (by omega),ZR,ZbG (by omega)]
  rfl
 rw [ZZ (by simpa using hb),decide_eq_false hb,Bool.false_and]
theorem ZfZ {f:List Z5}{c:Nat}(hc:c<f.length)(hl:(f.getD c c00).Arms.length<=1000)(z:Zag):Zd5 f c z=some (addA f c z):=by
 unfold Zd5 addA
 rw [ZcX hc,ZR,← ZbG hc c00,Zhd hl,ZR]
 cases hlb:(decide (0<=z.By)&&ZeB (f.getD c c00).Arms z.By) with
 | true =>
  rw [Z0 rfl,Z0 rfl]
  have hne:(f.getD c c00).Arms≠[]:=by
   unfold ZeB at hlb
   simp only [Ze,ZX] at hlb
   exact hlb.2.1.2
  have h0:0<(f.getD c c00).Arms.length:=List.length_pos_iff.2 hne
  have e:w64 (((List.length (f.getD c c00).Arms:Nat):Int)-1)=(((f.getD c c00).Arms.length-1:Nat):Int):=by rw [Za7 (by omega) (by omega)];omega
  rw [e,Zjc a00 (by omega) (by omega),ZR]
  simp only [Zk]
  rfl
 | false =>
  rw [ZZ (by simp),ZZ (by simp),ZbH (by rw [ZG];omega) (by omega),ZR]
  simp only [Zk]
def Zh8 (p:Z3)(given:List Int)(r:SR)(o:Option (Bool×Zbt)):Prop:=match r with
 | none=>o=none
 | some (.inl f)=>∃ m,o=some (false,(f,given,m))/\KOK p m
 | some (.inr g)=>∃ f m,o=some (true,(f,g,m))
theorem Zmu {fuel:Int}(hp:VP p)(hf:fuel<=1999){n:Nat}{f:List Z5}{given:List Int}(hl:given.length+(n+1)=p.Periods.length)(h0:given.length=0↔f.length=0)(hf2:f.length<2000)(hs:ZcC f) :
  ∀ (k:Nat) (s:List Z5),(given.length=0->k<=1)->k<=240->upS (ZdA p given f.length (Zdu p given) (srch p fuel n)) k (f++[⟨given.length,[]⟩])=some (.inl s)->GI f given.length k s:=by
 have hloop:∀ (k:Nat) (s:List Z5),(given.length=0->k<=1)->k<=240->upS (ZdA p given f.length (Zdu p given) (srch p fuel n)) k (f++[⟨given.length,[]⟩])=some (.inl s)->upF (ZdP p given f.length (ZgO p n)) k (f++[⟨given.length,[]⟩])=some s:=by
  intro k
  induction k with
  | zero=>intro s _ _ h;simp only [upS,ZU,Sum.inl.injEq] at h;simp only [upF,h]
  | succ k ih =>
   intro s hk hk2 h
   obtain ⟨s1,h1,h2⟩:=ZgS h
   have h3:=ih s1 (λe=>by have:=hk e;omega) (by omega) h1
   show (upF _ k _).bind _=_
   rw [h3,ZR]
   have hG:=GI.loop (Zec hp n) (GI.start given.length (by omega) hs:GI f given.length 0 _) (by omega) h3
   have hlt:=hG.lt
   exact Zih (λr hr=>Zfz hp hf n s1 _ r (by simp;omega) ⟨λh=>by simp at h,λh=>by omega⟩ hG.le hG.sm hr) (λe=>by have:=hk (h0.2 e);omega) h2
 exact λk s h1 h2 h3=>GI.loop (Zec hp n) (GI.start given.length (by omega) hs:GI f given.length 0 _) h2 (hloop k s h1 h2 h3)
theorem ZhZ {fuel:Int}(hp:Zdr p=true)(hf:fuel<=1999)(hN:2000<=N){R:Zbt->Int->Option (Option (Bool×Zbt))}{n:Nat}{f:List Z5}{given:List Int}{m:slvK}(hl:given.length+(n+1)=p.Periods.length)(hpre:preB p given)(hf2:f.length<=2000)(hs:ZcC f)(h0:given.length=0↔f.length=0)(hm:KOK p m)
  (hR:n≠0->∀ (s:List Z5) (m:slvK) (x:Int),s.length<=2000->ZcC s->s.length≠0->KOK p m->offB p given.length x=true->∃ o,R (s,given++[x],m) ((given.length+1:Nat):Int)=some o/\Zh8 p (given++[x]) (srch p fuel n s (given++[x])) o) :
  ∃ o,ZcQ N R p fuel (f,given,m) given.length=some o/\Zh8 p given (srch p fuel (n+1) f given) o:=by
 unfold ZcQ
 simp only [srch]
 by_cases hc:fuel<(f.length:Int)
 ·rw [Z0 (by simpa using hc),Z0 hc]
  exact ⟨none,rfl,rfl⟩
 rw [ZZ (by simpa using hc),ZZ hc,ZbH (by simp;omega) (by omega),ZR]
 have h:=VP.of hp
 have hP:=h.len
 have hin:given.length<p.Periods.length:=by omega
 have hpe:=h.per _ (List.getElem_mem hin)
 have hpg:p.Periods.getD given.length 0=p.Periods[given.length]:=ZbG hin 0
 rw [ZcX hin,ZR,← hpg]
 have hmost:(if ((given.length:Int)==0)=true then some 1 else some (p.Periods.getD given.length 0))=some (ZcK p given.length:Int):=by
  unfold ZcK
  by_cases e:given.length=0
  ·rw [Z0 (by simpa using e),Z0 e];rfl
  rw [ZZ (by simpa using e),ZZ e,Zl (by omega)]
 have hmp:ZcK p given.length<=240/\(ZcK p given.length:Int)<=p.Periods.getD given.length 0/\(given.length=0->ZcK p given.length=1)/\(given.length≠0->(ZcK p given.length:Int)=p.Periods.getD given.length 0):=by
  unfold ZcK
  split<;>omega
 obtain ⟨m1,m2,m3,m4⟩:=hmp
 rw [hmost,ZR]
 obtain ⟨most,hmo⟩:∃ k,k=ZcK p given.length:=⟨_,rfl⟩
 obtain ⟨per,hper⟩:∃ k,k=p.Periods.getD given.length 0:=⟨_,rfl⟩
 have hG:=λk s (hk:k<=most) hu=>Zmu h hf hl h0 (by omega) hs k s (λe=>by have:=m3 e;omega) (by omega) hu
 rw [← hmo] at m1 m2 m3 m4 ⊢
 rw [← hper] at m2 m4 ⊢
 obtain ⟨s0,hs0⟩:∃ s0,s0=f++[(⟨given.length,[]⟩:Z5)]:=⟨_,rfl⟩
 rw [← hs0] at hG ⊢
 obtain ⟨step,hst⟩:∃ st,st=ZdA p given f.length (Zdu p given) (srch p fuel n):=⟨_,rfl⟩
 rw [← hst] at hG ⊢
 obtain ⟨r,hr,e⟩:=Zeb (body:=λy:Int×Zbt=>Zcv N R p given.length f.length most y.1 y.2)
  (λy=>∃ (k:Nat) (s:List Z5) (m:slvK),y=((k:Int),(s,given,m))/\k<=most/\KOK p m/\upS step k s0=some (.inl s))
  (λy=>((most:Int)+1-y.1).toNat)
  (λr=>(∃ s m,r=.inl (s,given,m)/\KOK p m/\upS step most s0=some (.inl s))∨(r=.inr none/\upS step most s0=none)∨(∃ f g m,r=.inr (some (f,g,m))/\upS step most s0=some (.inr g))) (λy hy=>by
   obtain ⟨k,s,m,rfl,k1,k2,k3⟩:=hy
   simp only [Zcv]
   by_cases c:k<most
   ·rw [Z0 (by simpa using c)]
    have hx:offB p given.length (k:Int)=true:=Zbx.2 ⟨by omega,by omega,by omega,by rw [Zk,← hper];omega⟩
    obtain ⟨m',h1,h2⟩:=ZiS hN hp k2 hpre hx
    rw [h1,ZR]
    have hg:=hG k s k1 k3
    have hlt:=hg.lt;have hle:=hg.le;have har:=hg.ar
    have hw:w64 ((k:Int)+1)=(k:Int)+1:=Za7 (by omega) (by omega)
    have hk1:((k+1:Nat):Int)=(k:Int)+1:=by omega
    have hnext:=ZgR k3
    have hss:step k s=ZdA p given f.length (Zdu p given) (srch p fuel n) k s:=by rw [hst]
    unfold ZdA at hss
    by_cases hb:byS p given.length k (given++[(k:Int)]) = -1
    ·rw [Z0 (by simpa using hb),ZbH (by simp;omega) (by omega),ZR]
     rw [Z0 hb] at hss
     have hw2:w64 (((List.length p.Periods:Nat):Int)-1)=((p.Periods.length-1:Nat):Int):=by rw [Za7 (by omega) (by omega)];omega
     by_cases hla:n=0
     ·rw [hw2,Z0 (by simp;omega)]
      rw [Z0 (by unfold Zdu;rw [ZX];omega)] at hss
      rw [hss] at hnext
      exact .inr ⟨_,rfl,.inr (.inr ⟨s,_,m',rfl,ZeL hnext (λs1 h=>by cases h) _ (by omega)⟩)⟩
     rw [hw2,ZZ (by simp;omega)]
     rw [ZZ (by unfold Zdu;rw [ZX];omega)] at hss
     obtain ⟨o,ho1,ho2⟩:=hR hla s m' k hle hg.sm (by omega) h2 hx
     rw [show w64 ((given.length:Int)+1)=((given.length+1:Nat):Int) by rw [Za7 (by omega) (by omega)];omega,ho1,ZR]
     cases hq:srch p fuel n s (given++[(k:Int)]) with
     | none =>
      rw [hq] at ho2 hss
      simp only [Zh8] at ho2
      subst ho2
      simp only at hss
      rw [hss] at hnext
      exact .inr ⟨_,rfl,.inr (.inl ⟨rfl,ZeL hnext (λs1 h=>by cases h) _ (by omega)⟩)⟩
     | some q =>
      cases q with
      | inr g =>
       rw [hq] at ho2 hss
       simp only [Zh8] at ho2
       obtain ⟨f2,m2,rfl⟩:=ho2
       simp only at hss
       rw [hss] at hnext
       exact .inr ⟨_,rfl,.inr (.inr ⟨f2,g,m2,rfl,ZeL hnext (λs1 h=>by cases h) _ (by omega)⟩)⟩
      | inl f2 =>
       rw [hq] at ho2 hss
       simp only [Zh8] at ho2
       obtain ⟨m2,rfl,hm2⟩:=ho2
       simp only at hss
       have hrk:=Zec h n _ _ _ hle hg.sm (Zfz h hf n s _ f2 (by simp;omega) ⟨λh=>by simp at h,λh=>by omega⟩ hle hg.sm hq)
       have hlen2:=hrk.1.length_le
       have hpop:popI (given++[(k:Int)]) (given.length:Int)=some given:=by
        unfold popI
        rw [Z0 (by simp;omega),Zk,List.take_left']
        rfl
       have hadd:Zd5 f2 (f.length:Int) ⟨(k:Int),(k:Int)+1,-1,s.length⟩=some (addA f2 f.length ⟨(k:Int),(k:Int)+1,-1,s.length⟩):=ZfZ (by omega) (by rw [ZdG _ hrk.1 hlt];omega) _
       simp only [Zf,ZY]
       rw [hpop,ZR,ZR]
       simp only
       rw [hb,hw,hadd,ZR]
       rw [hss] at hnext
       exact .inl ⟨_,rfl,⟨k+1,_,m2,by rw [hk1],by omega,hm2,hnext⟩,by simp only;omega⟩
    rw [ZZ (by simpa using hb),ZR]
    rw [ZZ hb] at hss
    simp only
    have hadd:∀ z,Zd5 s (f.length:Int) z=some (addA s f.length z):=λz=>ZfZ hlt (by omega) _
    rw [hw,hadd,ZR]
    rw [hss] at hnext
    exact .inl ⟨_,rfl,⟨k+1,_,m',by rw [hk1],by omega,h2,hnext⟩,by simp only;omega⟩
   obtain rfl:k=most:=by omega
   rw [ZZ (by simp)]
   exact .inr ⟨_,rfl,.inl ⟨s,m,rfl,k2,k3⟩⟩) N (0,(s0,(given,m))) ⟨0,s0,m,rfl,by omega,hm,rfl⟩ (by simp only;omega)
 rw [hr,ZR]
 rcases e with ⟨s,m',rfl,e2,e3⟩|⟨rfl,e3⟩|⟨f',g,m',rfl,e3⟩
 ·simp only
  rw [e3]
  simp only [Zh8]
  have hg:=hG most s (Nat.le_refl _) e3
  have hlt:=hg.lt;have har:=hg.ar
  unfold endS
  rw [← hper]
  by_cases c:(most:Int)<per
  ·rw [Z0 (by simpa using c)]
   have hz:given.length=0:=Classical.byContradiction λhz=>by have:=m4 hz;omega
   have hmo1:=m3 hz
   rw [Z0 ⟨hz,by omega⟩,ZfZ hlt (by omega),ZR,hmo1]
   exact ⟨_,rfl,m',rfl,e2⟩
  rw [ZZ (by simpa using c),ZZ (λhh=>by have:=m3 hh.1;omega)]
  exact ⟨_,rfl,m',rfl,e2⟩
 ·simp only
  rw [e3]
  exact ⟨_,rfl,rfl⟩
 simp only
 rw [e3]
 exact ⟨_,rfl,f',m',rfl⟩
theorem Zgi {fuel:Int}(hp:Zdr p=true)(hf:fuel<=1999){M:Nat}(hM:2000<=M):∀ (n:Nat) (f:List Z5) (given:List Int) (m:slvK),given.length+n=p.Periods.length->n≠0->preB p given->f.length<=2000->ZcC f->(given.length=0↔f.length=0)->KOK p m →
  ∃ o,Zdm (M+n) p fuel (f,given,m) given.length=some o/\Zh8 p given (srch p fuel n f given) o
 | 0,f,given,m,_,h,_,_,_,_,_=>absurd rfl h
 | n+1,f,given,m,hl,_,hpre,hf2,hs,h0,hm=>by
  show ∃ o,ZcQ (M+n) (Zdm (M+n) p fuel) p fuel (f,given,m) given.length=some o/\_
  refine ZhZ hp hf (by omega) hl hpre hf2 hs h0 hm (λhn s m x h1 h2 h3 h4 h5=>?_)
  have:=Zgi hp hf hM n s (given++[x]) m (by simp;omega) hn (hpre.snoc h5) h1 h2 ⟨λh=>by simp at h,λh=>absurd h h3⟩ h4
  rw [ZC,ZG] at this
  exact this
def ZcB (p:Z3)(fuel:Int):List Int×List Z5×Int :=
 if Zdr p=true then
  if fuel<0∨fuel>1999 then ([],[],2) else
  if p.Periods.length=0 then ([],[],0) else
  match srch p fuel p.Periods.length [] [] with
  | none=>([],[],8)
  | some (.inl f)=>([],f,4)
  | some (.inr g)=>(g,[],0)
 else ([],[],340)
theorem ZhX (hN:3000<=N)(p:Z3)(fuel:Int):Za8 N p fuel=some (ZcB p fuel):=by
 unfold Za8 ZcB
 rw [ZfF (by omega),ZR]
 by_cases hp:Zdr p=true
 ·rw [Z0 hp,Z0 hp,ZZ (by simp)]
  by_cases c:fuel<0∨fuel>1999
  ·rw [Z0 (by simpa using c),Z0 c]
  rw [ZZ (by simpa using c),ZZ c]
  by_cases z:p.Periods.length=0
  ·rw [Z0 (by simpa using z),Z0 z]
  rw [ZZ (by simpa using z),ZZ z]
  have hP:=(VP.of hp).len
  obtain ⟨M,hM⟩:∃ M,N=M+p.Periods.length:=⟨N-p.Periods.length,by omega⟩
  obtain ⟨o,h1,h2⟩:=Zgi hp (show fuel<=1999 by omega) (show 2000<=M by omega) p.Periods.length [] [] [] (by simp) z (λk hk=>by simp at hk) (by simp) (λy hy=>by simp at hy) (by simp) KOK.nil
  rw [← hM] at h1
  have h1':Zdm N p fuel ([],[],[]) 0=some o:=h1
  rw [h1',ZR]
  cases hq:srch p fuel p.Periods.length [] [] with
  | none=>rw [hq] at h2;simp only [Zh8] at h2;subst h2;rfl
  | some q =>
   cases q with
   | inl f=>rw [hq] at h2;simp only [Zh8] at h2;obtain ⟨m,rfl,_⟩:=h2;rfl
   | inr g=>rw [hq] at h2;simp only [Zh8] at h2;obtain ⟨f,m,rfl⟩:=h2;rfl
 rw [ZZ hp,ZZ hp,Z0 (by simp)]
end
end Go.Sh

namespace Go.Sh
open Go Go.Eng
theorem Zlp {given l:List Int}{k:Int}(h:given <+: l)(hl:given.length<l.length)(hk:l.getD given.length 0=k):given++[k] <+: l:=by
 obtain ⟨t,rfl⟩:=h
 cases t with
 | nil=>simp at hl
 | cons a t =>
  have:a=k:=by rw [← hk];simp [Zp]
  subst this
  exact ⟨t,by simp⟩
theorem Zlg {given l:List Int}{k:Int}(h:given++[k] <+: l):given <+: l/\given.length<l.length/\l.getD given.length 0=k:=by
 have h1:=h.length_le
 rw [ZC,ZG] at h1
 refine ⟨(List.prefix_append _ _).trans h,by omega,?_⟩
 rw [ZdG 0 h (by simp),Zb6]
def ZpJ (o l:List Int):Prop:=o=l∨∃ k,k<o.length/\o.getD k 0<l.getD k 0/\∀ m,m<k->o.getD m 0=l.getD m 0
section
variable {p:Z3}
structure Ext (p:Z3) (given l:List Int):Prop where
 pre:given <+: l
 len:l.length=p.Periods.length
 off:preB p l
 cl:∀ i,i<l.length->∀ j,j<=i->Zct p i (l.getD i 0) j (l.getD j 0)=false
 z:given.length=0->l.getD 0 0=0
structure ZlG (p:Z3) (given o:List Int):Prop where
 pre:given <+: o
 len:o.length=p.Periods.length
 off:preB p o
 cl:∀ i,given.length<=i->i<o.length->∀ j,j<=i->Zct p i (o.getD i 0) j (o.getD j 0)=false
 z:given.length=0->o.getD 0 0=0
 least:∀ l,Ext p given l->ZpJ o l
def Zns (p:Z3)(given:List Int)(q:SR):Prop:=match q with
 | none=>True
 | some (.inl _)=>∀ l,Ext p given l->False
 | some (.inr o)=>ZlG p given o
theorem Ext.snoc {given l:List Int}(h:Ext p given l)(hl:given.length<p.Periods.length):Ext p (given++[l.getD given.length 0]) l :=
 {pre:=Zlp h.pre (by rw [h.len];exact hl) rfl,len:=h.len,off:=h.off,cl:=h.cl,z:=λe=>by simp at e }
theorem Ext.by {given l:List Int}(h:Ext p given l)(hl:given.length<p.Periods.length):byS p given.length (l.getD given.length 0) (given++[l.getD given.length 0]) = -1:=by
 rcases ZeJ (p:=p) given.length (l.getD given.length 0) (given++[l.getD given.length 0]) with ⟨e,_⟩|⟨j,e,h1,h2⟩
 ·exact e
 have hx:=(h.snoc hl).pre
 rw [← ZdG 0 hx (by simp;omega),h.cl given.length (by rw [h.len];exact hl) j h1] at h2
 cases h2
theorem Zij {given:List Int}{c:Nat}{R:List Z5->List Int->SR}{k:Nat}{s s':List Z5}(hl:given.length<p.Periods.length)
  (hR:Zdu p given=false->Zns p (given++[(k:Int)]) (R s (given++[(k:Int)])))
  (h:ZdA p given c (Zdu p given) R k s=some (.inl s')) {l:List Int} (hx:Ext p given l) (hk:l.getD given.length 0=(k:Int)):False:=by
 have hb:=hx.by hl
 have hx2:=hx.snoc hl
 rw [hk] at hb hx2
 unfold ZdA at h
 rw [Z0 hb] at h
 cases hla:Zdu p given with
 | true=>rw [hla,Z0 rfl] at h;cases h
 | false =>
  have hR:=hR hla
  rw [hla,ZZ (by simp)] at h
  cases hr:R s (given++[(k:Int)]) with
  | none=>rw [hr] at h;cases h
  | some q =>
   cases q with
   | inr o=>rw [hr] at h;cases h
   | inl r =>
    rw [hr] at hR
    exact hR l hx2
theorem ZkA {given:List Int}{c:Nat}{R:List Z5->List Int->SR}{k:Nat}{s:List Z5}{o:List Int}(hl:given.length<p.Periods.length)(hpre:preB p given)(hoff:offB p given.length k=true)(hz:given.length=0->k=0)
  (hR:Zdu p given=false->Zns p (given++[(k:Int)]) (R s (given++[(k:Int)])))
  (h:ZdA p given c (Zdu p given) R k s=some (.inr o)) (hle:∀ l,Ext p given l->(k:Int)<=l.getD given.length 0):ZlG p given o:=by
 unfold ZdA at h
 rcases ZeJ (p:=p) given.length (k:Int) (given++[(k:Int)]) with ⟨e,hcl⟩|⟨j,e,_⟩
 ·rw [Z0 e] at h
  have hlex:∀ o l:List Int,given++[(k:Int)] <+: o->Ext p given l->l.getD given.length 0≠(k:Int)->ZpJ o l:=λo l ho hx hne=>by
   obtain ⟨g1,g2,g3⟩:=Zlg ho
   refine .inr ⟨given.length,g2,by rw [g3];have:=hle l hx;omega,λm hm=>?_⟩
   rw [ZdG 0 g1 hm,ZdG 0 hx.pre hm]
  cases hla:Zdu p given with
  | true =>
   rw [hla,Z0 rfl] at h
   cases h
   have hlen:given.length+1=p.Periods.length:=by unfold Zdu at hla;rwa [ZX] at hla
   exact {
    pre:=List.prefix_append _ _
    len:=by simpa using hlen
    off:=hpre.snoc hoff
    cl:=λi hi hi2 j hj=>by
     rw [ZC,ZG] at hi2
     obtain rfl:i=given.length:=by omega
     rw [Zb6]
     exact hcl j hj
    z:=λe=>by
     have:=hz e
     have e2:=Zb6 (given:=given) (x:=(k:Int))
     rw [e] at e2
     rw [e2,this]
     rfl
    least:=λl hx=>by
     by_cases hk:l.getD given.length 0=(k:Int)
     ·left
      have:=Zlp hx.pre (by rw [hx.len];exact hl) hk
      exact this.eq_of_length (by rw [hx.len];simpa using hlen)
     exact hlex _ l (List.prefix_refl _) hx hk }
  | false =>
   have hR:=hR hla
   rw [hla,ZZ (by simp)] at h
   cases hr:R s (given++[(k:Int)]) with
   | none=>rw [hr] at h;cases h
   | some q =>
    cases q with
    | inl r=>rw [hr] at h;cases h
    | inr o' =>
     rw [hr] at h hR
     simp only [ZU,Sum.inr.injEq] at h
     subst h
     have hF:ZlG p (given++[(k:Int)]) o':=hR
     obtain ⟨g1,g2,g3⟩:=Zlg hF.pre
     exact {
      pre:=g1
      len:=hF.len
      off:=hF.off
      cl:=λi hi hi2 j hj=>by
       by_cases ei:i=given.length
       ·subst ei
        rw [g3,ZdG 0 hF.pre (by simp;omega)]
        exact hcl j hj
       exact hF.cl i (by simp;omega) hi2 j hj
      z:=λe=>by
       have:=hz e
       rw [e] at g3
       rw [g3,this]
       rfl
      least:=λl hx=>by
       by_cases hk:l.getD given.length 0=(k:Int)
       ·have:=hx.snoc hl
        rw [hk] at this
        exact hF.least l this
       exact hlex _ l hF.pre hx hk }
 rw [ZZ (by omega)] at h
 cases h
theorem Zjy {fuel:Int}(hp:VP p):∀ (n:Nat) (f:List Z5) (given:List Int),given.length+n=p.Periods.length->preB p given->Zns p given (srch p fuel n f given)
 | 0,f,given,_,_=>trivial
 | n+1,f,given,hl,hpre=>by
  simp only [srch]
  by_cases hc:fuel<(f.length:Int)
  ·rw [Z0 hc];trivial
  rw [ZZ hc]
  have hin:given.length<p.Periods.length:=by omega
  have hpe:=hp.per _ (List.getElem_mem hin)
  have hpg:p.Periods.getD given.length 0=p.Periods[given.length]:=ZbG hin 0
  have hmost:ZcK p given.length<=(p.Periods.getD given.length 0).toNat/\(given.length=0->ZcK p given.length=1)/\(given.length≠0->ZcK p given.length=(p.Periods.getD given.length 0).toNat):=by
   unfold ZcK
   split<;>omega
  obtain ⟨m1,m2,m3⟩:=hmost
  have hoff:∀ k:Nat,k<ZcK p given.length->offB p given.length k=true:=λk hk=>Zbx.2 ⟨by omega,by omega,by omega,by rw [Zk];omega⟩
  have hR:∀ (k:Nat) (s:List Z5),k<ZcK p given.length->Zns p (given++[(k:Int)]) (srch p fuel n s (given++[(k:Int)])):=λk s hk=>Zjy hp n s _ (by simp;omega) (hpre.snoc (hoff k hk))
  have hat:∀ l,Ext p given l->∃ k:Nat,k<ZcK p given.length/\l.getD given.length 0=(k:Int):=λl hx=>by
   have ho:=hx.off given.length (by rw [hx.len];exact hin)
   obtain ⟨_,_,o1,o2⟩:=Zbx.1 ho
   rw [Zk] at o2
   by_cases e:given.length=0
   ·have:=hx.z e
    exact ⟨0,by have:=m2 e;omega,by rw [e,this];rfl⟩
   exact ⟨(l.getD given.length 0).toNat,by have:=m3 e;omega,by omega⟩
  cases hu:upS (ZdA p given f.length (Zdu p given) (srch p fuel n)) (ZcK p given.length) (f++[⟨given.length,[]⟩]) with
  | none=>trivial
  | some q =>
   cases q with
   | inl s =>
    intro l hx
    obtain ⟨k,h1,h2⟩:=hat l hx
    obtain ⟨s1,s2,h3,h4⟩:=Zkt hu k h1
    exact Zij hin (λ_=>hR k s1 h1) h4 hx h2
   | inr o =>
    obtain ⟨k,s1,h1,h2,h3⟩:=Zju hu
    refine ZkA hin hpre (hoff k h1) (λe=>by have:=m2 e;omega) (λ_=>hR k s1 h1) h3 (λl hx=>?_)
    obtain ⟨k',h4,h5⟩:=hat l hx
    rw [h5]
    refine Classical.byContradiction λhlt=>?_
    obtain ⟨s3,s4,h6,h7⟩:=Zkt h2 k' (by omega)
    exact Zij hin (λ_=>hR k' s3 h4) h7 hx h5
end
end Go.Sh

namespace Go.Sh
open Go Go.Eng
set_option maxRecDepth 100000 in
theorem ZlI (n:Nat):Zds (n+300)=some true:=by kernel_rfl
theorem Zn3 {N:Nat}(hN:2000<=N):Zds N=some true:=by
 obtain ⟨n,rfl⟩:∃ n,N=n+300:=⟨N-300,by omega⟩
 exact ZlI n
theorem Zng {α:Type}(l:List α):(l.all λ_=>true)=true:=by simp
section
variable {N:Nat} {p:Z3}
theorem Zl5 {l:List Int}(h:l.length<N)(h':l.length<1000):Zau N l l=some true:=by
 unfold Zau
 rw [ZZ (by simp)]
 rw [ZcW (l:=l) (p:=λ_=>true) (bad:=.inr false) (fin:=.inl ()) (λk hk=>by
  simp only [ZaN]
  rw [Z0 (by simpa using hk),ZcX hk,ZR,ZR,ZZ (by simp),Zbq (by omega)];rfl) (by simp only [ZaN];rw [ZZ (by simp)]) h,ZR,Zng,Z0 rfl]
theorem ZmC {f:List Z5}(h:f.length<N)(h':f.length<10000)(hs:ZcC f)(hN:2000<=N):Zbp N f f=some true:=by
 unfold Zbp
 rw [ZZ (by simp)]
 rw [ZcW (l:=f) (p:=λ_=>true) (bad:=.inr false) (fin:=.inl ()) (λk hk=>by
  have hsm:=hs _ (List.getElem_mem hk)
  simp only [Zcg]
  rw [Z0 (by simpa using hk),ZcX hk]
  simp only [ZR]
  rw [ZZ (by simp)]
  simp only [ZR,bne_self_eq_false,Zf,ZY,Z1]
  rw [ZcW (l:=f[k].Arms) (p:=λ_=>true) (bad:=.inr false) (fin:=.inl ()) (λm hm=>by
   simp only [Zcf]
   rw [ZcX hk,ZR,Z0 (by simpa using hm),ZR,ZcX hm]
   simp only [ZR]
   rw [ZcX hm,ZR,ZZ (by simp),Zbq (by omega)];rfl) (by simp only [Zcf];rw [ZcX hk,ZR,ZZ (by simp)]) (by omega),ZR,Zng,Z0 rfl]
  simp only
  rw [Zbq (by omega)]) (by simp only [Zcg];rw [ZZ (by simp)]) h,ZR,Zng,Z0 rfl]
theorem Zku (hp:Zdr p=true){fuel:Int}(h0:0<=fuel)(h1:fuel<=1999) :
  ZcB p fuel=([],[],8)∨(∃ f,ZcB p fuel=([],f,4)/\p.Periods.length≠0/\ZnK p=some f/\(f.length:Int)<=fuel+1/\ZcC f/\∀ l,Ext p [] l->False)∨(∃ o,ZcB p fuel=(o,[],0)/\ZlG p [] o):=by
 have h:=VP.of hp
 unfold ZcB
 rw [Z0 hp,ZZ (by omega)]
 by_cases z:p.Periods.length=0
 ·rw [Z0 z]
  refine .inr (.inr ⟨[],rfl,?_⟩)
  exact { pre:=List.prefix_refl _,len:=by simp [z],off:=λk hk=>by simp at hk,cl:=λi _ hi=>by simp at hi,z:=λ_=>rfl,least:=λl hx=>.inl (by
   have:=hx.len
   rw [z] at this
   exact (List.eq_nil_of_length_eq_zero this).symm) }
 rw [ZZ z]
 have ht:=Zjy (fuel:=fuel) h p.Periods.length [] [] (by simp) (λk hk=>by simp at hk)
 cases hq:srch p fuel p.Periods.length [] [] with
 | none=>exact .inl rfl
 | some q =>
  rw [hq] at ht
  cases q with
  | inl f =>
   have hm:ZnK p=some f:=by
    unfold ZnK
    rw [ZZ z]
    exact Zfz h h1 p.Periods.length [] [] f (by simp) (by simp) (by simp) (λy hy=>by simp at hy) hq
   exact .inr (.inl ⟨f,rfl,z,hm,Zlf p.Periods.length [] [] f (by simp;omega) hq,(Zec h p.Periods.length [] [] f (by simp) (λy hy=>by simp at hy) (by unfold ZnK at hm;rw [ZZ z] at hm;exact hm)).2.2,ht⟩)
  | inr o=>exact .inr (.inr ⟨o,rfl,ht⟩)
end
end Go.Sh

namespace Go.Sh
open Go Go.Eng
section
variable {N:Nat} {p:Z3} {f:List Z5}
def Zvj (l:List Zag)(x:Int):Zag:=(l.find? λa=>decide (x<a.To)).getD a00
def shL (p:Z3)(l:List Int)(c:Nat)(fc:Z5):List Int:=if (Zvj fc.Arms (l.getD fc.Stream.toNat 0)).By = -2 then ZpH p l (-(l.getD fc.Stream.toNat 0)) l.length else l
end
end Go.Sh

