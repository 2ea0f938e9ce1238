/- Part of the proof. -/
import Derived.Test.YtddgnfnfojoljaaProofChecksSh
import Derived.Test.YtddgnfnfojoljaaProofChecksRd
import Derived.KernelRfl
set_option linter.all false
namespace Go.Sh
open Go Go.Eng
theorem Zbh {x:Int}(h : -9223372036854775808<=x)(h2:x<=9223372036854775807):w64 x=x:=by
 unfold w64 IntKind.wrap
 simp only [IntKind.bits,IntKind.signed]
 by_cases h0:0<=x
 ·have:x%(2 ^ 64:Int)=x:=Int.emod_eq_of_lt h0 (by omega)
  simp only [this]
  rw [ZX]
  simp;omega
 have:x%(2 ^ 64:Int)=x+2 ^ 64:=by
  rw [← Int.add_emod_right]
  exact Int.emod_eq_of_lt (by omega) (by omega)
 simp only [this]
 rw [ZY]
 ·omega
 simp;omega
theorem Zi4 {σ ρ:Type}(body:σ->Option (σ⊕ρ))(m:Nat)(x:σ):ZaQ body (m+1) x=match body x with
  | none=>none
  | some (.inl y)=>ZaQ body m y
  | some (.inr r)=>some r:=rfl
theorem Zcd {σ ρ:Type}{body:σ->Option (σ⊕ρ)}{m:Nat}{x y:σ}(h:body x=some (.inl y)):ZaQ body (m+1) x=ZaQ body m y:=by rw [Zi4,h]
theorem Za5 {σ ρ:Type}{body:σ->Option (σ⊕ρ)}{m:Nat}{x:σ}{r:ρ}(h:body x=some (.inr r)):ZaQ body (m+1) x=some r:=by rw [Zi4,h]
theorem ZcJ {σ ρ:Type}{body:σ->Option (σ⊕ρ)}(I:σ->Prop)(μ:σ->Nat)(Post:ρ->Prop)
  (step:∀ x,I x->(∃ y,body x=some (.inl y)/\I y/\μ y<μ x)∨(∃ r,body x=some (.inr r)/\Post r)):∀ (N:Nat) (x:σ),I x->μ x<N->∃ r,ZaQ body N x=some r/\Post r
 | 0,x,_,h=>by omega
 | N+1,x,hI,h=>by
  rcases step x hI with ⟨y,h1,h2,h3⟩|⟨r,h1,h2⟩
  ·rw [Zcd h1]
   exact ZcJ I μ Post step N y h2 (by omega)
  exact ⟨r,by rw [Za5 h1],h2⟩
theorem ZeN {α:Type}(l:List α)(k:Nat):idx l (k:Int)=l[k]?:=by
 unfold idx
 rw [ZY (by omega)]
 rfl
theorem Zny {α:Type}{l:List α}{i:Int}(h0:0<=i)(h:i.toNat<l.length):idx l i=some l[i.toNat]:=by
 unfold idx
 rw [ZY h0]
 exact Zw h
theorem ZbJ {a b:Int}(h:b≠0):remI a b=some (a.tmod b):=by unfold remI;rw [ZX h]
theorem Zob {k:IntKind}{a b:Int}(h:b≠0):quoI k a b=some (k.wrap (a.tdiv b)):=by unfold quoI;rw [ZX h]
theorem Zip {α:Type}{l:List α}{k:Nat}(h:k<l.length):l.drop k=l[k]::l.drop (k+1):=List.drop_eq_getElem_cons h
theorem Zjs {a b:Int}(hb:0<b):(a.tmod b+b).tmod b=a%b:=by
 have h1:0<=a.tmod b+b:=by have:=Int.lt_tmod_of_pos a hb;omega
 rw [Zj h1,Int.add_emod_right]
 rw [Int.tmod_eq_emod]
 split
 ·simp
 have:(b.natAbs:Int)=b:=by omega
 rw [this]
 simp
theorem Zig {α ρ:Type}{l:List α}{p:α->Bool}{body:Int->Option (Int⊕ρ)}{bad fin:ρ}(hstep:∀ (k:Nat) (h:k<l.length),body (k:Int)=if p l[k]=true then some (.inl ((k+1:Nat):Int)) else some (.inr bad))
  (hend:body (l.length:Int)=some (.inr fin)):∀ (n N k:Nat),l.length-k=n->k<=l.length->n<N->ZaQ body N (k:Int)=some (if (l.drop k).all p then fin else bad):=by
 intro n
 induction n with
 | zero =>
  intro N k hn hk hN
  have:k=l.length:=by omega
  subst this
  cases N with
  | zero=>omega
  | succ N=>rw [Za5 hend];simp
 | succ n ih =>
  intro N k hn hk hN
  cases N with
  | zero=>omega
  | succ N =>
   have hlt:k<l.length:=by omega
   rw [Zip hlt,List.all_cons]
   by_cases hp:p l[k]=true
   ·rw [Zcd (by rw [hstep k hlt,ZY hp]),ih N (k+1) (by omega) (by omega) (by omega)]
    simp [hp]
   rw [Za5 (by rw [hstep k hlt,ZX hp])]
   simp [hp]
end Go.Sh

namespace Go.Sh
open Go Go.Eng
def VSpan (s:Zad):Prop:=1<=s.Period/\s.Period<=960/\0<=s.From/\s.From<s.Period/\1<=s.Long/\s.Long<=s.Period
instance (s:Zad):Decidable (VSpan s):=by unfold VSpan;infer_instance
theorem ZdM (N:Nat)(s:Zad):Zb2 N s=some (if VSpan s then 0 else 330):=by
 unfold Zb2
 by_cases h:VSpan s
 ·rw [ZY h]
  unfold VSpan at h
  rw [ZX (by simp;omega),ZX (by simp;omega)]
 rw [ZX h]
 unfold VSpan at h
 by_cases h1:((decide (s.Period<1))||((decide (s.Period>960))||((decide (s.From<0))||(decide (s.From≥s.Period)))))=true
 ·rw [ZY h1]
 rw [ZX h1,ZY]
 simp at h1 ⊢
 omega
theorem ZiE (N:Nat){a b:Int}(hb:0<b)(hb2:b<=1000000):Zd2 N a b=some (a%b):=by
 unfold Zd2
 have h1:=Int.lt_tmod_of_pos a hb
 have h2:=Int.tmod_lt_of_pos a hb
 rw [ZbJ (by omega),ZQ,Zbh (by omega) (by omega),ZbJ (by omega),ZQ,Zjs hb]
theorem Zkt (N:Nat){a b:Int}(hb:0<b)(hb2:b<=1000000):Ze5 N a b=some (a%b):=by
 unfold Ze5
 have h1:=Int.lt_tmod_of_pos a hb
 have h2:=Int.tmod_lt_of_pos a hb
 have h3:=Zjs (a:=a) hb
 rw [ZbJ (by omega),ZQ]
 by_cases h:a.tmod b<0
 ·rw [ZY (by simpa using h),ZQ,Zbh (by omega) (by omega)]
  rw [Int.tmod_eq_of_lt (by omega) (by omega)] at h3
  rw [h3]
 rw [ZX (by simpa using h),ZQ]
 rw [← h3,show a.tmod b+b=a.tmod b+b*1 by omega]
 have e:(a.tmod b+b).tmod b=(a.tmod b+b)%b:=Zj (by omega)
 rw [Int.mul_one,e,Int.add_emod_right]
 rw [Int.emod_eq_of_lt (by omega) (by omega)]
theorem Zhb (M:Nat):∀ (b N a:Nat),b<N->ZaQ (λx:Int×Int=>ZbL M x.1 x.2) N ((a:Int),(b:Int))=some (Nat.gcd a b:Int):=by
 intro b
 induction b using Nat.strongRecOn with
 | _ b ih =>
  intro N a hN
  cases N with
  | zero=>omega
  | succ N =>
   by_cases hb:b=0
   ·subst hb
    rw [Za5 (r:=(a:Int))]
    ·simp
    simp [ZbL]
   have hlt:=Nat.mod_lt a (Nat.pos_of_ne_zero hb)
   rw [Zcd (y:=((b:Int),((a%b:Nat):Int)))]
   ·rw [ih (a%b) hlt N b (by omega)]
    rw [Nat.gcd_comm a b,Nat.gcd_rec b a,Nat.gcd_comm (a%b) b]
   simp only [ZbL]
   rw [ZY (by simp;omega),ZbJ (by omega),ZQ,Zj (by omega)]
   rfl
theorem ZfD {N:Nat}{a b:Int}(ha:0<=a)(hb:0<=b)(hN:b.toNat<N):Zdo N a b=some (Nat.gcd a.toNat b.toNat:Int):=by
 unfold Zdo
 have:=Zhb N b.toNat N a.toNat hN
 rw [Zl ha,Zl hb] at this
 rw [this]
 rfl
theorem Zc2 {a d:Int}(hd:0<d)(ha:0<=a):a.tmod d=0↔d.toNat∣a.toNat:=by
 rw [Zj ha]
 constructor
 ·intro h
  have h1:d∣a:=Int.dvd_of_emod_eq_zero h
  rw [← Zl ha,← Zl (show 0<=d by omega)] at h1
  exact Int.natCast_dvd_natCast.1 h1
 intro h
 have:((d.toNat:Nat):Int)∣((a.toNat:Nat):Int):=Int.natCast_dvd_natCast.2 h
 rw [Zl ha,Zl (by omega)] at this
 exact Int.emod_eq_zero_of_dvd this
theorem ZiJ (M:Nat){a b:Int}(ha:1<=a)(hb:1<=b)(ha2:a<=1000000):∀ (d:Nat) (N:Nat),d<N->(d:Int)<=a->(∀ e:Nat,d<e->¬ (e∣a.toNat/\e∣b.toNat)) →
  ∃ r,ZaQ (λx:Int=>Zb0 M a b x) N (d:Int)=some r/\(match r with | .inl _=>(1:Int) | .inr p=>p)=(Nat.gcd a.toNat b.toNat:Int):=by
 intro d
 induction d with
 | zero =>
  intro N hN _ hall
  exfalso
  exact hall 1 (by omega) ⟨Nat.one_dvd _,Nat.one_dvd _⟩
 | succ d ih =>
  intro N hN hle hall
  cases N with
  | zero=>omega
  | succ N =>
   have hgpos:0<Nat.gcd a.toNat b.toNat:=Nat.gcd_pos_of_pos_left _ (by omega)
   have hgle:Nat.gcd a.toNat b.toNat<=d+1:=by
    rcases Nat.lt_or_ge (d+1) (Nat.gcd a.toNat b.toNat) with h|h
    ·exact absurd ⟨Nat.gcd_dvd_left _ _,Nat.gcd_dvd_right _ _⟩ (hall _ h)
    exact h
   by_cases h1:d=0
   ·subst h1
    refine ⟨.inl (),Za5 (by simp [Zb0]),?_⟩
    simp only
    omega
   have hd1:((d+1:Nat):Int)>1:=by omega
   by_cases h2:(d+1)∣a.toNat/\(d+1)∣b.toNat
   ·refine ⟨.inr ((d+1:Nat):Int),Za5 ?_,?_⟩
    ·simp only [Zb0]
     rw [ZY (by simpa using hd1),ZbJ (by omega),ZQ,ZY,ZbJ (by omega),ZQ]
     ·simp only [ZQ]
      rw [ZY]
      simp only [beq_iff_eq]
      exact (Zc2 (by omega) (by omega)).2 (by simpa using h2.2)
     simp only [beq_iff_eq]
     exact (Zc2 (by omega) (by omega)).2 (by simpa using h2.1)
    simp only
    have:d+1∣Nat.gcd a.toNat b.toNat:=Nat.dvd_gcd h2.1 h2.2
    have:=Nat.le_of_dvd hgpos this
    omega
   rw [Zcd (y:=(d:Int))]
   ·refine ih N (by omega) (by omega) λe he hd=>?_
    by_cases h3:e=d+1
    ·subst h3;exact h2 hd
    exact hall e (by omega) hd
   simp only [Zb0]
   rw [ZY (by simpa using hd1),ZbJ (by omega),ZQ]
   have hiff1:=Zc2 (a:=a) (d:=((d+1:Nat):Int)) (by omega) (by omega)
   have hiff2:=Zc2 (a:=b) (d:=((d+1:Nat):Int)) (by omega) (by omega)
   simp only [Zk] at hiff1 hiff2
   by_cases h4:a.tmod ((d+1:Nat):Int)=0
   ·rw [ZY (by simpa using h4),ZbJ (by omega),ZQ,ZQ,ZX,Zbh (by omega) (by omega)]
    ·congr 2;omega
    simp only [beq_iff_eq]
    intro h5
    exact h2 ⟨hiff1.1 h4,hiff2.1 h5⟩
   rw [ZX (by simpa using h4),ZQ,ZX (by simp),Zbh (by omega) (by omega)]
   congr 2;omega
theorem Zkv {N:Nat}{a b:Int}(ha:1<=a)(hb:1<=b)(ha2:a<=1000000)(hN:a.toNat<N):Ze6 N a b=some (Nat.gcd a.toNat b.toNat:Int):=by
 unfold Ze6
 obtain ⟨r,h1,h2⟩:=ZiJ N ha hb ha2 a.toNat N hN (by omega) (λe he hd=>by
  have:=Nat.le_of_dvd (by omega) hd.1
  omega)
 rw [Zl (by omega)] at h1
 rw [h1,ZQ,← h2]
 cases r<;>rfl
def gP (a b:Zad):Int:=(Nat.gcd a.Period.toNat b.Period.toNat:Int)
theorem ZnD {a b:Zad}(ha:1<=a.Period):0<gP a b:=by
 have:0<Nat.gcd a.Period.toNat b.Period.toNat:=Nat.gcd_pos_of_pos_left _ (by omega)
 unfold gP;omega
theorem Zo4 {a b:Zad}(ha:1<=a.Period):gP a b<=a.Period:=by
 have:=Nat.le_of_dvd (by omega:0<a.Period.toNat) (Nat.gcd_dvd_left a.Period.toNat b.Period.toNat)
 unfold gP;omega
theorem ZlF {a b:Zad}(ha:1<=a.Period):gP a b∣a.Period:=by
 have:=Int.natCast_dvd_natCast.2 (Nat.gcd_dvd_left a.Period.toNat b.Period.toNat)
 rwa [Zl (by omega)] at this
theorem ZkX {a b:Zad}(hb:1<=b.Period):gP a b∣b.Period:=by
 have:=Int.natCast_dvd_natCast.2 (Nat.gcd_dvd_right a.Period.toNat b.Period.toNat)
 rwa [Zl (by omega)] at this
def SepD (a b:Zad)(d:Int):Prop:=a.Long<=d%gP a b/\d%gP a b<=gP a b-b.Long
instance (a b:Zad) (d:Int):Decidable (SepD a b d):=by unfold SepD;infer_instance
theorem Zm9 {al bl d g:Int}(hg:0<g)(ha:1<=al)(hb:1<=bl):(∀ x,1-bl<=x->x<al->(d-x)%g≠0)↔(al<=d%g/\d%g<=g-bl):=by
 have h0:=Int.emod_nonneg d (show g≠0 by omega)
 have h1:=Int.emod_lt_of_pos d hg
 have hd:=Int.mul_ediv_add_emod d g
 constructor
 ·intro h
  constructor
  ·rcases Int.lt_or_le (d%g) al with hlt|hle
   ·exfalso
    refine h (d%g) (by omega) hlt ?_
    have:d-d%g=g*(d/g):=by omega
    rw [this]
    exact Int.mul_emod_right _ _
   exact hle
  rcases Int.lt_or_le (g-bl) (d%g) with hlt|hle
  ·exfalso
   refine h (d%g-g) (by omega) (by omega) ?_
   have:d-(d%g-g)=g*(d/g+1):=by rw [Int.mul_add];omega
   rw [this]
   exact Int.mul_emod_right _ _
  exact hle
 rintro ⟨h2,h3⟩ x hx1 hx2 hx
 obtain ⟨q,hq⟩:=Int.dvd_of_emod_eq_zero hx
 have e:d%g-x=g*(q-d/g):=by rw [Int.mul_sub];omega
 generalize q-d/g=k at e
 rcases Int.lt_trichotomy k 0 with hk|hk|hk
 ·have:g*k<=g*(-1):=Int.mul_le_mul_of_nonneg_left (by omega) (by omega)
  omega
 ·subst hk;omega
 have:g*1<=g*k:=Int.mul_le_mul_of_nonneg_left (by omega) (by omega)
 omega
end Go.Sh

namespace Go.Sh
open Go Go.Eng
theorem VSpan.bounds {s:Zad}(h:VSpan s):1<=s.Period/\s.Period<=960/\0<=s.From/\s.From<s.Period/\1<=s.Long/\s.Long<=s.Period:=h
theorem Zgu {N:Nat}(hN:2000<=N){a b:Zad}(ha:1<=a.Period)(ha2:a.Period<=960)(hb:1<=b.Period)(hb2:b.Period<=960)(haf:0<=a.From)(haf2:a.From<=960)(hbf:0<=b.From)(hbf2:b.From<=960)
  (hal:1<=a.Long) (hal2:a.Long<=960) (hbl:1<=b.Long) (hbl2:b.Long<=960):Zcm N a b=some (decide (SepD a b (b.From-a.From))):=by
 unfold Zcm
 rw [Zkv ha hb (by omega) (by omega),ZQ]
 have hg0:0<gP a b:=ZnD ha
 have hg1:gP a b<=a.Period:=Zo4 ha
 have key:∀ (n:Nat) (M:Nat) (x:Int),(a.Long-x).toNat=n->1-b.Long<=x->n<M->(∀ y,1-b.Long<=y->y<x->(b.From-a.From-y)%gP a b≠0) →
   ∃ r,ZaQ (λx:Int=>Za1 N a b (gP a b) x) M x=some r/\(match r with | .inl _=>true | .inr p=>p)=decide (SepD a b (b.From-a.From)):=by
  intro n
  induction n with
  | zero =>
   intro M x hn hx hM hall
   cases M with
   | zero=>omega
   | succ M =>
    refine ⟨.inl (),Za5 (by simp only [Za1];rw [ZX (by simp;omega)]),?_⟩
    symm
    simp only [ZV]
    refine (Zm9 hg0 hal hbl).1 λy h1 h2=>hall y h1 (by omega)
  | succ n ih =>
   intro M x hn hx hM hall
   cases M with
   | zero=>omega
   | succ M =>
    have hlt:x<a.Long:=by omega
    have e1:w64 (b.From-a.From)=b.From-a.From:=Zbh (by omega) (by omega)
    have e2:w64 (b.From-a.From-x)=b.From-a.From-x:=Zbh (by omega) (by omega)
    have hbody:Za1 N a b (gP a b) x=if ((b.From-a.From-x)%gP a b==0)=true then some (.inr (.inr false)) else some (.inl (w64 (x+1))):=by
     simp only [Za1]
     rw [ZY (by simpa using hlt),e1,e2,Zkt N hg0 (by omega),ZQ]
    by_cases h0:(b.From-a.From-x)%gP a b=0
    ·refine ⟨.inr false,Za5 (by rw [hbody,ZY (by simpa using h0)]),?_⟩
     symm
     simp only [decide_eq_false_iff_not]
     intro hs
     exact (Zm9 hg0 hal hbl).2 hs x hx hlt h0
    rw [Zcd (y:=x+1) (by rw [hbody,ZX (by simpa using h0),Zbh (by omega) (by omega)])]
    refine ih M (x+1) (by omega) (by omega) (by omega) λy h1 h2=>?_
    by_cases h3:y=x
    ·subst h3;exact h0
    exact hall y h1 (by omega)
 rw [Zbh (by omega) (by omega)]
 obtain ⟨r,h1,h2⟩:=key (a.Long-(1-b.Long)).toNat N (1-b.Long) rfl (Int.le_refl _) (by omega) (λy h1 h2=>by omega)
 show (ZaQ (λx:Int=>Za1 N a b (gP a b) x) N (1-b.Long)).bind _=_
 rw [h1,ZQ,← h2]
 cases r<;>rfl
theorem VSpan.separate {N:Nat}(hN:2000<=N){a b:Zad}(ha:VSpan a)(hb:VSpan b):Zcm N a b=some (decide (SepD a b (b.From-a.From))):=by
 obtain ⟨a1,a2,a3,a4,a5,a6⟩:=ha
 obtain ⟨b1,b2,b3,b4,b5,b6⟩:=hb
 exact Zgu hN a1 a2 b1 b2 a3 (by omega) b3 (by omega) a5 (by omega) b5 (by omega)
theorem ZhN {N:Nat}(hN:2000<=N){a b:Zad}(ha:VSpan a)(hb:VSpan b):ZdA N a b=some (a.Long,gP a b-b.Long,gP a b):=by
 obtain ⟨a1,a2,a3,a4,a5,a6⟩:=ha
 obtain ⟨b1,b2,b3,b4,b5,b6⟩:=hb
 have hg0:0<gP a b:=ZnD a1
 have hg1:gP a b<=a.Period:=Zo4 a1
 unfold ZdA
 rw [ZfD (by omega) (by omega) (by omega),ZQ]
 show some (a.Long,w64 (gP a b-b.Long),gP a b)=_
 rw [Zbh (by omega) (by omega)]
theorem Zhd {N:Nat}(hN:2000<=N){a b:Zad}(ha:VSpan a)(hb:VSpan b):Zc3 N a b=some (decide (SepD a b (b.From-a.From))):=by
 have hr:=ZhN hN ha hb
 obtain ⟨a1,a2,a3,a4,a5,a6⟩:=ha
 obtain ⟨b1,b2,b3,b4,b5,b6⟩:=hb
 have hg0:0<gP a b:=ZnD a1
 have hg1:gP a b<=a.Period:=Zo4 a1
 unfold Zc3
 by_cases h:((a.Period==b.Period)&&((a.From==b.From)&&((a.Long==b.Long)&&true)))=true
 ·rw [ZY h]
  simp only [Ze,beq_iff_eq,ZU] at h
  symm
  simp only [ZS,decide_eq_false_iff_not]
  unfold SepD
  rw [h.2.1,Int.sub_self,Int.zero_emod]
  omega
 rw [ZX h,hr]
 simp only [ZQ]
 rw [Zbh (by omega) (by omega),ZiE N hg0 (by omega)]
 simp only [ZQ,ZS]
 rw [Bool.eq_iff_iff,decide_eq_true_iff]
 simp only [Ze,ZV,SepD]
theorem Zhh {N:Nat}(hN:2000<=N)(a b:Zad):Zc5 N a b=some (if VSpan a/\VSpan b then (decide (SepD a b (b.From-a.From)),0) else (false,330)):=by
 unfold Zc5
 rw [ZdM,ZdM]
 simp only [ZQ]
 by_cases ha:VSpan a
 ·by_cases hb:VSpan b
  ·simp only [ha,hb,ZZ,and_self,bne_self_eq_false,Zf,ZW,Zhd hN ha hb,ZQ]
  simp [ha,hb]
 simp [ha]
end Go.Sh
namespace Go.Sh
open Go Go.Eng
theorem ZbA {α:Type}{b:Nat}{l m:List α}(h:l.length+m.length<=100000)(hb:b<=100000):appI b l m=some (l++m):=by
 unfold appI
 rw [ZY]
 have:(l.length+m.length)*b<=100000*100000:=Nat.mul_le_mul h hb
 omega
def allV (l:List Zad):Bool:=l.all λs=>decide (VSpan s)
theorem ZfQ {N:Nat}(hN:100<=N)(l:List Zad):Zcb N l=some (if 32<l.length then 3 else if allV l then 0 else 330):=by
 unfold Zcb
 by_cases h:32<l.length
 ·rw [ZY (by simp;omega),ZY h]
 rw [ZX (by simp;omega),ZX h]
 have:=Zig (l:=l) (p:=λs=>decide (VSpan s)) (body:=λx:Int=>Za7 N l x) (bad:=.inr 330) (fin:=.inl ()) (λk hk=>by
  simp only [Za7]
  rw [ZY (by simpa using hk),ZeN,Zw hk,ZQ,ZdM,ZQ]
  by_cases hv:VSpan l[k]
  ·simp only [hv,ZZ,bne_self_eq_false,Zf,ZW,decide_true]
   rw [Zbh (by omega) (by omega)];simp
  simp [hv]) (by simp [Za7]) l.length N 0 (by omega) (by omega) (by omega)
 rw [show ((0:Nat):Int)=0 from rfl] at this
 rw [this,ZQ,List.drop_zero]
 have e:(l.all λs=>decide (VSpan s))=allV l:=rfl
 rw [e]
 cases allV l<;>rfl
def shift (b:Zad)(k:Int):Zad:=⟨b.Period,(b.From+k)%b.Period,b.Long⟩
end Go.Sh
namespace Go.Sh
open Go Go.Eng
def lcmP:List Zad->Nat
 | []=>1
 | s::l=>Nat.lcm s.Period.toNat (lcmP l)
theorem Zl9:∀ {l:List Zad},(∀ s∈l,VSpan s)->0<lcmP l
 | [],_=>by decide
 | s::l,h=>by
  have h1:=(h s (by simp)).bounds
  exact Nat.lcm_pos (by omega) (Zl9 λt ht=>h t (by simp [ht]))
theorem ZgY:∀ {l:List Zad} {n:Nat},lcmP l∣n↔∀ s∈l,s.Period.toNat∣n
 | [],n=>by simp [lcmP]
 | s::l,n=>by
  simp only [lcmP,List.mem_cons,forall_eq_or_imp]
  rw [Nat.lcm_dvd_iff,ZgY]
theorem Zgs {N:Nat}(hN:2000<=N){ps:List Int}(hps:∀ p∈ps,1<=p/\p<=960):∀ (n M k:Nat) (m:Nat),ps.length-k=n->k<=ps.length->n<M->1<=m->m<=960->ps.length<=1000 →
  ∃ r,ZaQ (λx:Int×Int=>Zbb N 960 ps x.1 x.2) M ((m:Int),(k:Int))=some r ∧
   (r<=960->r=((ps.drop k).foldl (λa p=>Nat.lcm a p.toNat) m:Nat))/\(960<r->960<(ps.drop k).foldl (λa p=>Nat.lcm a p.toNat) m):=by
 have mono:∀ (l:List Int) (a:Nat),(∀ p∈l,1<=p)->0<a->a<=l.foldl (λa p=>Nat.lcm a p.toNat) a:=by
  intro l
  induction l with
  | nil=>intro a _ _;exact Nat.le_refl _
  | cons p l ih =>
   intro a hp ha
   simp only [List.foldl_cons]
   have h1:=hp p (by simp)
   have hpos:0<Nat.lcm a p.toNat:=Nat.lcm_pos ha (by omega)
   exact Nat.le_trans (Nat.le_of_dvd hpos (Nat.dvd_lcm_left _ _)) (ih _ (λq hq=>hp q (by simp [hq])) hpos)
 intro n
 induction n with
 | zero =>
  intro M k m hn hk hM hm hm2 hl
  have:k=ps.length:=by omega
  subst this
  cases M with
  | zero=>omega
  | succ M =>
   refine ⟨(m:Int),Za5 (by simp only [Zbb];rw [ZX (by simp)]),λ_=>?_,λh=>?_⟩
   ·simp
   omega
 | succ n ih =>
  intro M k m hn hk hM hm hm2 hl
  cases M with
  | zero=>omega
  | succ M =>
   have hlt:k<ps.length:=by omega
   obtain ⟨p1,p2⟩:=hps ps[k] (List.getElem_mem hlt)
   have hg:0<Nat.gcd m ps[k].toNat:=Nat.gcd_pos_of_pos_left _ (by omega)
   have hq:(m:Int).tdiv (Nat.gcd m ps[k].toNat:Int)=((m/Nat.gcd m ps[k].toNat:Nat):Int):=by
    rw [Int.tdiv_eq_ediv_of_nonneg (by omega)];rfl
   have hqle:m/Nat.gcd m ps[k].toNat<=m:=Nat.div_le_self _ _
   have hmul:((m/Nat.gcd m ps[k].toNat:Nat):Int)*ps[k]=(Nat.lcm m ps[k].toNat:Int):=by
    have e1:ps[k]=(ps[k].toNat:Int):=by omega
    have e2:Nat.lcm m ps[k].toNat=m/Nat.gcd m ps[k].toNat*ps[k].toNat:=by
     rw [Nat.lcm,Nat.mul_comm m,Nat.mul_div_assoc _ (Nat.gcd_dvd_left _ _),Nat.mul_comm]
    rw [e2,Int.natCast_mul,← e1]
   have hlcm:Nat.lcm m ps[k].toNat<=960*960:=by
    have h1:m/Nat.gcd m ps[k].toNat*ps[k].toNat<=960*960:=Nat.mul_le_mul (by omega) (by omega)
    have e2:Nat.lcm m ps[k].toNat=m/Nat.gcd m ps[k].toNat*ps[k].toNat:=by
     rw [Nat.lcm,Nat.mul_comm m,Nat.mul_div_assoc _ (Nat.gcd_dvd_left _ _),Nat.mul_comm]
    omega
   have hlpos:0<Nat.lcm m ps[k].toNat:=Nat.lcm_pos (by omega) (by omega)
   have hbody:Zbb N 960 ps (m:Int) (k:Int)=if 960<Nat.lcm m ps[k].toNat then some (.inr (Nat.lcm m ps[k].toNat:Int)) else some (.inl ((Nat.lcm m ps[k].toNat:Int),((k+1:Nat):Int))):=by
    simp only [Zbb]
    rw [ZY (by simpa using hlt),ZeN,Zw hlt,ZQ,ZfD (by omega) (by omega) (by omega),ZQ,Zk,Zob (by omega),ZQ,hq]
    have hq0:(0:Int)<=((m/Nat.gcd m ps[k].toNat:Nat):Int):=Int.natCast_nonneg _
    have hq1:((m/Nat.gcd m ps[k].toNat:Nat):Int)<=960:=Int.ofNat_le.2 (Nat.le_trans hqle hm2)
    have e3:IntKind.i64.wrap ((m/Nat.gcd m ps[k].toNat:Nat):Int)=((m/Nat.gcd m ps[k].toNat:Nat):Int):=Zbh (Int.le_trans (by decide) hq0) (Int.le_trans hq1 (by decide))
    rw [e3,hmul,Zbh (by omega) (by omega),Zbh (by omega) (by omega)]
    by_cases hc:960<Nat.lcm m ps[k].toNat
    ·rw [ZY (by simp;omega),ZY hc]
    rw [ZX (by simp;omega),ZX hc];simp
   rw [Zip hlt,List.foldl_cons]
   by_cases hc:960<Nat.lcm m ps[k].toNat
   ·refine ⟨(Nat.lcm m ps[k].toNat:Int),Za5 (by rw [hbody,ZY hc]),λh=>?_,λ_=>?_⟩
    ·omega
    exact Nat.lt_of_lt_of_le hc (mono _ _ (λq hq=>(hps q (List.mem_of_mem_drop hq)).1) hlpos)
   rw [Zcd (by rw [hbody,ZX hc])]
   exact ih M (k+1) _ (by omega) (by omega) (by omega) (by omega) (by omega) hl
theorem Zi7:∀ (l:List Zad) (m:Nat),(l.map Zad.Period).foldl (λa p=>Nat.lcm a p.toNat) m=Nat.lcm m (lcmP l)
 | [],m=>by simp [lcmP,Nat.lcm_one_right]
 | s::l,m=>by simp only [ZJ,List.foldl_cons,lcmP];rw [Zi7 l,Nat.lcm_assoc]
def Zmc (l:List Zad):Int×Int:=if 32<l.length then (0,3) else if allV l=true then (if lcmP l<=960 then ((lcmP l:Int),0) else (0,6)) else (0,330)
theorem Zmk {l:List Zad}(h:allV l=true):∀ s∈l,VSpan s:=by
 unfold allV at h
 rw [Zm] at h
 exact λs hs=>by simpa using h s hs
theorem Zhf {N:Nat}(hN:2000<=N)(l:List Zad):Zc4 N l=some (Zmc l):=by
 unfold Zc4 Zmc
 rw [ZfQ (by omega)]
 simp only [ZQ]
 by_cases h:32<l.length
 ·simp [h]
 by_cases hv:allV l=true
 ·simp only [h,hv,ZZ,ZW,bne_self_eq_false,Zf]
  have hmk:Zgd 8 (l.length:Int) (l.length:Int) (0:Int)=some (List.replicate l.length 0):=by
   unfold Zgd;rw [ZY (by omega)];simp
  rw [hmk,ZQ]
  have hloop:∀ (n M k:Nat),l.length-k=n->k<=l.length->n<M->ZaQ (λx:Int×List Int=>Zbs N l x.1 x.2) M ((k:Int),(l.map Zad.Period).take k++List.replicate (l.length-k) 0)=some (l.map Zad.Period):=by
   intro n
   induction n with
   | zero =>
    intro M k hn hk hM
    have:k=l.length:=by omega
    subst this
    cases M with
    | zero=>omega
    | succ M =>
     refine Za5 ?_
     simp only [Zbs]
     rw [ZX (by simp)]
     simp [List.take_of_length_le]
   | succ n ih =>
    intro M k hn hk hM
    cases M with
    | zero=>omega
    | succ M =>
     have hlt:k<l.length:=by omega
     have hc:=ih M (k+1) (by omega) (by omega) (by omega)
     rw [Zcd (y:=(((k+1:Nat):Int),(l.map Zad.Period).take (k+1)++List.replicate (l.length-(k+1)) 0)),hc]
     simp only [Zbs]
     have hlen:((l.map Zad.Period).take k++List.replicate (l.length-k) 0).length=l.length:=by simp;omega
     rw [ZY (by simpa using hlt),ZeN,Zw hlt,ZQ,ZeN,Zw (by omega),ZQ,Zbh (by omega) (by omega)]
     have hset:List.set ((l.map Zad.Period).take k++List.replicate (l.length-k) 0) k l[k].Period=(l.map Zad.Period).take (k+1)++List.replicate (l.length-(k+1)) 0:=by
      rw [List.set_append_right _ _ (by simp;omega)]
      have e1:k-((l.map Zad.Period).take k).length=0:=by simp;omega
      rw [e1,show l.length-k=(l.length-(k+1))+1 by omega,List.replicate_succ,List.set_cons_zero,List.take_succ_eq_append_getElem (by simpa using hlt)]
      simp
     simp only [Zk,hset]
     rfl
  have hc:=hloop l.length N 0 (by omega) (by omega) (by omega)
  simp only [List.take_zero,ZN,Nat.sub_zero] at hc
  rw [show ((0:Nat):Int)=0 from rfl] at hc
  rw [hc,ZQ]
  have hVl:=Zmk hv
  obtain ⟨r,h1,h2,h3⟩:=Zgs hN (ps:=l.map Zad.Period) (λp hp=>by
   obtain ⟨s,hs,rfl⟩:=List.mem_map.1 hp
   have:=(hVl s hs).bounds;omega) l.length N 0 1 (by simp) (by omega) (by omega) (by omega) (by omega) (by simp;omega)
  rw [List.drop_zero,Zi7,Nat.lcm_one_left] at h2 h3
  have hf:ZdB N 960 (l.map Zad.Period)=some r:=by
   unfold ZdB
   have h1':ZaQ (λx:Int×Int=>Zbb N 960 (l.map Zad.Period) x.1 x.2) N (1,0)=some r:=h1
   rw [h1',ZQ]
  rw [hf,ZQ]
  by_cases hc2:960<r
  ·rw [ZY (by simpa using hc2),ZX (by have:=h3 hc2;omega)]
  have:=h2 (by omega)
  rw [ZX (by simpa using hc2),ZY (by omega),this]
 simp [h,hv]
end Go.Sh
namespace Go.Sh
open Go Go.Eng
theorem Zm8 {a b:Zad}(ha:VSpan a)(hb:VSpan b)(k:Int):SepD (shift a k) (shift b k) ((shift b k).From-(shift a k).From)↔SepD a b (b.From-a.From):=by
 obtain ⟨a1,a2,a3,a4,a5,a6⟩:=ha.bounds
 obtain ⟨b1,b2,b3,b4,b5,b6⟩:=hb.bounds
 have hga:gP a b∣a.Period:=ZlF a1
 have hgb:gP a b∣b.Period:=ZkX b1
 have hg:gP (shift a k) (shift b k)=gP a b:=rfl
 have hd:((shift b k).From-(shift a k).From)%gP a b=(b.From-a.From)%gP a b:=by
  show ((b.From+k)%b.Period-(a.From+k)%a.Period)%gP a b=_
  rw [Int.sub_emod,Int.emod_emod_of_dvd _ hgb,Int.emod_emod_of_dvd _ hga,← Int.sub_emod]
  congr 1;omega
 unfold SepD
 rw [hg,hd]
 rfl
end Go.Sh
namespace Go.Sh
open Go Go.Eng
def allB (n:Nat)(p:Nat->Bool):Bool:=(List.range n).all p
theorem ZeR {n:Nat}{p:Nat->Bool}:allB n p=true↔∀ k,k<n->p k=true:=by simp [allB]
theorem Zji {n:Nat}{p q:Nat->Bool}(h:∀ k,k<n->p k=q k):allB n p=allB n q:=by
 rw [Bool.eq_iff_iff,ZeR,ZeR]
 exact ⟨λhp k hk=>by rw [← h k hk];exact hp k hk,λhp k hk=>by rw [h k hk];exact hp k hk⟩
theorem ZgB {ρ:Type}{n:Nat}{p:Nat->Bool}{body:Int->Option (Int⊕ρ)}{bad fin:ρ}(hstep:∀ k:Nat,k<n->body (k:Int)=if p k=true then some (.inl ((k+1:Nat):Int)) else some (.inr bad))
  (hend:body (n:Int)=some (.inr fin)) {N:Nat} (hN:n<N):ZaQ body N 0=some (if allB n p then fin else bad):=by
 have key:∀ (m N k:Nat),n-k=m->k<=n->m<N->ZaQ body N (k:Int)=some (if (List.range' k m).all p then fin else bad):=by
  intro m
  induction m with
  | zero =>
   intro N k h1 h2 h3
   obtain rfl:k=n:=by omega
   cases N with
   | zero=>omega
   | succ N=>rw [Za5 hend];rfl
  | succ m ih =>
   intro N k h1 h2 h3
   cases N with
   | zero=>omega
   | succ N =>
    rw [List.range'_succ,List.all_cons]
    by_cases hp:p k=true
    ·rw [Zcd (by rw [hstep k (by omega),ZY hp]),ih N (k+1) (by omega) (by omega) (by omega),hp,Zi]
    rw [Za5 (by rw [hstep k (by omega),ZX hp])]
    simp [hp]
 have:=key n N 0 (by omega) (by omega) hN
 rw [← List.range_eq_range'] at this
 exact this
theorem Zif {β ρ:Type}{n:Nat}{p:Nat->Bool}{f:β->Nat->β}{body:Int×β->Option ((Int×β)⊕ρ)}{bad:ρ}{fin:β->ρ}(I:Nat->β->Prop)
  (hstep:∀ k b,k<n->I k b->body ((k:Int),b)=if p k=true then some (.inl (((k+1:Nat):Int),f b k)) else some (.inr bad)) (hI:∀ k b,k<n->I k b->p k=true->I (k+1) (f b k))
  (hend:∀ b,I n b->body ((n:Int),b)=some (.inr (fin b))) {N:Nat} (hN:n<N) {b0:β} (h0:I 0 b0):ZaQ body N (0,b0)=some (if allB n p then fin ((List.range n).foldl f b0) else bad)/\(allB n p=true->I n ((List.range n).foldl f b0)):=by
 have key:∀ (m N k:Nat) (b:β),n-k=m->k<=n->m<N->I k b->ZaQ body N ((k:Int),b)=some (if (List.range' k m).all p then fin ((List.range' k m).foldl f b) else bad)/\((List.range' k m).all p=true->I n ((List.range' k m).foldl f b)):=by
  intro m
  induction m with
  | zero =>
   intro N k b h1 h2 h3 hb
   obtain rfl:k=n:=by omega
   cases N with
   | zero=>omega
   | succ N=>exact ⟨by rw [Za5 (hend b hb)];rfl,λ_=>hb⟩
  | succ m ih =>
   intro N k b h1 h2 h3 hb
   cases N with
   | zero=>omega
   | succ N =>
    rw [List.range'_succ,List.all_cons,List.foldl_cons]
    by_cases hp:p k=true
    ·obtain ⟨i1,i2⟩:=ih N (k+1) (f b k) (by omega) (by omega) (by omega) (hI k b (by omega) hb hp)
     rw [hp,Zi]
     exact ⟨by rw [Zcd (by rw [hstep k b (by omega) hb,ZY hp]),i1],i2⟩
    refine ⟨?_,λh=>?_⟩
    ·rw [Za5 (by rw [hstep k b (by omega) hb,ZX hp])];simp [hp]
    simp [hp] at h
 obtain ⟨h1,h2⟩:=key n N 0 b0 (by omega) (by omega) hN h0
 rw [← List.range_eq_range'] at h1 h2
 exact ⟨h1,h2⟩
theorem ZaX {n:Nat}(h:n<1000000):w64 ((n:Int)+1)=((n+1:Nat):Int):=by rw [Zbh (by omega) (by omega)];omega
theorem ZbQ {α:Type}{l:List α}{k:Nat}(h:k<l.length):idx l (k:Int)=some l[k]:=by rw [ZeN,Zw h]
theorem ZeO {α:Type}{l:List α}{i:Int}(d:α)(h0:0<=i)(h:i<l.length):idx l i=some (l.getD i.toNat d):=by
 rw [Zny h0 (by omega)]
 simp [Zq,Zw (show i.toNat<l.length by omega)]
theorem ZbG {α:Type}{l:List α}{k:Nat}(h:k<l.length)(d:α):l.getD k d=l[k]:=by simp [Zq,h]
end Go.Sh

namespace Go.Sh
open Go Go.Eng
def mkS (p:Int):Zad:=⟨p,0,1⟩
def perB (p:Int):Bool:=decide (1<=p)&&decide (p<=240)
def lcmL (P:List Int):Nat:=lcmP (P.map mkS)
def perU (P:List Int)(u:ZaE):Int:=P.getD u.Stream.toNat 0
def useB (P:List Int)(u:ZaE):Bool:=decide (0<=u.Stream/\u.Stream<(P.length:Int)/\0<=u.Port/\u.Port<48/\0<=u.From/\u.From<perU P u/\1<=u.Long/\u.Long<=perU P u)
def Zd6 (p:Z4):Bool:=decide (p.Periods.length<=12)&&decide (p.Uses.length<=192)&&p.Periods.all perB&&p.Uses.all (useB p.Periods)&&decide (lcmL p.Periods<=960)
theorem Zf9 {p:Int}:perB p=true↔1<=p/\p<=240:=by simp [perB]
theorem Zmj {P:List Int}(h:P.all perB=true):allV (P.map mkS)=true:=by
 unfold allV
 rw [Zm] at h ⊢
 intro s hs
 obtain ⟨p,hp,rfl⟩:=List.mem_map.1 hs
 have:=Zf9.1 (h p hp)
 rw [ZV]
 show 1<=p/\p<=960/\(0:Int)<=0/\(0:Int)<p/\(1:Int)<=1/\(1:Int)<=p
 omega
theorem ZjR {N:Nat}(hN:2000<=N){P:List Int}(hl:P.length<=1000):ZdU N P=some (Zmc (P.map mkS)):=by
 unfold ZdU
 have hmk:Zgd 24 (P.length:Int) (P.length:Int) (Zad.mk 0 0 0)=some (List.replicate P.length (Zad.mk 0 0 0)):=by
  unfold Zgd;rw [ZY (by omega)];simp
 rw [hmk,ZQ]
 have hloop:∀ (n M k:Nat),P.length-k=n->k<=P.length->n<M->ZaQ (λx:Int×List Zad=>Zb8 N P x.1 x.2) M ((k:Int),(P.map mkS).take k++List.replicate (P.length-k) (Zad.mk 0 0 0))=some (P.map mkS):=by
  intro n
  induction n with
  | zero =>
   intro M k hn hk hM
   have:k=P.length:=by omega
   subst this
   cases M with
   | zero=>omega
   | succ M =>
    refine Za5 ?_
    simp only [Zb8]
    rw [ZX (by simp)]
    simp [List.take_of_length_le]
  | succ n ih =>
   intro M k hn hk hM
   cases M with
   | zero=>omega
   | succ M =>
    have hlt:k<P.length:=by omega
    have hc:=ih M (k+1) (by omega) (by omega) (by omega)
    rw [Zcd (y:=(((k+1:Nat):Int),(P.map mkS).take (k+1)++List.replicate (P.length-(k+1)) (Zad.mk 0 0 0))),hc]
    simp only [Zb8]
    have hlen:((P.map mkS).take k++List.replicate (P.length-k) (Zad.mk 0 0 0)).length=P.length:=by simp;omega
    rw [ZY (by simpa using hlt),ZeN,Zw hlt,ZQ,ZeN,Zw (by omega),ZQ,Zbh (by omega) (by omega)]
    have hset:List.set ((P.map mkS).take k++List.replicate (P.length-k) (Zad.mk 0 0 0)) k (mkS P[k])=(P.map mkS).take (k+1)++List.replicate (P.length-(k+1)) (Zad.mk 0 0 0):=by
     rw [List.set_append_right _ _ (by simp;omega)]
     have e1:k-((P.map mkS).take k).length=0:=by simp;omega
     rw [e1,show P.length-k=(P.length-(k+1))+1 by omega,List.replicate_succ,List.set_cons_zero,List.take_succ_eq_append_getElem (by simpa using hlt)]
     simp
    simp only [Zk]
    rw [show (Zad.mk P[k] 0 1)=mkS P[k] from rfl,hset]
    rfl
 have hc:=hloop P.length N 0 (by omega) (by omega) (by omega)
 simp only [List.take_zero,ZN,Nat.sub_zero] at hc
 rw [show ((0:Nat):Int)=0 from rfl] at hc
 rw [hc,ZQ,Zhf hN,ZQ]
theorem ZjZ {P:List Int}(h:P.all perB=true):0<lcmL P:=Zl9 (Zmk (Zmj h))
theorem ZgZ {P:List Int}{n:Nat}:lcmL P∣n↔∀ p∈P,p.toNat∣n:=by
 unfold lcmL
 rw [ZgY]
 simp [mkS]
theorem Zh0 {N:Nat}(hN:2000<=N){P:List Int}(hl:P.length<=12)(h:P.all perB=true):ZdU N P=some (if lcmL P<=960 then ((lcmL P:Int),0) else (0,6)):=by
 rw [ZjR hN (by omega)]
 unfold Zmc
 rw [ZX (by simp;omega),ZY (Zmj h)]
 rfl
theorem Zkr {N:Nat}(hN:2000<=N){P:List Int}(hl:P.length<=12)(h:P.all perB=true):Ze4 N P=some (if lcmL P<=960 then (lcmL P:Int) else 0):=by
 have hp:∀ p∈P,1<=p/\p<=240:=λp hp=>Zf9.1 (List.all_eq_true.1 h p hp)
 have inner:∀ (j:Nat),1<=j->j<=1000->∀ (n M k:Nat) (b:Bool),P.length-k=n->k<=P.length->n<M->ZaQ (λx:Bool×Int=>Zcw N P (j:Int) x.1 x.2) M (b,(k:Int))=some (b&&(P.drop k).all (λp=>decide (p.toNat∣j))):=by
  intro j hj1 hj2 n
  induction n with
  | zero =>
   intro M k b hn hk hM
   have:k=P.length:=by omega
   subst this
   cases M with
   | zero=>omega
   | succ M=>rw [Za5 (r:=b) (by simp [Zcw])];simp
  | succ n ih =>
   intro M k b hn hk hM
   cases M with
   | zero=>omega
   | succ M =>
    have hlt:k<P.length:=by omega
    have hV:=hp P[k] (List.getElem_mem hlt)
    have hiff:=Zc2 (a:=(j:Int)) (d:=P[k]) (by omega) (by omega)
    simp only [Zk] at hiff
    have hc:=ih M (k+1) (b&&decide (P[k].toNat∣j)) (by omega) (by omega) (by omega)
    rw [Zcd (y:=(b&&decide (P[k].toNat∣j),((k+1:Nat):Int))),hc,Zip hlt,List.all_cons,Bool.and_assoc]
    simp only [Zcw]
    rw [ZY (by simpa using hlt)]
    cases b with
    | false=>simp only [Zf,ZW,ZQ,Bool.false_and];rw [Zbh (by omega) (by omega)];rfl
    | true =>
     simp only [ZZ,Zi]
     rw [ZeN,Zw hlt,ZQ,ZbJ (by omega),ZQ]
     by_cases hd:P[k].toNat∣j
     ·rw [ZY (by simpa using hiff.2 hd),ZQ,Zbh (by omega) (by omega)]
      simp [hd]
     have:¬ (j:Int).tmod P[k]=0:=λe=>hd (hiff.1 e)
     rw [ZX (by simpa using this),ZQ,Zbh (by omega) (by omega)]
     simp [hd]
 have step:∀ j:Nat,1<=j->j<=960->ZbZ N P (j:Int)=if lcmL P∣j then some (.inr (.inr (j:Int))) else some (.inl ((j+1:Nat):Int)):=by
  intro j h1 h2
  simp only [ZbZ]
  rw [ZY (by simp;omega)]
  have:=inner j h1 (by omega) P.length N 0 true (by omega) (by omega) (by omega)
  rw [show ((0:Nat):Int)=0 from rfl] at this
  rw [this,ZQ,List.drop_zero,Zi]
  have e:(P.all (λp=>decide (p.toNat∣j))=true)↔lcmL P∣j:=by
   rw [ZgZ,Zm]
   simp
  by_cases hd:lcmL P∣j
  ·rw [ZY (e.2 hd),ZY hd]
  rw [ZX (λq=>hd (e.1 q)),ZX hd,Zbh (by omega) (by omega)]
  congr 2
 have hpos:=ZjZ h
 have key:∀ (n M j:Nat),961-j=n->1<=j->j<=961->n<M->(∀ i,1<=i->i<j->¬ lcmL P∣i)->∃ r,ZaQ (λx:Int=>ZbZ N P x) M (j:Int)=some r/\(match r with | .inl _=>(0:Int) | .inr p=>p)=if lcmL P<=960 then (lcmL P:Int) else 0:=by
  intro n
  induction n with
  | zero =>
   intro M j hn h1 h2 hM hno
   obtain rfl:j=961:=by omega
   cases M with
   | zero=>omega
   | succ M =>
    refine ⟨.inl (),Za5 (by simp [ZbZ]),?_⟩
    rw [ZX]
    intro hle
    exact hno (lcmL P) (by omega) (by omega) (Nat.dvd_refl _)
  | succ n ih =>
   intro M j hn h1 h2 hM hno
   cases M with
   | zero=>omega
   | succ M =>
    by_cases hd:lcmL P∣j
    ·refine ⟨.inr (j:Int),Za5 (by rw [step j h1 (by omega),ZY hd]),?_⟩
     have hle:=Nat.le_of_dvd (by omega) hd
     have:lcmL P=j:=by
      by_cases e:lcmL P=j
      ·exact e
      exact absurd (Nat.dvd_refl _) (hno (lcmL P) (by omega) (by omega))
     rw [ZY (by omega),this]
    rw [Zcd (by rw [step j h1 (by omega),ZX hd])]
    refine ih M (j+1) (by omega) (by omega) (by omega) (by omega) λi hi1 hi2=>?_
    by_cases e:i=j
    ·subst e;exact hd
    exact hno i hi1 (by omega)
 unfold Ze4
 obtain ⟨r,h1,h2⟩:=key 960 N 1 (by omega) (by omega) (by omega) (by omega) (λi h1 h2=>by omega)
 rw [show ((1:Nat):Int)=1 from rfl] at h1
 rw [h1,ZQ,← h2]
 cases r<;>rfl
theorem ZdY {α ρ:Type}{l:List α}{p:α->Bool}{body:Int->Option (Int⊕ρ)}{bad fin:ρ}(hstep:∀ (k:Nat) (h:k<l.length),body (k:Int)=if p l[k]=true then some (.inl ((k+1:Nat):Int)) else some (.inr bad))
  (hend:body (l.length:Int)=some (.inr fin)) {N:Nat} (hN:l.length<N):ZaQ body N 0=some (if l.all p=true then fin else bad):=by
 have:=Zig hstep hend l.length N 0 (by omega) (by omega) hN
 rw [show ((0:Nat):Int)=0 from rfl] at this
 rw [this,List.drop_zero]
theorem Zj2 {P:List Int}{u:ZaE}(h0:0<=u.Stream)(h1:u.Stream<(P.length:Int)):idx P u.Stream=some (perU P u):=ZeO 0 h0 h1
theorem Zed {P:List Int}{u:ZaE}:useB P u=true↔0<=u.Stream/\u.Stream<(P.length:Int)/\0<=u.Port/\u.Port<48/\0<=u.From/\u.From<perU P u/\1<=u.Long/\u.Long<=perU P u:=by simp [useB]
theorem ZiI {N:Nat}(hN:2000<=N)(p:Z4):Zd3 N p=some (Zd6 p):=by
 unfold Zd3 Zd6
 by_cases h1:p.Periods.length<=12
 ·by_cases h2:p.Uses.length<=192
  ·rw [ZX (by simp;omega)]
   simp only [h1,h2,decide_true,Zi]
   rw [ZdY (l:=p.Periods) (p:=perB) (bad:=.inr false) (fin:=.inl ()) (λk hk=>?_) (by simp [Zcj]) (by omega)]
   ·cases hP:p.Periods.all perB with
    | false=>simp
    | true =>
     simp only [ZZ,ZQ,Zi]
     rw [ZdY (l:=p.Uses) (p:=useB p.Periods) (bad:=.inr false) (fin:=.inl ()) (λk hk=>?_) (by simp [Zci]) (by omega)]
     ·cases hU:p.Uses.all (useB p.Periods) with
      | false=>simp
      | true =>
       simp only [ZZ,ZQ,Zi]
       rw [Zkr hN h1 hP,ZQ]
       have:=ZjZ hP
       by_cases hc:lcmL p.Periods<=960
       ·rw [ZY hc];simp [hc];omega
       rw [ZX hc];simp [hc]
     simp only [Zci]
     rw [ZY (by simpa using hk),ZbQ hk,ZQ]
     have hw:w64 ((k:Int)+1)=((k+1:Nat):Int):=ZaX (by omega)
     rw [hw]
     by_cases hc:0<=p.Uses[k].Stream/\p.Uses[k].Stream<(p.Periods.length:Int)/\0<=p.Uses[k].Port/\p.Uses[k].Port<48
     ·obtain ⟨c1,c2,c3,c4⟩:=hc
      rw [ZX (by simp;omega),Zj2 c1 c2]
      simp only [ZQ]
      by_cases hu:useB p.Periods p.Uses[k]=true
      ·obtain ⟨_,_,_,_,u1,u2,u3,u4⟩:=Zed.1 hu
       rw [ZX (by simpa using u1),ZX (by simpa using u2),ZX (by simp;omega),ZQ,ZX (by simpa using u4),ZY hu]
      have hn:¬ (0<=p.Uses[k].From/\p.Uses[k].From<perU p.Periods p.Uses[k]/\1<=p.Uses[k].Long/\p.Uses[k].Long<=perU p.Periods p.Uses[k]):=λq=>hu (Zed.2 ⟨c1,c2,c3,c4,q⟩)
      rw [ZX hu]
      by_cases u1:p.Uses[k].From<0
      ·rw [ZY (by simpa using u1)];rfl
      rw [ZX (by simpa using u1)]
      by_cases u2:p.Uses[k].From≥perU p.Periods p.Uses[k]
      ·rw [ZY (by simpa using u2)];rfl
      rw [ZX (by simpa using u2)]
      by_cases u3:p.Uses[k].Long<1
      ·rw [ZY (by simpa using u3)];rfl
      rw [ZX (by simpa using u3),ZQ,ZY (by simp;omega)]
     have hu:¬ useB p.Periods p.Uses[k]=true:=λq=>hc (by obtain ⟨a,b,c,d,_⟩:=Zed.1 q;exact ⟨a,b,c,d⟩)
     rw [ZY (by simp;omega),ZX hu]
   simp only [Zcj]
   rw [ZY (by simpa using hk),ZbQ hk]
   simp only [ZQ]
   rw [ZaX (by omega)]
   by_cases c1:p.Periods[k]<1
   ·rw [ZY (by simpa using c1)]
    simp only [ZQ,ZZ]
    rw [ZX (by simp [perB];omega)]
   rw [ZX (by simpa using c1),ZQ]
   by_cases c2:p.Periods[k]>240
   ·rw [ZY (by simpa using c2),ZX (by simp [perB];omega)]
   rw [ZX (by simpa using c2),ZY (by simp [perB];omega)]
  rw [ZY (by simp;omega)];simp [h2]
 rw [ZY (by simp;omega)];simp [h1]
theorem Zf8 {N:Nat}(hN:2000<=N)(p:Z4):ZdV N p=some (if Zd6 p=true then 0 else 340):=by
 unfold ZdV Zd6
 by_cases h1:p.Periods.length<=12
 ·by_cases h2:p.Uses.length<=192
  ·rw [ZX (by simp;omega)]
   simp only [h1,h2,decide_true,Zi]
   rw [ZdY (l:=p.Periods) (p:=perB) (bad:=.inr 340) (fin:=.inl ()) (λk hk=>?_) (by simp [ZcH]) (by omega)]
   ·cases hP:p.Periods.all perB with
    | false=>simp
    | true =>
     simp only [ZZ,ZQ,Zi]
     rw [Zh0 hN h1 hP,ZQ]
     by_cases hc:lcmL p.Periods<=960
     ·rw [ZY hc]
      simp only [bne_self_eq_false,Zf,ZW]
      rw [ZdY (l:=p.Uses) (p:=useB p.Periods) (bad:=.inr 340) (fin:=.inl ()) (λk hk=>?_) (by simp [ZcG]) (by omega)]
      ·cases hU:p.Uses.all (useB p.Periods) with
       | false=>simp
       | true=>simp [hc]
      simp only [ZcG]
      rw [ZY (by simpa using hk),ZbQ hk,ZQ]
      have hw:w64 ((k:Int)+1)=((k+1:Nat):Int):=ZaX (by omega)
      rw [hw]
      by_cases hc:0<=p.Uses[k].Stream/\p.Uses[k].Stream<(p.Periods.length:Int)/\0<=p.Uses[k].Port/\p.Uses[k].Port<48
      ·obtain ⟨c1,c2,c3,c4⟩:=hc
       rw [ZX (by simp;omega),Zj2 c1 c2]
       simp only [ZQ]
       by_cases hu:useB p.Periods p.Uses[k]=true
       ·obtain ⟨_,_,_,_,u1,u2,u3,u4⟩:=Zed.1 hu
        rw [ZX (by simp;omega),ZY hu]
       have hn:¬ (0<=p.Uses[k].From/\p.Uses[k].From<perU p.Periods p.Uses[k]/\1<=p.Uses[k].Long/\p.Uses[k].Long<=perU p.Periods p.Uses[k]):=λq=>hu (Zed.2 ⟨c1,c2,c3,c4,q⟩)
       rw [ZX hu,ZY (by simp;omega)]
      have hu:¬ useB p.Periods p.Uses[k]=true:=λq=>hc (by obtain ⟨a,b,c,d,_⟩:=Zed.1 q;exact ⟨a,b,c,d⟩)
      rw [ZY (by simp;omega),ZX hu]
     rw [ZX hc];simp [hc]
   simp only [ZcH]
   rw [ZY (by simpa using hk),ZbQ hk]
   simp only [ZQ]
   rw [ZaX (by omega)]
   by_cases c:perB p.Periods[k]=true
   ·have:=Zf9.1 c
    rw [ZX (by simp;omega),ZY c]
   rw [ZY,ZX c]
   simp [perB] at c ⊢;omega
  rw [ZY (by simp;omega)];simp [h2]
 rw [ZY (by simp;omega)];simp [h1]
theorem ZkC {p:Z4}:Zd6 p=true↔p.Periods.length<=12/\p.Uses.length<=192/\p.Periods.all perB=true/\p.Uses.all (useB p.Periods)=true/\lcmL p.Periods<=960:=by
 unfold Zd6
 simp only [Ze,ZV]
 constructor
 ·rintro ⟨⟨⟨⟨a,b⟩,c⟩,d⟩,e⟩;exact ⟨a,b,c,d,e⟩
 rintro ⟨a,b,c,d,e⟩;exact ⟨⟨⟨⟨a,b⟩,c⟩,d⟩,e⟩
end Go.Sh
namespace Go.Sh
open Go Go.Eng
structure VP (p:Z4):Prop where
 len:p.Periods.length<=12
 uses:p.Uses.length<=192
 per:∀ q∈p.Periods,1<=q/\q<=240
 use:∀ u∈p.Uses,0<=u.Stream/\u.Stream<(p.Periods.length:Int)/\0<=u.Port/\u.Port<48/\0<=u.From/\u.From<perU p.Periods u/\1<=u.Long/\u.Long<=perU p.Periods u
 lcm:lcmL p.Periods<=960
 lpos:0<lcmL p.Periods
theorem VP.of {p:Z4}(h:Zd6 p=true):VP p:=by
 obtain ⟨h1,h2,h3,h4,h5⟩:=ZkC.1 h
 exact ⟨h1,h2,λq hq=>Zf9.1 (List.all_eq_true.1 h3 q hq),λu hu=>Zed.1 (List.all_eq_true.1 h4 u hu),h5,ZjZ h3⟩
theorem ZoU {P:List Int}{u:ZaE}(h0:0<=u.Stream)(h1:u.Stream<(P.length:Int)):perU P u∈P:=by
 unfold perU
 rw [ZbG (by omega)]
 exact List.getElem_mem _
theorem VP.peru {p:Z4}(h:VP p){u:ZaE}(hu:u∈p.Uses):1<=perU p.Periods u/\perU p.Periods u<=240:=by
 obtain ⟨a,b,_⟩:=h.use u hu
 exact h.per _ (ZoU a b)
def Zdi (p:Z4)(u:ZaE)(x:Int):Zad:=⟨perU p.Periods u,(u.From+x)%perU p.Periods u,u.Long⟩
def u0:ZaE:=⟨0,0,0,0⟩
theorem VP.vspan {p:Z4}(h:VP p){u:ZaE}(hu:u∈p.Uses)(x:Int):VSpan (Zdi p u x):=by
 obtain ⟨_,_,_,_,_,_,h1,h2⟩:=h.use u hu
 obtain ⟨h3,h4⟩:=h.peru hu
 have h5:=Int.emod_nonneg (u.From+x) (show perU p.Periods u≠0 by omega)
 have h6:=Int.emod_lt_of_pos (u.From+x) (show 0<perU p.Periods u by omega)
 show 1<=perU p.Periods u/\perU p.Periods u<=960/\0<=(u.From+x)%perU p.Periods u/\(u.From+x)%perU p.Periods u<perU p.Periods u/\1<=u.Long/\u.Long<=perU p.Periods u
 omega
theorem VP.rem {p:Z4}(h:VP p){u:ZaE}(hu:u∈p.Uses){x:Int}(h0:0<=x)(h1:x<=1000000):remI (w64 (u.From+x)) (perU p.Periods u)=some ((u.From+x)%perU p.Periods u):=by
 obtain ⟨_,_,_,_,h5,h6,h7,h8⟩:=h.use u hu
 obtain ⟨h3,h4⟩:=h.peru hu
 rw [Zbh (by omega) (by omega),ZbJ (by omega),Zj (by omega)]
theorem ZeU (N:Nat){p:Z4}(h:VP p){u:ZaE}(hu:u∈p.Uses){x:Int}(h0:0<=x)(h1:x<=1000000):ZcF N p u x=some (Zdi p u x):=by
 obtain ⟨a,b,_⟩:=h.use u hu
 unfold ZcF
 rw [Zj2 a b,ZQ,h.rem hu h0 h1,ZQ]
 rfl
theorem ZhR (N:Nat){p:Z4}(h:VP p){k:Nat}(hk:k<p.Uses.length){x:Int}(h0:0<=x)(h1:x<=1000000):Zfm N p k x=some (Zdi p (p.Uses.getD k u0) x):=by
 have hu:p.Uses[k]∈p.Uses:=List.getElem_mem hk
 obtain ⟨a,b,_⟩:=h.use _ hu
 unfold Zfm
 rw [ZbQ hk]
 simp only [ZQ]
 rw [Zj2 a b,ZQ,h.rem hu h0 h1,ZQ,ZbG hk]
 rfl
def offB (p:Z4)(i x:Int):Bool:=decide (0<=i/\i<(p.Periods.length:Int)/\0<=x/\x<p.Periods.getD i.toNat 0)
theorem Zdv {p:Z4}{i x:Int}:offB p i x=true↔0<=i/\i<(p.Periods.length:Int)/\0<=x/\x<p.Periods.getD i.toNat 0:=by simp [offB]
theorem ZfI (N:Nat){p:Z4}{i x:Int}(h0:0<=i)(h1:i<(p.Periods.length:Int)):Zds N p i x=some (offB p i x):=by
 unfold Zds
 by_cases hx:x≥0
 ·rw [ZY (by simpa using hx),ZeO 0 h0 h1]
  simp only [ZQ]
  congr 1
  rw [Bool.eq_iff_iff,Zdv]
  simp
  omega
 rw [ZX (by simpa using hx),ZQ]
 congr 1
 symm
 rw [Bool.eq_false_iff]
 intro q
 have:=Zdv.1 q
 omega
def hitB (p:Z4)(i a j b:Int)(k m:Nat):Bool :=
 decide (k≠m)&&(((p.Uses.getD k u0).Stream==i)&&(((p.Uses.getD m u0).Stream==j)&&(((p.Uses.getD k u0).Port==(p.Uses.getD m u0).Port) &&
  !(decide (SepD (Zdi p (p.Uses.getD k u0) a) (Zdi p (p.Uses.getD m u0) b) ((Zdi p (p.Uses.getD m u0) b).From-(Zdi p (p.Uses.getD k u0) a).From))))))
def Zdj (p:Z4)(i a j b:Int):Bool := !(allB p.Uses.length λk=>allB p.Uses.length λm => !(hitB p i a j b k m))
theorem ZfG {N:Nat}(hN:2000<=N){p:Z4}(h:VP p){i a j b:Int}(ha:0<=a)(ha2:a<=1000)(hb:0<=b)(hb2:b<=1000):Zdr N p i a j b=some (Zdj p i a j b):=by
 have hl:=h.uses
 unfold Zdr
 rw [ZgB (n:=p.Uses.length) (p:=λk=>allB p.Uses.length λm => !(hitB p i a j b k m)) (bad:=.inr true) (fin:=.inl ()) (λk hk=>?_) (by simp [Zcl]) (by omega)]
 ·unfold Zdj
  cases allB p.Uses.length λk=>allB p.Uses.length λm => !(hitB p i a j b k m)<;>rfl
 simp only [Zcl]
 rw [ZY (by simpa using hk),ZgB (n:=p.Uses.length) (p:=λm => !(hitB p i a j b k m)) (bad:=.inr true) (fin:=.inl ()) (λm hm=>?_) (by simp [Zck]) (by omega)]
 ·have hw:w64 ((k:Int)+1)=((k+1:Nat):Int):=ZaX (by omega)
  cases allB p.Uses.length λm => !(hitB p i a j b k m) with
  | false=>rfl
  | true=>simp only [ZZ,ZQ];rw [hw]
 simp only [Zck]
 have hw:w64 ((m:Int)+1)=((m+1:Nat):Int):=ZaX (by omega)
 rw [ZY (by simpa using hm),ZbQ hk,ZbQ hm,hw]
 simp only [ZQ]
 rw [ZhR N h hk ha (by omega),ZhR N h hm hb (by omega)]
 simp only [ZQ]
 rw [ZbG hk,ZbG hm,VSpan.separate hN (h.vspan (List.getElem_mem hk) a) (h.vspan (List.getElem_mem hm) b)]
 simp only [ZQ]
 unfold hitB
 rw [ZbG hk,ZbG hm]
 by_cases c0:k=m
 ·subst c0;simp
 rw [ZY (by simp;omega)]
 cases c1:(p.Uses[k].Stream==i) with
 | false=>simp
 | true =>
  cases c2:(p.Uses[m].Stream==j) with
  | false=>simp
  | true =>
   cases c3:(p.Uses[k].Port==p.Uses[m].Port) with
   | false=>simp
   | true =>
    simp only [ZZ,ZQ,c0,ne_eq,not_false_eq_true,decide_true,Zi,Bool.not_not]
    cases decide (SepD (Zdi p p.Uses[k] a) (Zdi p p.Uses[m] b) ((Zdi p p.Uses[m] b).From-(Zdi p p.Uses[k] a).From))<;>rfl
theorem Zn8 {s:Zad}(hs:VSpan s):¬ SepD s s (s.From-s.From):=by
 have:=hs.bounds
 unfold SepD
 simp
 omega
theorem ZoL {u v:ZaE}(h:(((u.Stream==v.Stream)&&((u.Port==v.Port)&&((u.From==v.From)&&((u.Long==v.Long)&&true))))=true)):u=v:=by
 obtain ⟨a,b,c,d⟩:=u
 obtain ⟨a',b',c',d'⟩:=v
 simp at h
 obtain ⟨rfl,rfl,rfl,rfl⟩:=h
 rfl
theorem ZeV {N:Nat}(hN:2000<=N){p:Z4}(h:VP p){i a j b:Int}(ha:0<=a)(ha2:a<=1000)(hb:0<=b)(hb2:b<=1000)(hij:i=j->a=b):Zda N p i a j b=some (Zdj p i a j b):=by
 have hl:=h.uses
 unfold Zda Zfo
 simp only [ZQ]
 have round:∀ k m:Nat,∀ (hk:k<p.Uses.length) (hm:m<p.Uses.length),p.Uses[k].Stream=i->p.Uses[m].Stream=j →
   Zbe N p a b false p.Uses[k] p.Uses[m]=some (if SepD (Zdi p p.Uses[k] a) (Zdi p p.Uses[m] b) ((Zdi p p.Uses[m] b).From-(Zdi p p.Uses[k] a).From) then (false,0) else (true,1)):=by
  intro k m hk hm e1 e2
  unfold Zbe
  have hv1:=h.vspan (List.getElem_mem hk) a
  have hv2:=h.vspan (List.getElem_mem hm) b
  by_cases c:((p.Uses[k].Stream==p.Uses[m].Stream)&&((p.Uses[k].Port==p.Uses[m].Port)&&((p.Uses[k].From==p.Uses[m].From)&&((p.Uses[k].Long==p.Uses[m].Long)&&true))))=true
  ·rw [ZY c]
   have e:=ZoL c
   have hab:a=b:=hij (by rw [← e1,← e2,e])
   subst hab
   rw [← e,ZX (Zn8 hv1)]
  have hA:=Zhh hN (Zdi p p.Uses[k] a) (Zdi p p.Uses[m] b)
  rw [ZY ⟨hv1,hv2⟩] at hA
  rw [ZX c,ZeU N h (List.getElem_mem hk) ha (by omega),ZQ,ZeU N h (List.getElem_mem hm) hb (by omega),ZQ,hA,ZQ]
  by_cases s:SepD (Zdi p p.Uses[k] a) (Zdi p p.Uses[m] b) ((Zdi p p.Uses[m] b).From-(Zdi p p.Uses[k] a).From)
  ·simp [s]
  simp [s]
 have loop:ZdD N (λ(s:Bool×Nat) (x16:ZaE) (x17:ZaE)=>ZhB (λv:Bool=>Zbe N p a b v x16 x17) s) p i j (false,0)=some (if Zdj p i a j b=true then (true,1) else (false,0)):=by
  unfold ZdD
  rw [(Zif (n:=p.Uses.length) (p:=λk=>allB p.Uses.length λm => !(hitB p i a j b k m)) (f:=λs _=>s) (bad:=.inr (true,1)) (fin:=λs=>.inl s) (λ_ s=>s=(false,0)) (λk s hk hs=>?_) (λ_ s _ hs _=>hs) (λs _=>by simp [ZbW]) (N:=N) (by omega) rfl).1]
  ·unfold Zdj
   have hf:∀ (l:List Nat),l.foldl (λ(s:Bool×Nat) _=>s) (false,0)=(false,0):=by
    intro l;induction l with
    | nil=>rfl
    | cons x l ih=>simpa using ih
   rw [hf]
   cases allB p.Uses.length λk=>allB p.Uses.length λm => !(hitB p i a j b k m)<;>rfl
  subst hs
  simp only [ZbW]
  have hw:w64 ((k:Int)+1)=((k+1:Nat):Int):=ZaX (by omega)
  rw [ZY (by simpa using hk),ZbQ hk,ZQ,hw]
  by_cases c1:p.Uses[k].Stream=i
  ·rw [ZX (by simpa using c1)]
   rw [(Zif (n:=p.Uses.length) (p:=λm => !(hitB p i a j b k m)) (f:=λs _=>s) (bad:=.inr (true,1)) (fin:=λs=>.inl s) (λ_ s=>s=(false,0)) (λm s hm hs=>?_) (λ_ s _ hs _=>hs) (λs _=>by simp [ZbV]) (N:=N) (by omega) rfl).1]
   ·have hf:∀ (l:List Nat),l.foldl (λ(s:Bool×Nat) _=>s) (false,0)=(false,0):=by
     intro l;induction l with
     | nil=>rfl
     | cons x l ih=>simpa using ih
    rw [hf]
    cases allB p.Uses.length λm => !(hitB p i a j b k m)<;>rfl
   subst hs
   simp only [ZbV]
   have hw2:w64 ((m:Int)+1)=((m+1:Nat):Int):=ZaX (by omega)
   rw [ZY (by simpa using hm),ZbQ hm,ZQ,hw2]
   unfold hitB
   rw [ZbG hk,ZbG hm]
   by_cases c0:k=m
   ·subst c0;simp
   have c0':((m:Int)==(k:Int))=false:=by simp;omega
   rw [c0']
   simp only [Zf,ZW]
   by_cases c2:p.Uses[m].Stream=j
   ·rw [ZX (by simpa using c2),ZQ]
    by_cases c3:p.Uses[k].Port=p.Uses[m].Port
    ·rw [ZX (by simp [c3])]
     unfold ZhB
     simp only [ZZ]
     rw [round k m hk hm c1 c2]
     simp only [c0,c1,c2,c3,ne_eq,not_false_eq_true,decide_true,Zi,beq_self_eq_true,Bool.not_not]
     by_cases s:SepD (Zdi p p.Uses[k] a) (Zdi p p.Uses[m] b) ((Zdi p p.Uses[m] b).From-(Zdi p p.Uses[k] a).From)
     ·simp [s]
     simp [s]
    rw [ZY (by simp;exact λq=>c3 q.symm)]
    simp [c3]
   rw [ZY (by simpa using c2),ZQ]
   simp [c2]
  rw [ZY (by simpa using c1)]
  have:(allB p.Uses.length λm => !(hitB p i a j b k m))=true:=by
   rw [ZeR]
   intro m hm
   unfold hitB
   rw [ZbG hk]
   simp [c1]
  rw [this,ZY rfl]
 rw [loop,ZQ]
 cases Zdj p i a j b<;>rfl
def argB (p:Z4)(i a j b:Int):Bool:=offB p i a&&offB p j b && !(decide (i=j)&&decide (a≠b))
def Zea (p:Z4)(i a j b:Int):Bool×Int:=if Zd6 p=true then (if argB p i a j b=true then (Zdj p i a j b,0) else (false,2)) else (false,340)
theorem Zh7 {p:Z4}(h:VP p){i x:Int}(ho:offB p i x=true):0<=x/\x<240:=by
 obtain ⟨a,b,c,d⟩:=Zdv.1 ho
 rw [ZbG (by omega)] at d
 have:=h.per _ (List.getElem_mem (show i.toNat<p.Periods.length by omega))
 omega
theorem Zhp {N:Nat}(hN:2000<=N)(p:Z4)(i a j b:Int):Zdb N p i a j b=some (Zea p i a j b):=by
 unfold Zdb Zea
 rw [Zf8 hN,ZQ]
 cases hp:Zd6 p with
 | false=>rfl
 | true =>
  have h:=VP.of hp
  simp only [ZZ,bne_self_eq_false,Zf,ZW]
  by_cases c1:0<=i/\i<(p.Periods.length:Int)/\0<=j/\j<(p.Periods.length:Int)
  ·obtain ⟨i1,i2,j1,j2⟩:=c1
   rw [ZX (by simp;omega),ZfI N i1 i2,ZfI N j1 j2]
   simp only [ZQ]
   unfold argB
   cases o1:offB p i a with
   | false=>rfl
   | true =>
    cases o2:offB p j b with
    | false=>rfl
    | true =>
     simp only [Bool.not_true,Zf,ZW,Zi]
     have b1:=Zh7 h o1
     have b2:=Zh7 h o2
     by_cases c:i=j
     ·by_cases d:a=b
      ·rw [ZeV hN h b1.1 (by omega) b2.1 (by omega) (λ_=>d)]
       simp [c,d]
      simp [c,d]
     rw [ZeV hN h b1.1 (by omega) b2.1 (by omega) (λq=>absurd q c)]
     simp [c]
  rw [ZY (by simp;omega)]
  have:argB p i a j b=false:=by
   unfold argB
   rw [Bool.eq_false_iff]
   intro q
   simp only [Ze] at q
   have q1:=Zdv.1 q.1.1
   have q2:=Zdv.1 q.1.2
   omega
  rw [this];rfl
end Go.Sh

namespace Go.Sh
open Go Go.Eng
def upF {σ:Type}(step:Nat->σ->Option σ):Nat->σ->Option σ
 | 0,s=>some s
 | n+1,s=>(upF step n s).bind (step n)
theorem Zn2 {σ:Type}{step:Nat->σ->Option σ}{k:Nat}{s:σ}(h:upF step k s=none):∀ n,k<=n->upF step n s=none:=by
 intro n hn
 induction n with
 | zero =>
  obtain rfl:k=0:=by omega
  exact h
 | succ n ih =>
  by_cases e:k=n+1
  ·subst e;exact h
  simp only [upF];rw [ih (by omega)];rfl
theorem Zj1 {σ τ ρ:Type}(mk:Int->σ->τ)(ix:τ->Int)(hix:∀ k s,ix (mk k s)=k){step:Nat->σ->Option σ}{body:τ->Option (τ⊕ρ)}{n:Nat}{s0:σ}{bad:ρ}{fin:σ->ρ}
  (hstep:∀ (k:Nat) (s:σ),k<n->upF step k s0=some s->body (mk k s)=match step k s with|some s'=>some (.inl (mk ((k+1:Nat):Int) s'))|none=>some (.inr bad))
  (hend:∀ s,upF step n s0=some s->body (mk n s)=some (.inr (fin s))) {N:Nat} (hN:n<N) :
  ZaQ body N (mk 0 s0)=some (match upF step n s0 with|some s=>fin s|none=>bad):=by
 obtain ⟨r,hr,e⟩:=ZcJ (body:=body) (λx=>∃ (k:Nat) (s:σ),x=mk k s/\k<=n/\upF step k s0=some s) (λx=>(n-ix x).toNat) (λr=>r=match upF step n s0 with|some s=>fin s|none=>bad) (λx hx=>by
  obtain ⟨k,s,rfl,k2,k3⟩:=hx
  by_cases c:k<n
  ·have hb:=hstep k s c k3
   cases hs:step k s with
   | some s' =>
    rw [hs] at hb
    left
    refine ⟨_,hb,⟨k+1,s',rfl,by omega,by simp only [upF];rw [k3];exact hs⟩,by rw [hix,hix];omega⟩
   | none =>
    rw [hs] at hb
    right
    refine ⟨_,hb,?_⟩
    have:upF step (k+1) s0=none:=by simp only [upF];rw [k3];exact hs
    rw [Zn2 this n (by omega)]
  right
  obtain rfl:k=n:=by omega
  exact ⟨_,hend s k3,by rw [k3]⟩) N (mk 0 s0) ⟨0,s0,rfl,by omega,rfl⟩ (by rw [hix];omega)
 rw [hr,e]
section
variable {N:Nat} {p:Z4} {f:List Z3}
def Zcq (nP len c:Int)(a:Zav):Bool :=
 if a.By = -1 then decide (a.To=w64 (a.From+1)/\c<a.Next/\a.Next<len)
 else if a.Next=0 then (if a.By = -2 then decide (c=0/\a.From≠0) else decide (0<=a.By/\a.By<nP)) else false
def Zgm (nP len c per at_:Int)(a:Zav):Bool:=decide (a.From=at_/\a.From<a.To/\a.To<=per)&&Zcq nP len c a
def Zdt (nP len c per:Int)(l:List Zav)(k:Nat)(at_:Int):Option Int:=(l[k]?).bind λa=>if Zgm nP len c per at_ a=true then some a.To else none
def Zhq (nP len c per:Int)(l:List Zav):Bool:=match upF (Zdt nP len c per l) l.length 0 with
 | some e=>e==per
 | none=>false
theorem Zgx (c:Nat)(a:Zav):ZcR N p f (c:Int) a=some (Zcq p.Periods.length f.length c a):=by
 unfold ZcR Zcq
 by_cases h1:a.By = -1
 ·rw [ZY (by simpa using h1),ZY h1]
  congr 1
  rw [Bool.eq_iff_iff]
  simp only [Ze,beq_iff_eq,ZV,gt_iff_lt]
 rw [ZX (by simpa using h1),ZX h1]
 by_cases h2:a.Next=0
 ·rw [ZX (by simpa using h2),ZY h2]
  by_cases h3:a.By = -2
  ·rw [ZY (by simpa using h3),ZY h3]
   congr 1
   rw [Bool.eq_iff_iff]
   simp
  rw [ZX (by simpa using h3),ZX h3]
  congr 1
  rw [Bool.eq_iff_iff]
  simp
 rw [ZY (by simpa using h2),ZX h2]
def ZmO (nP len c per:Int)(l:List Zav):Int⊕Bool:=match upF (Zdt nP len c per l) l.length 0 with
 | some e=>.inl e
 | none=>.inr false
theorem Zjh {c per:Int}{l:List Zav}{body:Int×Int->Option ((Int×Int)⊕(Int⊕Bool))}{nP len:Int}
  (hstep:∀ (k:Nat) (e:Int) (h:k<l.length),body (e,(k:Int))=if Zgm nP len c per e l[k]=true then some (.inl (l[k].To,((k+1:Nat):Int))) else some (.inr (.inr false)))
  (hend:∀ e,body (e,(l.length:Int))=some (.inr (.inl e))) (hN:l.length<N):ZaQ body N (0,0)=some (ZmO nP len c per l):=by
 have:=Zj1 (λk (s:Int)=>(s,k)) (·.2) (λ_ _=>rfl) (ρ:=Int⊕Bool) (body:=body) (step:=Zdt nP len c per l) (n:=l.length) (s0:=0) (fin:=λe=>.inl e) (bad:=.inr false) (λk s hk _=>by
  rw [hstep k s hk]
  unfold Zdt
  rw [Zw hk,ZQ]
  by_cases h:Zgm nP len c per s l[k]=true
  ·rw [ZY h,ZY h]
  rw [ZX h,ZX h]) (λs _=>hend s) hN
 rw [this]
 unfold ZmO
 cases upF (Zdt nP len c per l) l.length 0<;>rfl
theorem ZnO {nP len c per:Int}{l:List Zav}:(match ZmO nP len c per l with | .inl e=>e==per | .inr b=>b)=Zhq nP len c per l:=by
 unfold ZmO Zhq
 cases upF (Zdt nP len c per l) l.length 0<;>rfl
def Zbv (p:Z4)(f:List Z3)(c:Nat):Bool:=match f[c]? with
 | some x=>decide (0<=x.Stream/\x.Stream<(p.Periods.length:Int))&&Zhq p.Periods.length f.length c (p.Periods.getD x.Stream.toNat 0) x.Arms
 | none=>false
theorem ZeE {nP len c per e:Int}{a:Zav}(h:Zgm nP len c per e a=true):a.From=e/\a.From<a.To/\a.To<=per/\Zcq nP len c a=true:=by
 simp only [Zgm,Ze,ZV] at h
 exact ⟨h.1.1,h.1.2.1,h.1.2.2,h.2⟩
theorem ZiN {c:Nat}(hc:c<f.length)(h0:0<=f[c].Stream)(h1:f[c].Stream<(p.Periods.length:Int))(hl:f[c].Arms.length<1000000)(hN:f[c].Arms.length<N) :
  Zd5 N p f (c:Int)=some (Zhq p.Periods.length f.length c (p.Periods.getD f[c].Stream.toNat 0) f[c].Arms):=by
 obtain ⟨x,hx⟩:∃ x,x=f[c]:=⟨_,rfl⟩
 obtain ⟨per,hper⟩:∃ per,per=p.Periods.getD x.Stream.toNat 0:=⟨_,rfl⟩
 unfold Zd5
 rw [ZbQ hc,ZQ,← hx]
 rw [← hx] at h0 h1 hl hN
 rw [ZeO 0 h0 h1,ZQ,← hper,ZQ]
 rw [Zjh (nP:=p.Periods.length) (len:=f.length) (c:=c) (per:=per) (l:=x.Arms) (λk e hk=>by
   simp only [Zcn]
   rw [ZY (by simpa using hk),ZbQ hk,ZQ,Zgx,ZaX (by omega)]
   simp only [ZQ]
   by_cases h:Zgm p.Periods.length f.length c per e x.Arms[k]=true
   ·obtain ⟨a1,a2,a3,a4⟩:=ZeE h
    rw [ZY h,ZX (by simpa using a1),ZX (by simpa using a2),ZX (by simpa using a3),a4]
    rfl
   rw [ZX h]
   by_cases a1:x.Arms[k].From=e
   ·by_cases a2:x.Arms[k].From<x.Arms[k].To
    ·by_cases a3:x.Arms[k].To<=per
     ·have a4:Zcq p.Periods.length f.length c x.Arms[k]=false:=by
       cases hr:Zcq p.Periods.length f.length c x.Arms[k] with
       | false=>rfl
       | true=>exact absurd (by simp [Zgm,a1 ▸ a2,a3,hr,a1]) h
      rw [ZX (by simpa using a1),ZX (by simpa using a2),ZX (by simpa using a3),a4]
      rfl
     rw [ZX (by simpa using a1),ZX (by simpa using a2),ZY (by simpa using a3)];rfl
    rw [ZX (by simpa using a1),ZY (by simpa using a2)];rfl
   rw [ZY (by simpa using a1)];rfl) (λe=>by simp [Zcn]) hN,ZQ,← ZnO]
 cases ZmO p.Periods.length f.length c per x.Arms<;>rfl
end
end Go.Sh

namespace Go.Sh
open Go Go.Eng
theorem Zlj {σ:Type}{step:Nat->σ->Option σ}:∀ {n:Nat} {s0 s:σ},upF step n s0=some s->∀ k,k<n->∃ s1 s2,upF step k s0=some s1/\step k s1=some s2
 | 0,_,_,_,k,hk=>by omega
 | n+1,s0,s,h,k,hk=>by
  simp only [upF] at h
  obtain ⟨s1,h1,h2⟩:=bind_some h
  by_cases e:k=n
  ·subst e;exact ⟨s1,s,h1,h2⟩
  exact Zlj h1 k (by omega)
section
variable {N:Nat} {p:Z4} {f:List Z3}
theorem Ziz {nP len c per:Int}{l:List Zav}(h:Zhq nP len c per l=true):∀ a∈l,Zcq nP len c a=true:=by
 intro a ha
 obtain ⟨k,hk,rfl⟩:=List.getElem_of_mem ha
 unfold Zhq at h
 cases hu:upF (Zdt nP len c per l) l.length 0 with
 | none=>rw [hu] at h;cases h
 | some s =>
  obtain ⟨s1,s2,_,h2⟩:=Zlj hu k hk
  unfold Zdt at h2
  rw [Zw hk,ZQ] at h2
  by_cases c1:Zgm nP len c per s1 l[k]=true
  ·exact (ZeE c1).2.2.2
  rw [ZX c1] at h2;cases h2
theorem ZcZ {c:Nat}(hc:c<f.length):Zbv p f c=(decide (0<=f[c].Stream/\f[c].Stream<(p.Periods.length:Int))&&Zhq p.Periods.length f.length c (p.Periods.getD f[c].Stream.toNat 0) f[c].Arms):=by
 unfold Zbv
 rw [Zw hc]
theorem ZjJ {c:Nat}(hp:∀ x∈p.Periods,1<=x)(hc:c<f.length)(h0:0<=f[c].Stream)(h1:f[c].Stream<(p.Periods.length:Int))(hl:f[c].Arms.length<1000000)(hN:f[c].Arms.length<N) :
  Zeu N p f (c:Int)=some (Zhq p.Periods.length f.length c (p.Periods.getD f[c].Stream.toNat 0) f[c].Arms):=by
 obtain ⟨x,hx⟩:∃ x,x=f[c]:=⟨_,rfl⟩
 obtain ⟨per,hper⟩:∃ per,per=p.Periods.getD x.Stream.toNat 0:=⟨_,rfl⟩
 unfold Zeu
 have ei:idx f (c:Int)=some x:=by rw [ZbQ hc,hx]
 rw [ei,ZQ]
 rw [← hx] at h0 h1 hl hN ⊢
 have ep:idx p.Periods x.Stream=some per:=by rw [hper];exact ZeO 0 h0 h1
 have hper1:1<=per:=by
  refine hp _ ?_
  rw [hper,ZbG (by omega)]
  exact List.getElem_mem _
 rw [← hper]
 rw [Zjh (nP:=p.Periods.length) (len:=f.length) (c:=c) (per:=per) (l:=x.Arms) (λk e hk=>by
   simp only [ZcC]
   rw [ZY (by simpa using hk),ZbQ hk,ZQ,ei,ZQ,ep,ZQ,ZaX (by omega)]
   obtain ⟨a,ha⟩:∃ a,a=x.Arms[k]:=⟨_,rfl⟩
   rw [← ha]
   unfold Zgm Zcq
   by_cases a1:a.From=e
   ·by_cases a2:a.From<a.To
    ·by_cases a3:a.To<=per
     ·rw [ZX (by simpa using a1),ZX (by simpa using a2),ZX (by simpa using a3)]
      by_cases b1:a.By = -1
      ·rw [ZX (by simp;omega),ZQ,ZX (by simp;omega),ZY (by simpa using b1),ZY b1]
       by_cases b2:a.To=w64 (a.From+1)/\(c:Int)<a.Next/\a.Next<(f.length:Int)
       ·rw [ZX (by simp;omega),ZY (by simp only [Ze,ZV];exact ⟨⟨a1,a2,a3⟩,b2⟩)]
       rw [ZY (by simp;omega),ZX (by simp only [Ze,ZV];exact λh=>b2 h.2)]
      rw [ZX b1]
      by_cases b3:a.By = -2
      ·rw [ZX (by simp;omega),ZQ,ZX (by simp;omega),ZX (by simpa using b1),ZY (by simpa using b3)]
       by_cases b4:a.Next=0
       ·rw [ZY b4,ZY b3]
        by_cases b5:(c:Int)=0/\a.From≠0
        ·rw [ZX (by simp;omega),ZY (by simp only [Ze,ZV];exact ⟨⟨a1,a2,a3⟩,b5⟩)]
        rw [ZY (by simp;omega),ZX (by simp only [Ze,ZV];exact λh=>b5 h.2)]
       rw [ZX b4,ZY (by simp;omega),ZX (by simp)]
      by_cases b6:0<=a.By/\a.By<(p.Periods.length:Int)
      ·rw [ZX (by simp;omega),ZQ,ZX (by simp;omega),ZX (by simpa using b1),ZX (by simpa using b3)]
       by_cases b4:a.Next=0
       ·rw [ZX (by simpa using b4),ZY b4,ZX b3,ZY (by simp only [Ze,ZV];exact ⟨⟨a1,a2,a3⟩,b6⟩)]
       rw [ZY (by simpa using b4),ZX b4,ZX (by simp)]
      have hbad:Zgm p.Periods.length f.length c per e a=false:=by
       cases hq:Zgm p.Periods.length f.length c per e a with
       | false=>rfl
       | true =>
        obtain ⟨_,_,_,q⟩:=ZeE hq
        unfold Zcq at q
        rw [ZX b1] at q
        by_cases b4:a.Next=0
        ·rw [ZY b4,ZX b3,ZV] at q;exact absurd q b6
        rw [ZX b4] at q;cases q
      have hbad':=hbad
      unfold Zgm Zcq at hbad'
      rw [ZX b1] at hbad'
      rw [hbad',ZX (show ¬ false=true by simp)]
      by_cases b7:a.By < -2
      ·rw [ZY (by simpa using b7),ZQ];rfl
      rw [ZX (by simpa using b7),ZQ,ZY (by simp;omega)]
     rw [ZX (by simpa using a1),ZX (by simpa using a2),ZY (by simpa using a3),ZQ,ZY rfl,ZX (by simp only [Ze,ZV];exact λh=>a3 h.1.2.2)]
    rw [ZX (by simpa using a1),ZY (by simpa using a2),ZQ,ZY rfl,ZX (by simp only [Ze,ZV];exact λh=>a2 h.1.2.1)]
   rw [ZY (by simpa using a1),ZQ,ZY rfl,ZX (by simp only [Ze,ZV];exact λh=>a1 h.1.1)]) (λe=>by simp [ZcC]) hN,ZQ,← ZnO]
 unfold ZmO
 cases hu:upF (Zdt p.Periods.length f.length c per x.Arms) x.Arms.length 0 with
 | none=>rfl
 | some e =>
  simp only
  by_cases hz:0<x.Arms.length
  ·rw [ZY (by rw [ZV];omega),ZQ,ep,ZQ,ZQ]
  rw [ZX (by rw [ZV];omega),ZQ]
  have:x.Arms.length=0:=by omega
  rw [this] at hu
  simp only [upF,ZS] at hu
  subst hu
  congr 1
  symm
  simp
  omega
def bump (l:List Int)(a:Zav):List Int:=if a.By = -1 then l.set a.Next.toNat (w64 (l.getD a.Next.toNat 0+1)) else l
def ZlJ (f:List Z3)(k:Nat)(l:List Int):List Int:=match f[k]? with
 | some x=>x.Arms.foldl bump l
 | none=>l
def Zez (f:List Z3):Nat->List Int->List Int
 | 0,l=>l
 | k+1,l=>ZlJ f k (Zez f k l)
theorem Zor (l:List Int)(a:Zav):(bump l a).length=l.length:=by
 unfold bump
 by_cases h:a.By = -1
 ·rw [ZY h];simp
 rw [ZX h]
theorem Ziu:∀ (as:List Zav) (l:List Int),(as.foldl bump l).length=l.length
 | [],_=>rfl
 | a::as,l=>by rw [List.foldl_cons,Ziu as,Zor]
theorem ZdX (f:List Z3)(l:List Int):∀ k,(Zez f k l).length=l.length
 | 0=>rfl
 | k+1=>by
  unfold Zez ZlJ
  cases f[k]? with
  | none=>exact ZdX f l k
  | some x=>simp only;rw [Ziu,ZdX f l k]
theorem Zk5 {l:List Int}{as:List Zav}{body:Int×List Int->Option ((Int×List Int)⊕List Int)}(hl:as.length<1000000)
  (hstep:∀ (k:Nat) (m:List Int) (h:k<as.length),m.length=l.length->body ((k:Int),m)=some (.inl (((k+1:Nat):Int),bump m as[k])))
  (hend:∀ m,body ((as.length:Int),m)=some (.inr m)) (hN:as.length<N):ZaQ body N (0,l)=some (as.foldl bump l):=by
 obtain ⟨r,hr,e⟩:=ZcJ (body:=body) (λx=>∃ k:Nat,x.1=k/\k<=as.length/\x.2=(as.take k).foldl bump l) (λx=>(as.length-x.1).toNat) (λr=>r=as.foldl bump l) (λx hx=>by
  obtain ⟨i,m⟩:=x
  obtain ⟨k,k1,k2,k3⟩:=hx
  simp only at k1 k3
  subst k1 k3
  by_cases c:k<as.length
  ·left
   refine ⟨_,hstep k _ c (by rw [Ziu]),⟨k+1,rfl,by omega,?_⟩,by simp;omega⟩
   rw [List.take_succ_eq_append_getElem c,List.foldl_append]
   rfl
  right
  obtain rfl:k=as.length:=by omega
  exact ⟨_,hend _,by rw [List.take_length]⟩) N (0,l) ⟨0,rfl,by omega,rfl⟩ (by simp;omega)
 rw [hr,e]
theorem Zmh {m:List Int}{a:Zav}{nP c:Int}(hr:Zcq nP m.length c a=true)(hc:0<=c)(hb:a.By = -1):0<=a.Next/\a.Next<(m.length:Int):=by
 unfold Zcq at hr
 rw [ZY hb,ZV] at hr
 omega
end
end Go.Sh

namespace Go.Sh
open Go Go.Eng
section
variable {N:Nat} {p:Z4} {f:List Z3}
def Zf1 (p:Z4)(f:List Z3)(k:Nat)(l:List Int):Option (List Int):=if Zbv p f k=true then some (ZlJ f k l) else none
theorem Zjw (l:List Int):∀ n,upF (Zf1 p f) n l=if allB n (Zbv p f)=true then some (Zez f n l) else none
 | 0=>by simp [upF,allB,Zez]
 | n+1=>by
  simp only [upF]
  rw [Zjw l n]
  have e:allB (n+1) (Zbv p f)=(allB n (Zbv p f)&&Zbv p f n):=by
   unfold allB
   rw [List.range_succ,List.all_append]
   simp
  rw [e]
  cases h1:allB n (Zbv p f) with
  | false=>simp
  | true =>
   simp only [ZZ,ZQ,Zi]
   unfold Zf1
   cases h2:Zbv p f n<;>simp [Zez]
def ZiT (p:Z4)(f:List Z3):Bool :=
 decide (1<=f.length/\f.length<=2000)&&allB f.length (Zbv p f)&&((Zez f f.length (List.replicate f.length 0)).drop 1).all (· == 1)
theorem ZgC {c:Nat}(h:Zbv p f c=true):∃ hc:c<f.length,0<=f[c].Stream/\f[c].Stream<(p.Periods.length:Int)/\Zhq p.Periods.length f.length c (p.Periods.getD f[c].Stream.toNat 0) f[c].Arms=true:=by
 by_cases hc:c<f.length
 ·rw [ZcZ hc,Ze,ZV] at h
  exact ⟨hc,h.1.1,h.1.2,h.2⟩
 unfold Zbv at h
 rw [Zx (by omega)] at h
 cases h
theorem ZmL {c:Nat}{l:List Int}(h:Zbv p f c=true)(hl:l.length=f.length)(ha:∀ x∈f,x.Arms.length<1000000/\x.Arms.length<N){x:Z3}(hx:f[c]?=some x) :
  ZaQ (λy:Int×(List Int)=>ZbB N x y.1 y.2) N (0,l)=some (ZlJ f c l):=by
 obtain ⟨hc,h0,h1,h2⟩:=ZgC h
 rw [Zw hc] at hx
 cases hx
 have hb:=ha _ (List.getElem_mem hc)
 rw [Zk5 hb.1 (λk m hk hm=>?_) (λm=>by simp [ZbB]) hb.2]
 ·unfold ZlJ
  rw [Zw hc]
 have hr:=Ziz h2 _ (List.getElem_mem hk)
 rw [← hl,← hm] at hr
 simp only [ZbB]
 rw [ZY (by simpa using hk),ZbQ hk,ZQ,ZaX (by omega)]
 unfold bump
 by_cases b:f[c].Arms[k].By = -1
 ·obtain ⟨n0,n1⟩:=Zmh hr (by omega) b
  rw [ZY (by simpa using b),ZY b,ZeO 0 n0 n1]
  rfl
 rw [ZX (by simpa using b),ZX b]
 rfl
theorem ZhW (hf:f.length<N)(hN:2000<=N)(ha:∀ x∈f,x.Arms.length<1000000/\x.Arms.length<N):ZdC N p f=some (ZiT p f):=by
 unfold ZdC ZiT
 by_cases h1:1<=f.length/\f.length<=2000
 ·rw [ZX (by simp;omega),decide_eq_true h1,Zi]
  have hm:Zgd 8 ((List.length f:Nat):Int) ((List.length f:Nat):Int) (0:Int)=some (List.replicate f.length 0):=by
   unfold Zgd
   rw [ZY (by omega)]
   simp
  rw [hm,ZQ]
  rw [Zj1 (λk (s:List Int)=>(k,s)) (·.1) (λ_ _=>rfl) (body:=λx:Int×(List Int)=>ZbC N p f x.1 x.2) (step:=Zf1 p f) (n:=f.length) (s0:=List.replicate f.length 0) (bad:=.inr false) (fin:=λs=>.inl s) (λk s hk hs=>by
    have hsl:s.length=f.length:=by
     rw [Zjw] at hs
     by_cases q:allB k (Zbv p f)=true
     ·rw [ZY q,ZS] at hs
      subst hs
      rw [ZdX];simp
     rw [ZX q] at hs;cases hs
    simp only [ZbC]
    rw [ZY (by simpa using hk),ZbQ hk,ZQ]
    unfold Zf1
    have hb:=ha _ (List.getElem_mem hk)
    by_cases c0:0<=f[k].Stream
    ·by_cases c1:f[k].Stream<(p.Periods.length:Int)
     ·rw [ZX (by simpa using c0),ZX (by simpa using c1),ZiN hk c0 c1 hb.1 hb.2,ZQ,ZQ,ZcZ hk,decide_eq_true (show 0<=f[k].Stream/\f[k].Stream<(p.Periods.length:Int) from ⟨c0,c1⟩),Zi]
      cases h2:Zhq p.Periods.length f.length k (p.Periods.getD f[k].Stream.toNat 0) f[k].Arms with
      | false=>rfl
      | true =>
       have hch:Zbv p f k=true:=by rw [ZcZ hk,decide_eq_true (show 0<=f[k].Stream/\f[k].Stream<(p.Periods.length:Int) from ⟨c0,c1⟩),h2];rfl
       simp only [Bool.not_true,Zf,ZW,ZZ]
       rw [ZmL hch hsl ha (Zw hk),ZQ,ZaX (by omega)]
     rw [ZX (by simpa using c0),ZY (by simpa using c1),ZQ,ZY rfl,ZcZ hk,decide_eq_false (by omega)]
     rfl
    rw [ZY (by simpa using c0),ZQ,ZY rfl,ZcZ hk,decide_eq_false (by omega)]
    rfl) (λs _=>by simp [ZbC]) hf,ZQ,Zjw]
  cases hall:allB f.length (Zbv p f) with
  | false=>rfl
  | true =>
   simp only [ZZ,Zi]
   have hnl:=ZdX f (List.replicate f.length 0) f.length
   rw [List.length_replicate] at hnl
   obtain ⟨nm,hnm⟩:∃ nm,nm=Zez f f.length (List.replicate f.length 0):=⟨_,rfl⟩
   rw [← hnm] at hnl ⊢
   have hsub:subI nm 1 ((List.length nm:Nat):Int)=some (nm.drop 1):=by
    unfold subI
    rw [ZY (by omega)]
    simp
   rw [hsub,ZQ]
   rw [ZdY (l:=nm.drop 1) (p:=λx=>x==1) (bad:=.inr false) (fin:=.inl ()) (λk hk=>?_) (by simp [ZbU]) (by rw [List.length_drop];omega),ZQ]
   ·cases (nm.drop 1).all λx=>x==1<;>rfl
   simp only [ZbU]
   rw [ZY (by simpa using hk),ZbQ hk,ZQ,ZaX (by rw [List.length_drop] at hk;omega)]
   by_cases e:(nm.drop 1)[k]=1
   ·rw [ZX (by simpa using e),ZY (by simpa using e)]
   rw [ZY (by simpa using e),ZX (by simpa using e)]
 rw [ZY (by simp;omega),decide_eq_false h1]
 rfl
end
end Go.Sh

namespace Go.Sh
open Go Go.Eng
section
variable {N:Nat} {p:Z4} {f:List Z3}
theorem ZiF {c:Nat}{l:List Int}(h:Zbv p f c=true)(hl:l.length=f.length)(ha:∀ x∈f,x.Arms.length<1000000/\x.Arms.length<N) :
  ZaQ (λy:Int×(List Int)=>Zb6 N f (c:Int) y.1 y.2) N (0,l)=some (ZlJ f c l):=by
 obtain ⟨hc,h0,h1,h2⟩:=ZgC h
 have hb:=ha _ (List.getElem_mem hc)
 rw [Zk5 hb.1 (λk m hk hm=>?_) (λm=>by simp [Zb6,ZbQ hc]) hb.2]
 ·unfold ZlJ
  rw [Zw hc]
 have hr:=Ziz h2 _ (List.getElem_mem hk)
 rw [← hl,← hm] at hr
 simp only [Zb6]
 simp only [ZbQ hc,ZQ]
 rw [ZY (by simpa using hk)]
 simp only [ZbQ hk,ZQ]
 rw [ZaX (by omega)]
 unfold bump
 by_cases b:f[c].Arms[k].By = -1
 ·obtain ⟨n0,n1⟩:=Zmh hr (by omega) b
  rw [ZY (by simpa using b),ZY b,ZeO 0 n0 n1]
  rfl
 rw [ZX (by simpa using b),ZX b]
 rfl
theorem Znd {l:List Int}(hall:allB f.length (Zbv p f)=true)(hl:l.length=f.length)(h2000:f.length<=2000)(ha:∀ x∈f,x.Arms.length<1000000/\x.Arms.length<N)(hf:f.length<N) :
  ZaQ (λx:Int×(List Int)=>Zb7 N f x.1 x.2) N (0,l)=some (Zez f f.length l):=by
 obtain ⟨r,hr,e⟩:=ZcJ (body:=λx:Int×(List Int)=>Zb7 N f x.1 x.2) (λx=>∃ k:Nat,x.1=k/\k<=f.length/\x.2=Zez f k l) (λx=>(f.length-x.1).toNat) (λr=>r=Zez f f.length l) (λx hx=>by
  obtain ⟨i,m⟩:=x
  obtain ⟨k,k1,k2,k3⟩:=hx
  simp only at k1 k3
  subst k1 k3
  simp only [Zb7]
  by_cases c:k<f.length
  ·left
   refine ⟨(((k+1:Nat):Int),Zez f (k+1) l),?_,⟨k+1,rfl,by omega,rfl⟩,by simp;omega⟩
   rw [ZY (by simpa using c),ZiF (ZeR.1 hall k c) (by rw [ZdX];exact hl) ha,ZQ,ZaX (by omega)]
   rfl
  right
  obtain rfl:k=f.length:=by omega
  exact ⟨_,by rw [ZX (by simp)],rfl⟩) N (0,l) ⟨0,rfl,by omega,rfl⟩ (by simp;omega)
 rw [hr,e]
theorem ZjN (hp:∀ x∈p.Periods,1<=x)(hf:f.length<N)(hN:2000<=N)(ha:∀ x∈f,x.Arms.length<1000000/\x.Arms.length<N):Zew N p f=some (ZiT p f):=by
 unfold Zew ZiT
 by_cases h1:1<=f.length/\f.length<=2000
 ·rw [ZX (by simp;omega),decide_eq_true h1,Zi]
  rw [ZgB (n:=f.length) (p:=Zbv p f) (bad:=.inr false) (fin:=.inl ()) (λk hk=>by
    simp only [ZcD]
    rw [ZY (by simpa using hk)]
    simp only [ZbQ hk,ZQ]
    have hb:=ha _ (List.getElem_mem hk)
    by_cases c0:0<=f[k].Stream
    ·by_cases c1:f[k].Stream<(p.Periods.length:Int)
     ·rw [ZX (by simpa using c0),ZX (by simpa using c1),ZjJ hp hk c0 c1 hb.1 hb.2,ZQ,ZQ,ZcZ hk,decide_eq_true (show 0<=f[k].Stream/\f[k].Stream<(p.Periods.length:Int) from ⟨c0,c1⟩),Zi,ZaX (by omega)]
      cases Zhq p.Periods.length f.length k (p.Periods.getD f[k].Stream.toNat 0) f[k].Arms<;>rfl
     rw [ZX (by simpa using c0),ZY (by simpa using c1),ZQ,ZY rfl,ZcZ hk,decide_eq_false (by omega)]
     rfl
    rw [ZY (by simpa using c0),ZQ,ZY rfl,ZcZ hk,decide_eq_false (by omega)]
    rfl) (by simp [ZcD]) hf,ZQ]
  cases hall:allB f.length (Zbv p f) with
  | false=>rfl
  | true =>
   simp only [ZZ,Zi]
   have hm:Zgd 8 ((List.length f:Nat):Int) ((List.length f:Nat):Int) (0:Int)=some (List.replicate f.length 0):=by
    unfold Zgd
    rw [ZY (by omega)]
    simp
   rw [hm,ZQ,Znd hall (by simp) h1.2 ha hf,ZQ]
   have hnl:=ZdX f (List.replicate f.length 0) f.length
   rw [List.length_replicate] at hnl
   obtain ⟨nm,hnm⟩:∃ nm,nm=Zez f f.length (List.replicate f.length 0):=⟨_,rfl⟩
   rw [← hnm] at hnl ⊢
   have key:=Zig (l:=nm) (p:=λx=>x==1) (body:=λx:Int=>Zb5 N f nm x) (bad:=.inr false) (fin:=.inl ()) (λk hk=>by
    simp only [Zb5]
    rw [ZY (by simp;omega),ZbQ hk,ZQ,ZaX (by omega)]
    by_cases e:nm[k]=1
    ·rw [ZX (by simpa using e),ZY (by simpa using e)]
    rw [ZY (by simpa using e),ZX (by simpa using e)]) (by simp [Zb5,hnl]) (nm.length-1) N 1 rfl (by omega) (by omega)
   have e1:((1:Nat):Int)=1:=rfl
   rw [e1] at key
   rw [key,ZQ]
   cases (nm.drop 1).all λx=>x==1<;>rfl
 rw [ZY (by simp;omega),decide_eq_false h1]
 rfl
end
end Go.Sh

namespace Go.Sh
open Go Go.Eng
def Zkf:List Int:=[4,6,8,12,3,5,10,24]
theorem Zju:∀ x∈Zkf,3<=x/\x<=24/\x.toNat∣120:=by decide
structure GP (p:Z4):Prop where
 prob:Zd6 p=true
 len:p.Periods.length<=5
 uses:p.Uses.length<=12
 tab:∀ x∈p.Periods,x∈Zkf
 port:∀ u∈p.Uses,u.Port<4
theorem Zk9 {α:Type}{b:Nat}{l:List α}{x:α}(hl:l.length<=1000)(hb:b<=1000):appI b l [x]=some (l++[x]):=by
 refine ZbA ?_ (by omega)
 simp;omega
theorem Zdm {N:Nat}(hN:2000<=N){d:Zbk}(hd:Zdy d):∃ p,ZaT N d=some p/\GP p:=by
 obtain ⟨⟨_,d1⟩,⟨_,d2⟩⟩:=hd
 unfold ZaT
 obtain ⟨P,hP,P1,P2⟩:=ZcJ (body:=λx:Int×(List Int)=>Za4 N d x.1 x.2) (λx=>0<=x.1/\x.1<=5/\(x.2.length:Int)=x.1/\∀ q∈x.2,q∈Zkf) (λx=>(5-x.1).toNat) (λl=>l.length<=5/\∀ q∈l,q∈Zkf) (λx hx=>by
  obtain ⟨i,l⟩:=x
  obtain ⟨i0,i1,i2,i3⟩:=hx
  simp only at i0 i1 i2 i3
  simp only [Za4]
  by_cases c:i<(d.Periods.length:Int)/\i<5
  ·left
   obtain ⟨k,rfl⟩:∃ k:Nat,i=k:=⟨i.toNat,by omega⟩
   have hk:k<d.Periods.length:=by omega
   have hb:0<=d.Periods[k]/\d.Periods[k]<=255:=(d1 _ (List.getElem_mem hk)).u8
   have hm0:=Int.emod_nonneg d.Periods[k] (show (8:Int)≠0 by decide)
   have hm1:=Int.emod_lt_of_pos d.Periods[k] (show (0:Int)<8 by decide)
   have ht:(d.Periods[k]%8).toNat<Zkf.length:=by simp [Zkf];omega
   refine ⟨(((k+1:Nat):Int),l++[Zkf[(d.Periods[k]%8).toNat]]),?_,⟨by omega,by omega,by simp;omega,λq hq=>?_⟩,by omega⟩
   ·rw [ZY (by simp;omega),ZbQ hk,ZQ,Zj hb.1,show ([4,6,8,12,3,5,10,24]:List Int)=Zkf from rfl,Zny hm0 ht,ZQ,Zk9 (by omega) (by omega),ZQ,ZaX (by omega)]
   rcases List.mem_append.1 hq with q1|q1
   ·exact i3 q q1
   simp only [ZM] at q1
   subst q1
   exact List.getElem_mem ht
  right
  refine ⟨l,?_,by omega,i3⟩
  rw [ZX (by simp;omega)]) N (0,[]) ⟨by omega,by omega,rfl,by simp⟩ (by simp;omega)
 rw [hP,ZQ]
 have hper:P.all perB=true:=List.all_eq_true.2 λq hq=>by
  have:=Zju q (P2 q hq)
  exact Zf9.2 (by omega)
 obtain ⟨U,hU,U1,U2⟩:=ZcJ (body:=λx:Int×(List ZaE)=>Za3 N d P x.1 x.2) (λx=>0<=x.1/\x.1<=12/\(x.2.length:Int)=x.1/\∀ u∈x.2,useB P u=true/\u.Port<4) (λx=>(12-x.1).toNat) (λl=>l.length<=12/\∀ u∈l,useB P u=true/\u.Port<4) (λx hx=>by
  obtain ⟨i,l⟩:=x
  obtain ⟨i0,i1,i2,i3⟩:=hx
  simp only at i0 i1 i2 i3
  simp only [Za3]
  by_cases c:i<(d.Uses.length:Int)/\i<12/\0<P.length
  ·left
   obtain ⟨c1,c2,c3⟩:=c
   obtain ⟨k,rfl⟩:∃ k:Nat,i=k:=⟨i.toNat,by omega⟩
   have hk:k<d.Uses.length:=by omega
   obtain ⟨b0,b1,b2,b3⟩:=d2 _ (List.getElem_mem hk)
   have b0:0<=d.Uses[k].x0/\d.Uses[k].x0<=255:=b0.u8
   have b1:0<=d.Uses[k].x1/\d.Uses[k].x1<=255:=b1.u8
   have b2:0<=d.Uses[k].x2/\d.Uses[k].x2<=255:=b2.u8
   have b3:0<=d.Uses[k].x3/\d.Uses[k].x3<=255:=b3.u8
   have s0:=Int.emod_nonneg d.Uses[k].x0 (show (P.length:Int)≠0 by omega)
   have s1:=Int.emod_lt_of_pos d.Uses[k].x0 (show 0<(P.length:Int) by omega)
   have hn:(d.Uses[k].x0%(P.length:Int)).toNat<P.length:=by omega
   obtain ⟨n,en⟩:∃ n,n=P[(d.Uses[k].x0%(P.length:Int)).toNat]:=⟨_,rfl⟩
   have hn3:=Zju n (P2 n (by rw [en];exact List.getElem_mem hn))
   have f0:=Int.emod_nonneg d.Uses[k].x2 (show n≠0 by omega)
   have f1:=Int.emod_lt_of_pos d.Uses[k].x2 (show 0<n by omega)
   have g0:=Int.emod_nonneg d.Uses[k].x3 (show n≠0 by omega)
   have g1:=Int.emod_lt_of_pos d.Uses[k].x3 (show 0<n by omega)
   have g2:=Int.emod_nonneg (d.Uses[k].x3%n) (show (4:Int)≠0 by decide)
   have g3:=Int.emod_lt_of_pos (d.Uses[k].x3%n) (show (0:Int)<4 by decide)
   have g4:=Int.emod_nonneg (d.Uses[k].x3%n%4) (show n≠0 by omega)
   have g5:=Int.emod_lt_of_pos (d.Uses[k].x3%n%4) (show 0<n by omega)
   have p0:=Int.emod_nonneg d.Uses[k].x1 (show (4:Int)≠0 by decide)
   have p1:=Int.emod_lt_of_pos d.Uses[k].x1 (show (0:Int)<4 by decide)
   refine ⟨(((k+1:Nat):Int),l++[⟨d.Uses[k].x0%P.length,d.Uses[k].x1%4,d.Uses[k].x2%n,1+d.Uses[k].x3%n%4%n⟩]),?_,⟨by omega,by omega,by simp;omega,λu hu=>?_⟩,by omega⟩
   ·rw [ZY (by simp;omega),ZY (by simp;omega)]
    simp only [ZQ]
    rw [ZY (by simp;omega),ZbQ hk,ZQ,Zbh (by omega) (by omega),ZbJ (by omega),ZQ,Zj b0.1,Zny s0 hn,ZQ,← en,
     Zbh (x:=d.Uses[k].x2) (by omega) (by omega),ZbJ (by omega),ZQ,Zbh (x:=d.Uses[k].x3) (by omega) (by omega),ZbJ (by omega),ZQ,ZbJ (by omega),ZQ,
     Zj b1.1,Zj b2.1,Zj b3.1,Zj g0,Zj g2,Zbh (x:=d.Uses[k].x1%4) (by omega) (by omega),Zbh (x:=1+_) (by omega) (by omega),Zk9 (by omega) (by omega),ZQ,ZaX (by omega)]
   rcases List.mem_append.1 hu with q1|q1
   ·exact i3 u q1
   simp only [ZM] at q1
   subst q1
   refine ⟨Zed.2 ?_,p1⟩
   unfold perU
   simp only
   rw [ZbG hn,← en]
   omega
  right
  refine ⟨l,?_,by omega,i3⟩
  by_cases c1:i<(d.Uses.length:Int)
  ·rw [ZY (by simpa using c1)]
   by_cases c2:i<12
   ·rw [ZY (by simpa using c2),ZQ,ZX (by rw [ZV];omega)]
   rw [ZX (by simpa using c2),ZQ,ZX (by simp)]
  rw [ZX (by simpa using c1),ZQ,ZX (by simp)]) N (0,[]) ⟨by omega,by omega,rfl,by simp⟩ (by simp;omega)
 rw [hU,ZQ]
 refine ⟨_,rfl,?_,P1,U1,P2,λu hu=>(U2 u hu).2⟩
 rw [ZkC]
 refine ⟨by show P.length<=12;omega,by show U.length<=192;omega,hper,List.all_eq_true.2 λu hu=>(U2 u hu).1,?_⟩
 have hdv:lcmL P∣120:=ZgZ.2 λq hq=>(Zju q (P2 q hq)).2.2
 have:=Nat.le_of_dvd (by decide) hdv
 show lcmL P<=960
 omega
end Go.Sh
namespace Go.Sh
open Go Go.Eng
theorem Zla (n:Nat)(p:Nat->Bool):allB (n+1) p=(allB n p&&p n):=by
 unfold allB
 rw [List.range_succ,List.all_append]
 simp
theorem ZhH {p:Z4}(h:VP p){u:ZaE}(hu:u∈p.Uses){i:Nat}(hi:u.Stream=(i:Int))(x by_:Int):Zdi p u ((x+by_)%p.Periods.getD i 0)=shift (Zdi p u x) by_:=by
 have e:perU p.Periods u=p.Periods.getD i 0:=by unfold perU;rw [hi];simp
 unfold Zdi shift
 simp only [← e]
 congr 1
 rw [Int.emod_add_emod,Int.add_emod_emod,Int.add_assoc]
theorem Zlv {p:Z4}(h:VP p)(i j:Nat)(a b by_:Int):Zdj p i ((a+by_)%p.Periods.getD i 0) j ((b+by_)%p.Periods.getD j 0)=Zdj p i a j b:=by
 unfold Zdj
 congr 1
 refine Zji λk hk=>Zji λm hm=>?_
 congr 1
 unfold hitB
 rw [ZbG hk,ZbG hm,Bool.eq_iff_iff]
 simp only [Ze,ZV,beq_iff_eq,Zg,decide_eq_false_iff_not]
 refine and_congr_right λ_=>and_congr_right λc=>and_congr_right λd=>and_congr_right λ_=>?_
 rw [ZhH h (List.getElem_mem hk) c,ZhH h (List.getElem_mem hm) d,Zm8 (h.vspan (List.getElem_mem hk) a) (h.vspan (List.getElem_mem hm) b)]
end Go.Sh
namespace Go.Sh
open Go Go.Eng
theorem Znp {κ υ:Type}[DecidableEq κ](m:List (κ×υ))(x y:κ)(v:υ):ZeM (ZfT m x v) y=if x=y then some v else ZeM m y:=by
 induction m with
 | nil =>
  unfold ZfT ZeM
  by_cases h:x=y<;>simp [h]
 | cons q m ih =>
  unfold ZfT
  by_cases h:q.1=x
  ·rw [ZY h]
   unfold ZeM
   rw [List.find?_cons,List.find?_cons]
   by_cases e:x=y
   ·simp [e]
   simp [e,h]
  rw [ZX h]
  have e1:ZeM (q::ZfT m x v) y=if q.1=y then some q.2 else ZeM (ZfT m x v) y:=by
   unfold ZeM
   rw [List.find?_cons]
   by_cases e:q.1=y<;>simp [e]
  have e2:ZeM (q::m) y=if q.1=y then some q.2 else ZeM m y:=by
   unfold ZeM
   rw [List.find?_cons]
   by_cases e:q.1=y<;>simp [e]
  rw [e1,e2,ih]
  by_cases e:q.1=y
  ·rw [ZY e,ZY e,ZX (λe3=>h (by rw [e,e3]))]
  rw [ZX e,ZX e]
section
variable {N:Nat} {p:Z4}
def MOK (p:Z4)(m:List (Zai×Bool)):Prop:=∀ k b,ZeM m k=some b->b=(Zea p k.i k.x_ k.j 0).1
theorem MOK.nil:MOK p []:=λk b h=>by simp [ZeM] at h
theorem MOK.set {m:List (Zai×Bool)}(h:MOK p m)(k:Zai):MOK p (ZfT m k (Zea p k.i k.x_ k.j 0).1):=λk' b hb=>by
 rw [Znp] at hb
 by_cases e:k=k'
 ·rw [ZY e,ZS] at hb
  rw [← hb,e]
 rw [ZX e] at hb
 exact h k' b hb
theorem Zkz {x y per:Int}(hp:1<=per)(hp2:per<=1000)(hx:0<=x)(hx2:x<=1000)(hy:0<=y)(hy2:y<=1000):Zex N (w64 (x-y)) per=some ((x-y)%per):=by
 unfold Zex
 have h1:=Int.lt_tmod_of_pos (x-y) (show 0<per by omega)
 have h2:=Int.tmod_lt_of_pos (x-y) (show 0<per by omega)
 rw [Zbh (x:=x-y) (by omega) (by omega),ZbJ (by omega),ZQ,Zbh (by omega) (by omega),ZbJ (by omega),ZQ,Zjs (by omega)]
theorem Zoq (hN:2000<=N)(hp:Zd6 p=true){r:List (Zai×Bool)}{m:List (Zai×Bool)}(hm:MOK p m){i j:Nat}{x y:Int}(hi:offB p i x=true)(hj:offB p j y=true)(hij:i=j->x=y) :
  ∃ m',Zbq N (p,r) m i x j y=some (m',Zdj p i x j y)/\MOK p m':=by
 have h:=VP.of hp
 obtain ⟨i0,i1,x0,x1⟩:=Zdv.1 hi
 obtain ⟨j0,j1,y0,y1⟩:=Zdv.1 hj
 have xl:=Zh7 h hi;have yl:=Zh7 h hj
 have hpi:p.Periods.getD i 0∈p.Periods:=by rw [ZbG (by omega)];exact List.getElem_mem _
 have hpj:p.Periods.getD j 0∈p.Periods:=by rw [ZbG (by omega)];exact List.getElem_mem _
 have pi:=h.per _ hpi;have pj:=h.per _ hpj
 simp only [Zk] at x1 y1
 obtain ⟨q,hq⟩:∃ q,q=(x-y)%p.Periods.getD i 0:=⟨_,rfl⟩
 have q0:0<=q:=by rw [hq];exact Int.emod_nonneg _ (by omega)
 have q1:q<p.Periods.getD i 0:=by rw [hq];exact Int.emod_lt_of_pos _ (by omega)
 have ec:Zea p i q j 0=(Zdj p i x j y,0):=by
  unfold Zea
  have ea:argB p i q j 0=true:=by
   unfold argB
   have o1:offB p i q=true:=Zdv.2 ⟨by omega,by omega,q0,by rw [Zk];exact q1⟩
   have o2:offB p j 0=true:=Zdv.2 ⟨by omega,by omega,by omega,by rw [Zk];omega⟩
   rw [o1,o2]
   by_cases e:i=j
   ·have:=hij e
    have hz:q=0:=by rw [hq,this];simp
    simp [hz]
   have:¬ ((i:Int)=(j:Int)):=by omega
   simp [this]
  rw [ZY hp,ZY ea]
  congr 1
  have:=Zlv h i j x y (-y)
  rw [show y + -y=0 by omega,Int.zero_emod,show x + -y=x-y by omega,← hq] at this
  exact this
 unfold Zbq
 simp only
 rw [show idx p.Periods ((i:Nat):Int)=some (p.Periods.getD i 0) by rw [ZbQ (by omega),ZbG (by omega)],ZQ,Zkz pi.1 (by omega) x0 (by omega) y0 (by omega),ZQ,← hq]
 cases hg:ZeM m (Zai.mk i q j) with
 | some b =>
  have hb:=hm _ _ hg
  simp only [ec] at hb
  refine ⟨m,?_,hm⟩
  unfold mhas Znq
  rw [hg]
  simp [hb]
 | none =>
  refine ⟨ZfT m (Zai.mk i q j) (Zea p i q j 0).1,?_,hm.set (Zai.mk i q j)⟩
  unfold mhas
  rw [hg,ZY (by simp),Zhp hN,ec]
  rfl
end
end Go.Sh

namespace Go.Sh
open Go Go.Eng
section
variable {N:Nat} {p:Z4}
def AOK (p:Z4)(g:Z6):Prop:=∀ k:Nat,k<p.Periods.length->g.l.getD k 0 = -1∨offB p k (g.l.getD k 0)=true
theorem ZdG (g:Z6){k:Nat}(h:k<12):g.get (k:Int)=some (g.l.getD k 0):=by
 have hl:g.l.length=12:=rfl
 unfold Z6.get
 rw [ZbQ (by omega),ZbG (by omega)]
theorem Ziy (g:Z6)(k j:Nat)(x:Int)(h:k<12):(g.set k x).l.getD j 0=if j=k then x else g.l.getD j 0:=by
 have hl:g.l.length=12:=rfl
 rw [Z6.l_set,Zk]
 simp only [Zq,Zz]
 by_cases e:k=j
 ·subst e
  rw [ZY rfl,ZY (by omega),ZY rfl]
  rfl
 rw [ZX e,ZX (Ne.symm e)]
theorem AOK.set {g:Z6}(h:AOK p g)(hP:p.Periods.length<=12){s:Nat}(hs:s<p.Periods.length){x:Int}(hx:offB p s x=true):AOK p (g.set s x):=λk hk=>by
 rw [Ziy g s k x (by omega)]
 by_cases e:k=s
 ·subst e;rw [ZY rfl];exact .inr hx
 rw [ZX e];exact h k hk
def othO (g:Z6)(s b:Nat)(x:Int):Int:=if b=s then x else g.l.getD b 0
def refB (p:Z4)(s:Nat)(g:Z6)(a:Zav):Bool :=
 (decide (a.By.toNat=s) || !(g.l.getD a.By.toNat 0 == -1))&&allB (a.To-a.From).toNat λk=>Zdj p s (a.From+k) a.By.toNat (othO g s a.By.toNat (a.From+k))
structure ZnW (p:Z4) (s:Nat) (a:Zav):Prop where
 f0:0<=a.From
 lt:a.From<a.To
 le:a.To<=p.Periods.getD s 0
theorem ZjU {s:Nat}{a:Zav}(ha:ZnW p s a)(hs:s<p.Periods.length){k:Nat}(hk:k<(a.To-a.From).toNat):offB p s (a.From+k)=true:=by
 have:=ha.f0;have:=ha.lt;have:=ha.le
 exact Zdv.2 ⟨by omega,by omega,by omega,by rw [Zk];omega⟩
theorem Zhm (hN:2000<=N)(hp:Zd6 p=true){r m:List (Zai×Bool)}(hm:MOK p m){s:Nat}(hs:s<p.Periods.length){a:Zav}(ha:ZnW p s a)(b0:0<=a.By)(b1:a.By<(p.Periods.length:Int)){g:Z6}(hg:AOK p g) :
  ∃ m',Zc8 N (λ(s:(List (Zai×Bool))) (x2578:Int) (x2579:Int) (x2580:Int) (x2581:Int)=>Zbq N (p,r) s x2578 x2579 x2580 x2581) (s:Int) g a m=some (m',refB p s g a)/\MOK p m':=by
 have h:=VP.of hp
 have hP:=h.len
 obtain ⟨b,hb⟩:∃ b:Nat,a.By=b:=⟨a.By.toNat,by omega⟩
 have f0:=ha.f0;have lt:=ha.lt;have le:=ha.le
 have hps:p.Periods.getD s 0∈p.Periods:=by rw [ZbG hs];exact List.getElem_mem _
 have ps:=h.per _ hps
 have hbn:a.By.toNat=b:=by omega
 unfold Zc8 refB
 rw [hbn]
 by_cases none1:a.By≠s/\g.l.getD b 0 = -1
 ·have e1:(decide (b=s) || !(g.l.getD b 0 == -1))=false:=by
   rw [decide_eq_false (by omega),none1.2];rfl
  rw [e1,Bool.false_and]
  refine ⟨m,?_,hm⟩
  rw [ZY (by simpa using none1.1),hb,ZdG g (by omega),ZQ,none1.2]
  rfl
 have e1:(decide (b=s) || !(g.l.getD b 0 == -1))=true:=by
  by_cases q:b=s
  ·simp [q]
  have:¬ g.l.getD b 0 = -1:=λe=>none1 ⟨by omega,e⟩
  rw [beq_eq_false_iff_ne.2 this];simp
 rw [e1,Zi]
 have e2:(if (a.By != (s:Int))=true then ((g.get a.By).bind λe2=>(some (e2==(-1)))) else (some false))=some false:=by
  by_cases q:a.By=s
  ·rw [ZX (by simpa using q)]
  rw [ZY (by simpa using q),hb,ZdG g (by omega),ZQ]
  have:¬ g.l.getD b 0 = -1:=λe=>none1 ⟨q,e⟩
  rw [beq_eq_false_iff_ne.2 this]
 rw [e2,ZQ,ZX (by simp)]
 obtain ⟨n,hn⟩:∃ n,n=(a.To-a.From).toNat:=⟨_,rfl⟩
 rw [← hn]
 obtain ⟨o,ho,eo⟩:=ZcJ (body:=λx:Int×(List (Zai×Bool))=>ZbH N (λ(s:(List (Zai×Bool))) (x2578:Int) (x2579:Int) (x2580:Int) (x2581:Int)=>Zbq N (p,r) s x2578 x2579 x2580 x2581) (s:Int) g a x.1 x.2)
  (λx=>∃ k:Nat,x.1=a.From+k/\k<=n/\MOK p x.2/\allB k (λk=>Zdj p s (a.From+k) b (othO g s b (a.From+k)))=true) (λx=>(a.To-x.1).toNat)
  (λo=>∃ m',MOK p m'/\((o=.inl m'/\allB n (λk=>Zdj p s (a.From+k) b (othO g s b (a.From+k)))=true)∨(o=.inr (m',false)/\allB n (λk=>Zdj p s (a.From+k) b (othO g s b (a.From+k)))=false))) (λx hx=>by
   obtain ⟨i,m1⟩:=x
   obtain ⟨k,k1,k2,k3,k4⟩:=hx
   simp only at k1 k3
   subst k1
   simp only [ZbH]
   by_cases c:k<n
   ·rw [ZY (by simp;omega),hb,ZdG g (by omega),ZQ]
    have hx:=ZjU ha hs (k:=k) (by omega)
    have ej:(if ((b:Int)==(s:Int))=true then (some (a.From+(k:Int))) else (some (g.l.getD b 0)))=some (othO g s b (a.From+k)):=by
     unfold othO
     by_cases q:b=s
     ·rw [ZY (by rw [beq_iff_eq];omega),ZY q]
     rw [ZX (by rw [beq_iff_eq];omega),ZX q]
    rw [ej,ZQ]
    have hy:offB p b (othO g s b (a.From+k))=true:=by
     unfold othO
     by_cases q:b=s
     ·rw [ZY q,q];exact hx
     rw [ZX q]
     rcases hg b (by omega) with e|e
     ·exact absurd ⟨by omega,e⟩ none1
     exact e
    obtain ⟨m2,hm2,hk2⟩:=Zoq (N:=N) hN hp (r:=r) k3 hx hy (λe=>by unfold othO;rw [ZY e.symm])
    rw [hm2,ZQ]
    cases hme:Zdj p s (a.From+k) b (othO g s b (a.From+k)) with
    | true =>
     left
     refine ⟨(a.From+((k+1:Nat):Int),m2),?_,⟨k+1,rfl,by omega,hk2,by rw [Zla,k4,hme];rfl⟩,by simp only;omega⟩
     rw [ZX (by simp),Zbh (by omega) (by omega)]
     congr 3
     omega
    | false =>
     right
     refine ⟨_,by rw [ZY (by simp)],m2,hk2,.inr ⟨rfl,?_⟩⟩
     cases hq:allB n (λk=>Zdj p s (a.From+k) b (othO g s b (a.From+k))) with
     | false=>rfl
     | true=>have:=ZeR.1 hq k c;rw [hme] at this;cases this
   right
   obtain rfl:k=n:=by omega
   exact ⟨.inl m1,by rw [ZX (by simp;omega)],m1,k3,.inl ⟨rfl,k4⟩⟩) N (a.From,m) ⟨0,by simp,by omega,hm,by simp [allB]⟩ (by simp only;omega)
 obtain ⟨m',hm',h1|h1⟩:=eo
 ·obtain ⟨rfl,h2⟩:=h1
  exact ⟨m',by rw [ho,ZQ,h2],hm'⟩
 obtain ⟨rfl,h2⟩:=h1
 exact ⟨m',by rw [ho,ZQ,h2],hm'⟩
end
end Go.Sh

namespace Go.Sh
open Go Go.Eng
section
variable {N:Nat} {p:Z4}
theorem ZjH (hN:2000<=N)(hp:Zd6 p=true){s:Nat}(hs:s<p.Periods.length){e1:Z3}(hst:e1.Stream=s){a:Zav}(ha:ZnW p s a)(b0:0<=a.By)(b1:a.By<(p.Periods.length:Int)){g:Z6}(hg:AOK p g) :
  ZaQ (λx:Int=>Zbp N p g e1 a x) N a.From=some (if refB p s g a=true then .inl () else .inr false):=by
 have h:=VP.of hp
 have hP:=h.len
 obtain ⟨b,hb⟩:∃ b:Nat,a.By=b:=⟨a.By.toNat,by omega⟩
 have f0:=ha.f0;have lt:=ha.lt;have le:=ha.le
 have hps:p.Periods.getD s 0∈p.Periods:=by rw [ZbG hs];exact List.getElem_mem _
 have ps:=h.per _ hps
 have hbn:a.By.toNat=b:=by omega
 obtain ⟨n,hn⟩:∃ n,n=(a.To-a.From).toNat:=⟨_,rfl⟩
 have hget:g.get a.By=some (g.l.getD b 0):=by rw [hb,ZdG g (by omega)]
 have ej:∀ i:Int,(if (a.By==e1.Stream)=true then (some i) else (some (g.l.getD b 0)))=some (othO g s b i):=λi=>by
  unfold othO
  by_cases q:b=s
  ·rw [ZY (by rw [beq_iff_eq];omega),ZY q]
  rw [ZX (by rw [beq_iff_eq];omega),ZX q]
 by_cases none1:a.By≠s/\g.l.getD b 0 = -1
 ·have e2:refB p s g a=false:=by
   unfold refB
   rw [hbn,decide_eq_false (by omega),none1.2];rfl
  rw [e2,ZX (by simp)]
  obtain ⟨N',rfl⟩:∃ N',N=N'+1:=⟨N-1,by omega⟩
  refine Za5 ?_
  simp only [Zbp]
  have eo:othO g s b a.From = -1:=by unfold othO;rw [ZX (by omega),none1.2]
  rw [ZY (by simp only [Ze,ZV];omega),hget,ZQ,ej,ZQ,eo,ZY (by decide),ZQ,ZY rfl]
 have e1':(decide (b=s) || !(g.l.getD b 0 == -1))=true:=by
  by_cases q:b=s
  ·simp [q]
  have:¬ g.l.getD b 0 = -1:=λe=>none1 ⟨by omega,e⟩
  rw [beq_eq_false_iff_ne.2 this];simp
 have er:refB p s g a=allB n (λk=>Zdj p s (a.From+k) b (othO g s b (a.From+k))):=by
  unfold refB
  rw [hbn,e1',Zi,hn]
 rw [er]
 obtain ⟨o,ho,eo⟩:=ZcJ (body:=λx:Int=>Zbp N p g e1 a x)
  (λx=>∃ k:Nat,x=a.From+k/\k<=n/\allB k (λk=>Zdj p s (a.From+k) b (othO g s b (a.From+k)))=true) (λx=>(a.To-x).toNat)
  (λo=>o=if allB n (λk=>Zdj p s (a.From+k) b (othO g s b (a.From+k)))=true then .inl () else .inr false) (λx hx=>by
   obtain ⟨k,rfl,k2,k4⟩:=hx
   simp only [Zbp]
   by_cases c:k<n
   ·rw [ZY (by simp only [Ze,ZV];omega),hget,ZQ,ej,ZQ]
    have hx:=ZjU ha hs (k:=k) (by omega)
    have hy:offB p b (othO g s b (a.From+k))=true:=by
     unfold othO
     by_cases q:b=s
     ·rw [ZY q,q];exact hx
     rw [ZX q]
     rcases hg b (by omega) with e|e
     ·exact absurd ⟨by omega,e⟩ none1
     exact e
    have xl:=Zh7 h hx;have yl:=Zh7 h hy
    rw [ZX (by rw [ZV];omega),hst,hb,ZfG hN h (by omega) (by omega) (by omega) (by omega),ZQ,ZQ]
    cases hme:Zdj p s (a.From+k) b (othO g s b (a.From+k)) with
    | true =>
     left
     refine ⟨a.From+((k+1:Nat):Int),?_,⟨k+1,rfl,by omega,by rw [Zla,k4,hme];rfl⟩,by omega⟩
     rw [ZX (by simp),Zbh (by omega) (by omega)]
     congr 2
     omega
    | false =>
     right
     refine ⟨_,by rw [ZY (by simp)],?_⟩
     cases hq:allB n (λk=>Zdj p s (a.From+k) b (othO g s b (a.From+k))) with
     | false=>rfl
     | true=>have:=ZeR.1 hq k c;rw [hme] at this;cases this
   right
   obtain rfl:k=n:=by omega
   exact ⟨.inl (),by rw [ZX (by simp only [Ze,ZV];omega)],by rw [k4,ZY rfl]⟩) N a.From ⟨0,by simp,by omega,by simp [allB]⟩ (by omega)
 rw [ho,eo]
end
end Go.Sh

namespace Go.Sh
open Go Go.Eng
section
variable {N:Nat} {p:Z4} {f:List Z3}
theorem ZfK {nP len c per:Int}{l:List Zav}:∀ {k:Nat} {e:Int},upF (Zdt nP len c per l) k 0=some e->0<=e
 | 0,e,h=>by simp only [upF,ZS] at h;omega
 | k+1,e,h=>by
  simp only [upF] at h
  obtain ⟨s,h1,h2⟩:=bind_some h
  have:=ZfK h1
  unfold Zdt at h2
  obtain ⟨a,h3,h4⟩:=bind_some h2
  by_cases q:Zgm nP len c per s a=true
  ·rw [ZY q,ZS] at h4
   obtain ⟨a1,a2,_⟩:=ZeE q
   omega
  rw [ZX q] at h4;cases h4
theorem Zk7 {c:Nat}(h:Zbv p f c=true):∃ (hc:c<f.length) (s:Nat),f[c].Stream=s/\s<p.Periods.length/\∀ a∈f[c].Arms,ZnW p s a/\Zcq p.Periods.length f.length c a=true:=by
 obtain ⟨hc,h0,h1,h2⟩:=ZgC h
 refine ⟨hc,f[c].Stream.toNat,by omega,by omega,λa ha=>?_⟩
 have hr:=Ziz h2 a ha
 refine ⟨?_,hr⟩
 obtain ⟨k,hk,rfl⟩:=List.getElem_of_mem ha
 unfold Zhq at h2
 cases hu:upF (Zdt p.Periods.length f.length c (p.Periods.getD f[c].Stream.toNat 0) f[c].Arms) f[c].Arms.length 0 with
 | none=>rw [hu] at h2;cases h2
 | some s =>
  obtain ⟨s1,s2,h3,h4⟩:=Zlj hu k hk
  have:=ZfK h3
  unfold Zdt at h4
  rw [Zw hk,ZQ] at h4
  by_cases q:Zgm p.Periods.length f.length c (p.Periods.getD f[c].Stream.toNat 0) s1 f[c].Arms[k]=true
  ·obtain ⟨a1,a2,a3,_⟩:=ZeE q
   exact ⟨by omega,a2,a3⟩
  rw [ZX q] at h4;cases h4
def armH (p:Z4)(s:Nat)(g:Z6)(rec_:Nat->Z6->Bool)(a:Zav):Bool :=
 if a.By = -1 then rec_ a.Next.toNat (g.set s a.From) else if 0<=a.By then refB p s g a else true
def hB (p:Z4)(f:List Z3):Nat->Nat->Z6->Bool
 | 0,_,_=>false
 | n+1,c,g=>match f[c]? with
  | none=>false
  | some x=>(g.l.getD x.Stream.toNat 0 == -1)&&x.Arms.all (armH p x.Stream.toNat g (hB p f n))
theorem Zhs (hp:Zd6 p=true)(hall:∀ c,c<f.length->Zbv p f c=true){M:Nat}(hM:2000<=M)(ha:∀ x∈f,x.Arms.length<1000000/\x.Arms.length<M) :
  ∀ (n N c:Nat) (g:Z6),c<f.length->f.length-c<=n->M+n<=N->AOK p g->Zdp N p f c g=some (hB p f n c g)
 | 0,_,c,_,h1,h2,_,_=>by omega
 | n+1,0,c,g,h1,h2,h3,hg=>by omega
 | n+1,N+1,c,g,h1,h2,h3,hg=>by
  have hP:=(VP.of hp).len
  obtain ⟨hc,s,hs,hsl,harm⟩:=Zk7 (hall c h1)
  have hb:=ha _ (List.getElem_mem hc)
  have hst:f[c].Stream.toNat=s:=by omega
  show Zc6 N (Zdp N) p f (c:Int) g=_
  unfold Zc6 hB
  rw [Zw hc]
  simp only
  rw [ZbQ hc,ZQ,hs,ZdG g (by omega),ZQ,Zk]
  by_cases hz:g.l.getD s 0 = -1
  ·rw [ZX (by rw [ZV];omega),beq_iff_eq.2 hz,Zi]
   rw [ZdY (l:=f[c].Arms) (p:=armH p s g (hB p f n)) (bad:=.inr false) (fin:=.inl ()) (λk hk=>?_) (by simp [Zcg,ZbQ hc]) (by omega),ZQ]
   ·cases f[c].Arms.all (armH p s g (hB p f n))<;>rfl
   obtain ⟨hok,hre⟩:=harm _ (List.getElem_mem hk)
   have f0:=hok.f0;have lt:=hok.lt;have le:=hok.le
   simp only [Zcg]
   rw [ZbQ hc,ZQ,ZY (by simpa using hk),ZQ,ZbQ hk,ZQ,ZaX (by omega)]
   unfold armH
   by_cases b:f[c].Arms[k].By = -1
   ·rw [ZY (by simpa using b),ZY b,hs,ZdG g (by omega),ZQ]
    unfold Zcq at hre
    rw [ZY b,ZV] at hre
    have hset:AOK p (g.set s f[c].Arms[k].From):=hg.set hP hsl (by have:=ZjU hok hsl (k:=0) (by omega);simpa using this)
    have hi:=Zhs hp hall hM ha n N f[c].Arms[k].Next.toNat (g.set s f[c].Arms[k].From) (by omega) (by omega) (by omega) hset
    rw [Zl (by omega)] at hi
    rw [hi,ZQ]
    cases hB p f n f[c].Arms[k].Next.toNat (g.set s f[c].Arms[k].From)<;>rfl
   rw [ZX (by simpa using b),ZX b]
   by_cases b2:0<=f[c].Arms[k].By
   ·have b3:f[c].Arms[k].By<(p.Periods.length:Int):=by
     unfold Zcq at hre
     rw [ZX b] at hre
     by_cases q:f[c].Arms[k].Next=0
     ·rw [ZY q,ZX (by omega),ZV] at hre;exact hre.2
     rw [ZX q] at hre;cases hre
    rw [ZY b2,ZjH (by omega) hp hsl hs hok b2 b3 hg,ZQ]
    cases refB p s g f[c].Arms[k]<;>rfl
   rw [ZX b2]
   obtain ⟨N',rfl⟩:∃ N',N=N'+1:=⟨N-1,by omega⟩
   rw [Za5 (r:=.inl ()) (by simp only [Zbp];rw [ZX (by simp only [Ze,ZV];omega)]),ZQ]
   rfl
  rw [beq_eq_false_iff_ne.2 hz,Bool.false_and,ZY ?_]
  rw [ZV]
  rcases hg s hsl with e|e
  ·exact absurd e hz
  have:=Zh7 (VP.of hp) e
  omega
end
end Go.Sh

namespace Go.Sh
open Go Go.Eng
section
variable {N:Nat} {p:Z4} {f:List Z3}
def rOK (p:Z4)(s:Nat)(g:Z6)(a:Zav):Bool:=if a.By = -1 then true else if 0<=a.By then refB p s g a else true
def kids (s:Nat)(g:Z6)(as:List Zav):List Zah:=(as.filter λa=>a.By == -1).map λa=>⟨a.Next,g.set s a.From⟩
theorem Zj0 (s:Nat)(g:Z6)(as:List Zav):(kids s g as).length<=as.length:=by
 unfold kids
 rw [ZE]
 exact List.length_filter_le _ _
theorem ZkR (s:Nat)(g:Z6)(as:List Zav)(a:Zav):kids s g (as++[a])=kids s g as++(if a.By = -1 then [⟨a.Next,g.set s a.From⟩] else []):=by
 unfold kids
 rw [List.filter_append,ZI]
 congr 1
 by_cases h:a.By = -1
 ·rw [ZY h];simp [List.filter,h]
 rw [ZX h];simp [List.filter,beq_eq_false_iff_ne.2 h]
theorem ZnN (hN:2000<=N)(hp:Zd6 p=true){r m:List (Zai×Bool)}(hm:MOK p m){s:Nat}(hs:s<p.Periods.length){t:Zah}(hg:AOK p t.given){x:Z3}(hst:x.Stream=s){nP len c:Int}(hnP:nP=p.Periods.length)
  (harm:∀ a∈x.Arms,ZnW p s a/\Zcq nP len c a=true) {l:List Zah} (hl:l.length<=100000000) (hA:x.Arms.length<1000000) (hAN:x.Arms.length<N) :
  ∃ m',MOK p m'/\ZaQ (λy:Int×(List Zah)×(List (Zai×Bool))=>ZbN N (p,r) t x x y.1 y.2.1 y.2.2) N (0,l,m)=some (if x.Arms.all (rOK p s t.given)=true then .inl (l++kids s t.given x.Arms,m') else .inr false):=by
 have hP:=(VP.of hp).len
 obtain ⟨o,ho,m',hm',eo⟩:=ZcJ (body:=λy:Int×(List Zah)×(List (Zai×Bool))=>ZbN N (p,r) t x x y.1 y.2.1 y.2.2)
  (λy=>∃ k:Nat,y.1=k/\k<=x.Arms.length/\y.2.1=l++kids s t.given (x.Arms.take k)/\MOK p y.2.2/\(x.Arms.take k).all (rOK p s t.given)=true) (λy=>(x.Arms.length-y.1).toNat)
  (λo=>∃ m',MOK p m'/\o=if x.Arms.all (rOK p s t.given)=true then .inl (l++kids s t.given x.Arms,m') else .inr false) (λy hy=>by
   obtain ⟨i,l1,m1⟩:=y
   obtain ⟨k,k1,k2,k3,k4,k5⟩:=hy
   simp only at k1 k3 k4
   subst k1 k3
   simp only [ZbN]
   by_cases c1:k<x.Arms.length
   ·obtain ⟨hok,hre⟩:=harm _ (List.getElem_mem c1)
    have hkl:=Zj0 s t.given (x.Arms.take k)
    rw [ZH] at hkl
    have etake:x.Arms.take (k+1)=x.Arms.take k++[x.Arms[k]]:=List.take_succ_eq_append_getElem c1
    rw [ZY (by simpa using c1),ZbQ c1,ZQ,ZaX (by omega)]
    by_cases b:x.Arms[k].By = -1
    ·left
     refine ⟨(((k+1:Nat):Int),l++kids s t.given (x.Arms.take (k+1)),m1),?_,⟨k+1,rfl,by omega,rfl,k4,?_⟩,by simp;omega⟩
     ·rw [ZY (by simpa using b),hst,ZdG _ (by omega),ZQ]
      simp only [ZcP]
      have ha:appI 104 (l++kids s t.given (x.Arms.take k)) [Zah.mk x.Arms[k].Next (t.given.set s x.Arms[k].From)]=some (l++kids s t.given (x.Arms.take k)++[Zah.mk x.Arms[k].Next (t.given.set s x.Arms[k].From)]):=by
       unfold appI
       rw [ZY (by simp only [ZC,ZD,List.length_nil];omega)]
      rw [ha,ZQ,ZQ,etake,ZkR,ZY b,Zn]
     rw [etake,List.all_append,k5,Zi]
     simp [rOK,b]
    have hre2:=hre
    unfold Zcq at hre2
    rw [ZX b] at hre2
    rw [ZX (by simpa using b)]
    have ek:kids s t.given (x.Arms.take (k+1))=kids s t.given (x.Arms.take k):=by rw [etake,ZkR,ZX b,List.append_nil]
    by_cases b2:0<=x.Arms[k].By
    ·have b3:x.Arms[k].By<(p.Periods.length:Int):=by
      by_cases q:x.Arms[k].Next=0
      ·rw [ZY q,ZX (by omega),ZV] at hre2;omega
      rw [ZX q] at hre2;cases hre2
     obtain ⟨m2,hm2,hk2⟩:=Zhm (N:=N) hN hp (r:=r) k4 hs hok b2 b3 hg
     rw [ZY (by simpa using b2),hst,hm2,ZQ,ZQ]
     have er:rOK p s t.given x.Arms[k]=refB p s t.given x.Arms[k]:=by unfold rOK;rw [ZX b,ZY b2]
     cases hr:refB p s t.given x.Arms[k] with
     | true =>
      left
      refine ⟨(((k+1:Nat):Int),l++kids s t.given (x.Arms.take (k+1)),m2),?_,⟨k+1,rfl,by omega,rfl,hk2,?_⟩,by simp;omega⟩
      ·rw [ZX (by simp),ek]
      rw [etake,List.all_append,k5,Zi,List.all_cons,er,hr];rfl
     | false =>
      right
      refine ⟨_,by rw [ZY (by simp)],m2,hk2,?_⟩
      rw [ZX]
      rw [Zm]
      intro hq
      have:=hq _ (List.getElem_mem c1)
      rw [er,hr] at this
      cases this
    rw [ZX (by simpa using b2),ZQ]
    left
    refine ⟨(((k+1:Nat):Int),l++kids s t.given (x.Arms.take (k+1)),m1),?_,⟨k+1,rfl,by omega,rfl,k4,?_⟩,by simp;omega⟩
    ·rw [ZX (by simp),ek]
    rw [etake,List.all_append,k5,Zi]
    simp [rOK,b,b2]
   right
   obtain rfl:k=x.Arms.length:=by omega
   rw [List.take_length] at k5 ⊢
   exact ⟨_,by rw [ZX (by simp)],m1,k4,by rw [ZY k5]⟩) N (0,l,m) ⟨0,rfl,by omega,by simp [kids],hm,by simp⟩ (by simp;omega)
 exact ⟨m',hm',by rw [ho,eo]⟩
end
end Go.Sh

namespace Go.Sh
open Go Go.Eng
theorem Zjb {q q':Nat->Bool}{s:Nat}(h0:q s=false)(h1:q' s=true)(h:∀ k,k≠s->q' k=q k):∀ n,(List.range n).countP q'=(List.range n).countP q+(if s<n then 1 else 0)
 | 0=>by simp
 | n+1=>by
  rw [List.range_succ,List.countP_append,List.countP_append,Zjb h0 h1 h n]
  by_cases e:n=s
  ·subst e
   simp [h0,h1]
  have:q' n=q n:=h n e
  simp only [List.countP_cons,List.countP_nil,this]
  by_cases c:s<n
  ·have c2:s<n+1:=by omega
   simp only [c,c2,ZZ];omega
  have c2:¬ s<n+1:=by omega
  simp only [c,c2,ZW];omega
section
variable {N:Nat} {p:Z4} {f:List Z3}
def dep (p:Z4)(g:Z6):Nat:=(List.range p.Periods.length).countP λk=>g.l.getD k 0 != -1
theorem ZoH (g:Z6):dep p g<=p.Periods.length:=by
 unfold dep
 have:=List.countP_le_length (p:=λk=>g.l.getD k 0 != -1) (l:=List.range p.Periods.length)
 simpa using this
theorem Zo6 {g:Z6}(hP:p.Periods.length<=12){s:Nat}(hs:s<p.Periods.length)(h0:g.l.getD s 0 = -1){x:Int}(hx:x ≠ -1):dep p (g.set s x)=dep p g+1:=by
 unfold dep
 rw [Zjb (q:=λk=>g.l.getD k 0 != -1) (q':=λk=>(g.set s x).l.getD k 0 != -1) (s:=s) (by rw [h0];rfl) (by rw [Ziy g s s x (by omega),ZY rfl,bne_iff_ne];exact hx) (λk hk=>by rw [Ziy g s k x (by omega),ZX hk]),ZY hs]
def SI (p:Z4)(A:Nat):Nat->List Zah->Prop
 | 0,l=>l.length<=A/\∀ t∈l,dep p t.given=0
 | d+1,l=>∃ l1 B,l=l1++B/\SI p A d l1/\B.length<=A/\∀ t∈B,dep p t.given=d+1
theorem SI.len {A:Nat}:∀ {d:Nat} {l:List Zah},SI p A d l->l.length<=A*(d+1)
 | 0,l,h=>by rw [Nat.mul_one];exact h.1
 | d+1,l,h=>by
  obtain ⟨l1,B,rfl,h1,h2,_⟩:=h
  have:=SI.len h1
  rw [ZC,Nat.mul_add A (d+1) 1]
  omega
theorem SI.pop {A:Nat}{t:Zah}:∀ {d:Nat} {l:List Zah},SI p A d (l++[t])->SI p A (dep p t.given) l
 | 0,l,h=>by
  obtain ⟨h1,h2⟩:=h
  rw [h2 t (by simp)]
  exact ⟨by rw [ZC] at h1;omega,λu hu=>h2 u (by simp [hu])⟩
 | d+1,l,h=>by
  obtain ⟨l1,B,e,h1,h2,h3⟩:=h
  rcases List.eq_nil_or_concat B with rfl|⟨B',u,rfl⟩
  ·rw [List.append_nil] at e
   subst e
   exact SI.pop h1
  rw [List.concat_eq_append,← Zn] at e
  obtain ⟨rfl,e2⟩:=List.append_inj' e rfl
  cases e2
  rw [h3 t (by simp)]
  exact ⟨l1,B',rfl,h1,by rw [List.concat_eq_append,ZC] at h2;omega,λu hu=>h3 u (by simp [hu])⟩
theorem Zo2 (hp:Zd6 p=true)(hall:∀ c,c<f.length->Zbv p f c=true){A:Nat}(ha:∀ x∈f,x.Arms.length<=A)(hA:A<1000000){n m c:Nat}{g:Z6}(hc:c<f.length)(h1:f.length-c<=n)(h2:f.length-c<=m)(hg:AOK p g):hB p f n c g=hB p f m c g:=by
 have a1:=Zhs hp hall (M:=2000+A+1) (by omega) (λx hx=>by have:=ha x hx;omega) n (2000+A+1+n+m) c g hc h1 (by omega) hg
 have a2:=Zhs hp hall (M:=2000+A+1) (by omega) (λx hx=>by have:=ha x hx;omega) m (2000+A+1+n+m) c g hc h2 (by omega) hg
 rw [a1] at a2
 exact Option.some.inj a2
theorem Zmi (s:Nat)(g:Z6)(R:Nat->Z6->Bool):∀ as:List Zav,as.all (armH p s g R)=(as.all (rOK p s g)&&(kids s g as).all λt=>R t.choice.toNat t.given)
 | []=>rfl
 | a::as=>by
  rw [List.all_cons,List.all_cons,Zmi s g R as]
  unfold kids
  by_cases h:a.By = -1
  ·rw [List.filter_cons_of_pos (by simpa using h),ZJ,List.all_cons]
   have e1:armH p s g R a=R a.Next.toNat (g.set s a.From):=by unfold armH;rw [ZY h]
   have e2:rOK p s g a=true:=by unfold rOK;rw [ZY h]
   rw [e1,e2,Zi]
   cases R a.Next.toNat (g.set s a.From)<;>simp
  rw [List.filter_cons_of_neg (by simpa using h)]
  have e1:armH p s g R a=rOK p s g a:=by unfold armH rOK;rw [ZX h,ZX h]
  rw [e1,Bool.and_assoc]
def wt (p:Z4)(A:Nat)(t:Zah):Nat:=(A+1) ^ (13-dep p t.given)
def wts (p:Z4)(A:Nat)(l:List Zah):Nat:=(l.map (wt p A)).sum
theorem ZmT (A:Nat)(a b:List Zah):wts p A (a++b)=wts p A a+wts p A b:=by simp [wts]
theorem Zoy {A W:Nat}:∀ {l:List Zah},(∀ t∈l,wt p A t=W)->wts p A l=l.length*W
 | [],_=>by simp [wts]
 | t::l,h=>by
  have:=Zoy (l:=l) λu hu=>h u (by simp [hu])
  unfold wts at this ⊢
  rw [ZJ,List.sum_cons,this,h t (by simp),ZD,ZO]
  omega
structure TOK (p:Z4) (f:List Z3) (t:Zah):Prop where
 c0:0<=t.choice
 c1:t.choice<(f.length:Int)
 g:AOK p t.given
def Zjt (p:Z4)(f:List Z3)(t:Zah):Bool:=hB p f f.length t.choice.toNat t.given
theorem Zmp (hp:Zd6 p=true)(hall:∀ c,c<f.length->Zbv p f c=true){A:Nat}(hA1:1<=A)(ha:∀ x∈f,x.Arms.length<=A)(hA:A<1000000){r:List (Zai×Bool)}{t0:Zah}(ht0:TOK p f t0)(hd0:dep p t0.given=0)
  (hN:2000+A<N) (hN2:(A+1) ^ 13<N) :
  ZaQ (λx:(List Zah)×(List (Zai×Bool))=>ZbO N f (p,r) x.1 x.2) N ([t0],[])=some (if Zjt p f t0=true then .inl () else .inr false):=by
 have hP:=(VP.of hp).len
 obtain ⟨o,ho,eo⟩:=ZcJ (body:=λx:(List Zah)×(List (Zai×Bool))=>ZbO N f (p,r) x.1 x.2)
  (λx=>MOK p x.2/\(∀ t∈x.1,TOK p f t)/\(∃ d,d<=12/\SI p A d x.1)/\x.1.all (Zjt p f)=Zjt p f t0) (λx=>wts p A x.1)
  (λo=>o=if Zjt p f t0=true then .inl () else .inr false) (λx hx=>by
   obtain ⟨l,m⟩:=x
   obtain ⟨h1,h2,⟨d,hd,h3⟩,h4⟩:=hx
   simp only at h1 h2 h3 h4
   simp only [ZbO]
   rcases List.eq_nil_or_concat l with rfl|⟨l0,t,rfl⟩
   ·right
    exact ⟨_,by rw [ZX (by simp)],by rw [← h4];rfl⟩
   ·rw [List.concat_eq_append] at h2 h3 h4 ⊢
    have ht:=h2 t (by simp)
    obtain ⟨c,hc⟩:∃ c:Nat,t.choice=c:=⟨t.choice.toNat,by have:=ht.c0;omega⟩
    have hcl:c<f.length:=by have:=ht.c1;omega
    obtain ⟨_,s,hs,hsl,harm⟩:=Zk7 (hall c hcl)
    have hb:=ha _ (List.getElem_mem hcl)
    have hlen:=h3.len
    have hlen2:A*(d+1)<=A*13:=Nat.mul_le_mul_left A (by omega)
    rw [ZC,ZD,List.length_nil] at hlen
    have e1:w64 (((List.length (l0++[t]):Nat):Int)-1)=(l0.length:Int):=by
     rw [ZC,ZD,List.length_nil,Zbh (by omega) (by omega)];omega
    have e2:idx (l0++[t]) ((l0.length:Nat):Int)=some t:=by rw [ZeN];simp
    have e3:popI (l0++[t]) ((l0.length:Nat):Int)=some l0:=by
     unfold popI
     rw [ZY (by simp;omega)]
     simp
    rw [ZY (by simp),e1,e2,ZQ,e3,ZQ,hc,ZbQ hcl,ZQ,hs,ZdG t.given (by omega),ZQ]
    have hstep:Zjt p f t=((t.given.l.getD s 0 == -1)&&f[c].Arms.all (armH p s t.given (hB p f f.length))):=by
     unfold Zjt
     rw [hc,Zk,Zo2 hp hall ha hA hcl (n:=f.length) (m:=f.length+1) (by omega) (by omega) ht.g]
     show (match f[c]? with
      | none=>false
      | some x=>(t.given.l.getD x.Stream.toNat 0 == -1)&&x.Arms.all (armH p x.Stream.toNat t.given (hB p f f.length)))=_
     rw [Zw hcl]
     simp only [hs,Zk]
    have hbad:Zjt p f t=false->Zjt p f t0=false:=λhf=>by
     rw [← h4,List.all_append]
     simp [hf]
    by_cases hz:t.given.l.getD s 0 = -1
    ·rw [ZX (by rw [hz];simp),ZQ]
     obtain ⟨m',hm',hloop⟩:=ZnN (N:=N) (by omega) hp (r:=r) h1 hsl ht.g hs rfl harm (l:=l0) (by omega) (by omega) (by omega)
     rw [hloop,ZQ]
     rw [Zmi,beq_iff_eq.2 hz,Zi] at hstep
     cases hr:f[c].Arms.all (rOK p s t.given) with
     | false =>
      right
      rw [hr,Bool.false_and] at hstep
      exact ⟨_,by rw [ZX (by simp)],by rw [hbad hstep,ZX (by simp)]⟩
     | true =>
      left
      rw [hr,Zi] at hstep
      have hkid:∀ u∈kids s t.given f[c].Arms,TOK p f u/\dep p u.given=dep p t.given+1:=λu hu=>by
       unfold kids at hu
       obtain ⟨a,haf,rfl⟩:=List.mem_map.1 hu
       obtain ⟨ha1,ha2⟩:=List.mem_filter.1 haf
       rw [beq_iff_eq] at ha2
       obtain ⟨hok,hre⟩:=harm a ha1
       unfold Zcq at hre
       rw [ZY ha2,ZV] at hre
       have hf0:=hok.f0
       have hlt:=hok.lt
       have ho:=ZjU hok hsl (k:=0) (by omega)
       exact ⟨⟨by simp only;omega,by simp only;omega,ht.g.set hP hsl (by simpa using ho)⟩,Zo6 hP hsl hz (by omega)⟩
      have hpop:=SI.pop h3
      have hdl:=ZoH (p:=p) t.given
      refine ⟨(l0++kids s t.given f[c].Arms,m'),by rw [ZY rfl],⟨hm',λu hu=>?_,?_,?_⟩,?_⟩
      ·rcases List.mem_append.1 hu with hu|hu
       ·exact h2 u (by simp [hu])
       exact (hkid u hu).1
      ·by_cases hk0:kids s t.given f[c].Arms=[]
       ·exact ⟨dep p t.given,by omega,by simp only;rw [hk0,List.append_nil];exact hpop⟩
       obtain ⟨u,hu⟩:=List.exists_mem_of_ne_nil _ hk0
       have:=ZoH (p:=p) u.given
       have:=(hkid u hu).2
       exact ⟨dep p t.given+1,by omega,l0,_,rfl,hpop,Nat.le_trans (Zj0 _ _ _) hb,λu hu=>(hkid u hu).2⟩
      ·rw [← h4]
       simp only [List.all_append,List.all_cons,List.all_nil,Bool.and_true]
       rw [hstep]
       rfl
      simp only
      rw [ZmT,ZmT]
      have w1:wts p A [t]=(A+1) ^ (13-dep p t.given):=by simp [wts,wt]
      have hdt:dep p t.given<=12:=by omega
      have w2:=Zoy (p:=p) (A:=A) (W:=(A+1) ^ (13-(dep p t.given+1))) (l:=kids s t.given f[c].Arms) (λu hu=>by unfold wt;rw [(hkid u hu).2])
      have w3:(A+1) ^ (13-dep p t.given)=(A+1) ^ (13-(dep p t.given+1))*(A+1):=by
       rw [← Nat.pow_succ]
       congr 1
       omega
      have w4:0<(A+1) ^ (13-(dep p t.given+1)):=Nat.pow_pos (by omega)
      have w5:=Nat.mul_le_mul_right ((A+1) ^ (13-(dep p t.given+1))) (Nat.le_trans (Zj0 s t.given f[c].Arms) hb)
      rw [w1,w2,w3,Nat.mul_add,Nat.mul_comm _ A]
      omega
    right
    rw [beq_eq_false_iff_ne.2 hz,Bool.false_and] at hstep
    exact ⟨_,by rw [ZY (by simpa using hz)],by rw [hbad hstep,ZX (by simp)]⟩) N ([t0],[]) ⟨MOK.nil,λt ht=>by simp only [ZM] at ht;subst ht;exact ht0,⟨0,by omega,by simp;omega,λt ht=>by simp only [ZM] at ht;subst ht;exact hd0⟩,by simp⟩ (by
   simp only [wts,wt,ZJ,ZK,List.sum_cons,List.sum_nil,hd0]
   simpa using hN2)
 rw [ho,eo]
end
end Go.Sh

namespace Go.Sh
open Go Go.Eng
def g0:Z6:=⟨-1,-1,-1,-1,-1,-1,-1,-1,-1,-1,-1,-1⟩
theorem ZoG (k:Nat)(h:k<12):g0.l.getD k 0 = -1:=by
 rcases k with _|_|_|_|_|_|_|_|_|_|_|_|k<;>first|rfl|omega
theorem Zkp (n M:Nat):ZaQ (λx:Int×Z6=>Zch M x.1 x.2) (n+13) (0,(Z6.mk 0 0 0 0 0 0 0 0 0 0 0 0))=some g0:=by kernel_rfl
theorem Zn3 (n M:Nat):ZaQ (λx:Int×Z6=>ZcO M x.1 x.2) (n+13) (0,(Z6.mk 0 0 0 0 0 0 0 0 0 0 0 0))=some g0:=by kernel_rfl
section
variable {N:Nat} {p:Z4} {f:List Z3}
theorem Zk1 (h:ZiT p f=true):1<=f.length/\f.length<=2000/\∀ c,c<f.length->Zbv p f c=true:=by
 unfold ZiT at h
 simp only [Ze,ZV] at h
 exact ⟨h.1.1.1,h.1.1.2,ZeR.1 h.1.2⟩
theorem ZrN (hp:Zd6 p=true):AOK p g0:=λk hk=>.inl (ZoG k (by have:=(VP.of hp).len;omega))
theorem ZrO (hp:Zd6 p=true):dep p g0=0:=by
 unfold dep
 rw [List.countP_eq_zero]
 intro k hk
 rw [List.mem_range] at hk
 rw [ZoG k (by have:=(VP.of hp).len;omega)]
 simp
def ZhC (p:Z4)(f:List Z3):Bool:=hB p f f.length 0 g0
def Zjd (p:Z4)(f:List Z3):Int:=if Zd6 p=true then (if ZiT p f=true then (if ZhC p f=true then 0 else 351) else 350) else 340
theorem ZiL (hp:Zd6 p=true)(hf:ZiT p f=true){A:Nat}(hA1:1<=A)(ha:∀ x∈f,x.Arms.length<=A)(hA:A<1000000)(hN:2000+A<N)(hN2:(A+1) ^ 13<N):Zd4 N p f=some (ZhC p f):=by
 obtain ⟨h1,h2,hall⟩:=Zk1 hf
 obtain ⟨n,rfl⟩:∃ n,N=n+13:=⟨N-13,by omega⟩
 unfold Zd4
 have e1:Zc9 (n+13) p=some (p,[]):=rfl
 rw [e1,ZQ,Zn3,ZQ]
 have e2:ZcQ (n+13) [] 0 g0=some [⟨0,g0⟩]:=rfl
 simp only [e2,ZQ]
 rw [Zmp hp hall hA1 ha hA (t0:=⟨0,g0⟩) ⟨by simp,by simp only;omega,ZrN hp⟩ (ZrO hp) hN hN2,ZQ]
 have e3:Zjt p f ⟨0,g0⟩=ZhC p f:=rfl
 rw [e3]
 cases ZhC p f<;>rfl
theorem ZiO {A:Nat}(hA1:1<=A)(ha:∀ x∈f,x.Arms.length<=A)(hA:A<1000000)(hfl:f.length<N)(hN:2000+A<N)(hN2:(A+1) ^ 13<N):ZaL N p f=some (Zjd p f):=by
 unfold ZaL Zjd
 rw [Zf8 (by omega),ZQ]
 cases hp:Zd6 p with
 | false=>rfl
 | true =>
  simp only [ZZ]
  rw [ZX (by simp),ZhW hfl (by omega) (λx hx=>by have:=ha x hx;omega),ZQ]
  cases hf:ZiT p f with
  | false=>rfl
  | true =>
   simp only [ZZ]
   rw [ZX (by simp),ZiL hp hf hA1 ha hA hN hN2,ZQ]
   cases ZhC p f<;>rfl
theorem ZiG {A:Nat}(ha:∀ x∈f,x.Arms.length<=A)(hA:A<1000000)(hfl:f.length<N)(hN:5000+A<N):ZaY N p f=some (Zjd p f):=by
 unfold ZaY Zjd
 rw [ZiI (by omega),ZQ]
 cases hp:Zd6 p with
 | false=>rfl
 | true =>
  simp only [ZZ]
  rw [ZX (by simp),ZjN (λx hx=>((VP.of hp).per x hx).1) hfl (by omega) (λx hx=>by have:=ha x hx;omega),ZQ]
  cases hf:ZiT p f with
  | false=>rfl
  | true =>
   simp only [ZZ]
   obtain ⟨h1,h2,hall⟩:=Zk1 hf
   rw [ZX (by simp)]
   have e0:ZaQ (λx:Int×Z6=>Zch N x.1 x.2) N (0,(Z6.mk 0 0 0 0 0 0 0 0 0 0 0 0))=some g0:=by
    obtain ⟨n,rfl⟩:∃ n,N=n+13:=⟨N-13,by omega⟩
    exact Zkp n _
   rw [e0,ZQ]
   have e1:=Zhs hp hall (M:=2001+A) (by omega) (λx hx=>by have:=ha x hx;omega) f.length N 0 g0 (by omega) (by omega) (by omega) (ZrN hp)
   have e2:((0:Nat):Int)=0:=rfl
   rw [e2] at e1
   rw [e1,ZQ]
   have e3:hB p f f.length 0 g0=ZhC p f:=rfl
   rw [e3]
   cases ZhC p f<;>rfl
end
end Go.Sh

