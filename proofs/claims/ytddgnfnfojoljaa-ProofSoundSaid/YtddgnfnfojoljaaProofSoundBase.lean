/- Part of the proof. -/
import Derived.Test.YtddgnfnfojoljaaProofSoundSh
import Derived.Test.YtddgnfnfojoljaaProofSoundRd
import Derived.KernelRfl
set_option linter.all false
namespace Go.Sh
open Go Go.Eng
theorem Zbu {x:Int}(h : -9223372036854775808<=x)(h2:x<=9223372036854775807):w64 x=x:=by
 unfold w64 IntKind.wrap
 simp only [IntKind.bits,IntKind.signed]
 by_cases h0:0<=x
 ·have:x%(2 ^ 64:Int)=x:=Int.emod_eq_of_lt h0 (by omega)
  simp only [this]
  rw [Z1]
  simp;omega
 have:x%(2 ^ 64:Int)=x+2 ^ 64:=by
  rw [← Int.add_emod_right]
  exact Int.emod_eq_of_lt (by omega) (by omega)
 simp only [this]
 rw [Z2]
 ·omega
 simp;omega
theorem Zjd {σ ρ:Type}(body:σ->Option (σ⊕ρ))(m:Nat)(x:σ):ZaW body (m+1) x=match body x with
  | none=>none
  | some (.inl y)=>ZaW body m y
  | some (.inr r)=>some r:=rfl
theorem ZcS {σ ρ:Type}{body:σ->Option (σ⊕ρ)}{m:Nat}{x y:σ}(h:body x=some (.inl y)):ZaW body (m+1) x=ZaW body m y:=by rw [Zjd,h]
theorem Zbo {σ ρ:Type}{body:σ->Option (σ⊕ρ)}{m:Nat}{x:σ}{r:ρ}(h:body x=some (.inr r)):ZaW body (m+1) x=some r:=by rw [Zjd,h]
theorem Zb0 {σ ρ:Type}{body:σ->Option (σ⊕ρ)}(I:σ->Prop)(μ:σ->Nat)(Post:ρ->Prop)
  (step:∀ x,I x->(∃ y,body x=some (.inl y)/\I y/\μ y<μ x)∨(∃ r,body x=some (.inr r)/\Post r)):∀ (N:Nat) (x:σ),I x->μ x<N->∃ r,ZaW body N x=some r/\Post r
 | 0,x,_,h=>by omega
 | N+1,x,hI,h=>by
  rcases step x hI with ⟨y,h1,h2,h3⟩|⟨r,h1,h2⟩
  ·rw [ZcS h1]
   exact Zb0 I μ Post step N y h2 (by omega)
  exact ⟨r,by rw [Zbo h1],h2⟩
theorem ZeT {α:Type}(l:List α)(k:Nat):idx l (k:Int)=l[k]?:=by
 unfold idx
 rw [Z2 (by omega)]
 rfl
theorem ZnG {α:Type}{l:List α}{i:Int}(h0:0<=i)(h:i.toNat<l.length):idx l i=some l[i.toNat]:=by
 unfold idx
 rw [Z2 h0]
 exact Zy h
theorem ZbS {a b:Int}(h:b≠0):remI a b=some (a.tmod b):=by unfold remI;rw [Z1 h]
theorem Zoo {k:IntKind}{a b:Int}(h:b≠0):quoI k a b=some (k.wrap (a.tdiv b)):=by unfold quoI;rw [Z1 h]
theorem Zgr {α:Type}{l:List α}{k:Nat}(h:k<l.length):l.drop k=l[k]::l.drop (k+1):=List.drop_eq_getElem_cons h
theorem Zjx {a b:Int}(hb:0<b):(a.tmod b+b).tmod b=a%b:=by
 have h1:0<=a.tmod b+b:=by have:=Int.lt_tmod_of_pos a hb;omega
 rw [Zk h1,Int.add_emod_right]
 rw [Int.tmod_eq_emod]
 split
 ·simp
 have:(b.natAbs:Int)=b:=by omega
 rw [this]
 simp
theorem ZkX {α ρ:Type}{l:List α}{p:α->Bool}{body:Int->Option (Int⊕ρ)}{bad fin:ρ}(hstep:∀ (k:Nat) (h:k<l.length),body (k:Int)=if p l[k]=true then some (.inl ((k+1:Nat):Int)) else some (.inr bad))
  (hend:body (l.length:Int)=some (.inr fin)):∀ (n N k:Nat),l.length-k=n->k<=l.length->n<N->ZaW body N (k:Int)=some (if (l.drop k).all p then fin else bad):=by
 intro n
 induction n with
 | zero =>
  intro N k hn hk hN
  have:k=l.length:=by omega
  subst this
  cases N with
  | zero=>omega
  | succ N=>rw [Zbo hend];simp
 | succ n ih =>
  intro N k hn hk hN
  cases N with
  | zero=>omega
  | succ N =>
   have hlt:k<l.length:=by omega
   rw [Zgr hlt,List.all_cons]
   by_cases hp:p l[k]=true
   ·rw [ZcS (by rw [hstep k hlt,Z2 hp]),ih N (k+1) (by omega) (by omega) (by omega)]
    simp [hp]
   rw [Zbo (by rw [hstep k hlt,Z1 hp])]
   simp [hp]
end Go.Sh

namespace Go.Sh
open Go Go.Eng
def VSpan (s:Zah):Prop:=1<=s.Period/\s.Period<=960/\0<=s.From/\s.From<s.Period/\1<=s.Long/\s.Long<=s.Period
instance (s:Zah):Decidable (VSpan s):=by unfold VSpan;infer_instance
theorem ZdR (N:Nat)(s:Zah):Zcb N s=some (if VSpan s then 0 else 330):=by
 unfold Zcb
 by_cases h:VSpan s
 ·rw [Z2 h]
  unfold VSpan at h
  rw [Z1 (by simp;omega),Z1 (by simp;omega)]
 rw [Z1 h]
 unfold VSpan at h
 by_cases h1:((decide (s.Period<1))||((decide (s.Period>960))||((decide (s.From<0))||(decide (s.From≥s.Period)))))=true
 ·rw [Z2 h1]
 rw [Z1 h1,Z2]
 simp at h1 ⊢
 omega
theorem ZiL (N:Nat){a b:Int}(hb:0<b)(hb2:b<=1000000):Zd8 N a b=some (a%b):=by
 unfold Zd8
 have h1:=Int.lt_tmod_of_pos a hb
 have h2:=Int.tmod_lt_of_pos a hb
 rw [ZbS (by omega),ZU,Zbu (by omega) (by omega),ZbS (by omega),ZU,Zjx hb]
theorem Zkw (N:Nat){a b:Int}(hb:0<b)(hb2:b<=1000000):Ze9 N a b=some (a%b):=by
 unfold Ze9
 have h1:=Int.lt_tmod_of_pos a hb
 have h2:=Int.tmod_lt_of_pos a hb
 have h3:=Zjx (a:=a) hb
 rw [ZbS (by omega),ZU]
 by_cases h:a.tmod b<0
 ·rw [Z2 (by simpa using h),ZU,Zbu (by omega) (by omega)]
  rw [Int.tmod_eq_of_lt (by omega) (by omega)] at h3
  rw [h3]
 rw [Z1 (by simpa using h),ZU]
 rw [← h3,show a.tmod b+b=a.tmod b+b*1 by omega]
 have e:(a.tmod b+b).tmod b=(a.tmod b+b)%b:=Zk (by omega)
 rw [Int.mul_one,e,Int.add_emod_right]
 rw [Int.emod_eq_of_lt (by omega) (by omega)]
theorem Zhm (M:Nat):∀ (b N a:Nat),b<N->ZaW (λx:Int×Int=>ZbU M x.1 x.2) N ((a:Int),(b:Int))=some (Nat.gcd a b:Int):=by
 intro b
 induction b using Nat.strongRecOn with
 | _ b ih =>
  intro N a hN
  cases N with
  | zero=>omega
  | succ N =>
   by_cases hb:b=0
   ·subst hb
    rw [Zbo (r:=(a:Int))]
    ·simp
    simp [ZbU]
   have hlt:=Nat.mod_lt a (Nat.pos_of_ne_zero hb)
   rw [ZcS (y:=((b:Int),((a%b:Nat):Int)))]
   ·rw [ih (a%b) hlt N b (by omega)]
    rw [Nat.gcd_comm a b,Nat.gcd_rec b a,Nat.gcd_comm (a%b) b]
   simp only [ZbU]
   rw [Z2 (by simp;omega),ZbS (by omega),ZU,Zk (by omega)]
   rfl
theorem ZfO {N:Nat}{a b:Int}(ha:0<=a)(hb:0<=b)(hN:b.toNat<N):Zdw N a b=some (Nat.gcd a.toNat b.toNat:Int):=by
 unfold Zdw
 have:=Zhm N b.toNat N a.toNat hN
 rw [Zm ha,Zm hb] at this
 rw [this]
 rfl
theorem ZdX {a d:Int}(hd:0<d)(ha:0<=a):a.tmod d=0↔d.toNat∣a.toNat:=by
 rw [Zk ha]
 constructor
 ·intro h
  have h1:d∣a:=Int.dvd_of_emod_eq_zero h
  rw [← Zm ha,← Zm (show 0<=d by omega)] at h1
  exact Int.natCast_dvd_natCast.1 h1
 intro h
 have:((d.toNat:Nat):Int)∣((a.toNat:Nat):Int):=Int.natCast_dvd_natCast.2 h
 rw [Zm ha,Zm (by omega)] at this
 exact Int.emod_eq_zero_of_dvd this
theorem ZiP (M:Nat){a b:Int}(ha:1<=a)(hb:1<=b)(ha2:a<=1000000):∀ (d:Nat) (N:Nat),d<N->(d:Int)<=a->(∀ e:Nat,d<e->¬ (e∣a.toNat/\e∣b.toNat)) →
  ∃ r,ZaW (λx:Int=>Zb9 M a b x) N (d:Int)=some r/\(match r with | .inl _=>(1:Int) | .inr p=>p)=(Nat.gcd a.toNat b.toNat:Int):=by
 intro d
 induction d with
 | zero =>
  intro N hN _ hall
  exfalso
  exact hall 1 (by omega) ⟨Nat.one_dvd _,Nat.one_dvd _⟩
 | succ d ih =>
  intro N hN hle hall
  cases N with
  | zero=>omega
  | succ N =>
   have hgpos:0<Nat.gcd a.toNat b.toNat:=Nat.gcd_pos_of_pos_left _ (by omega)
   have hgle:Nat.gcd a.toNat b.toNat<=d+1:=by
    rcases Nat.lt_or_ge (d+1) (Nat.gcd a.toNat b.toNat) with h|h
    ·exact absurd ⟨Nat.gcd_dvd_left _ _,Nat.gcd_dvd_right _ _⟩ (hall _ h)
    exact h
   by_cases h1:d=0
   ·subst h1
    refine ⟨.inl (),Zbo (by simp [Zb9]),?_⟩
    simp only
    omega
   have hd1:((d+1:Nat):Int)>1:=by omega
   by_cases h2:(d+1)∣a.toNat/\(d+1)∣b.toNat
   ·refine ⟨.inr ((d+1:Nat):Int),Zbo ?_,?_⟩
    ·simp only [Zb9]
     rw [Z2 (by simpa using hd1),ZbS (by omega),ZU,Z2,ZbS (by omega),ZU]
     ·simp only [ZU]
      rw [Z2]
      simp only [beq_iff_eq]
      exact (ZdX (by omega) (by omega)).2 (by simpa using h2.2)
     simp only [beq_iff_eq]
     exact (ZdX (by omega) (by omega)).2 (by simpa using h2.1)
    simp only
    have:d+1∣Nat.gcd a.toNat b.toNat:=Nat.dvd_gcd h2.1 h2.2
    have:=Nat.le_of_dvd hgpos this
    omega
   rw [ZcS (y:=(d:Int))]
   ·refine ih N (by omega) (by omega) λe he hd=>?_
    by_cases h3:e=d+1
    ·subst h3;exact h2 hd
    exact hall e (by omega) hd
   simp only [Zb9]
   rw [Z2 (by simpa using hd1),ZbS (by omega),ZU]
   have hiff1:=ZdX (a:=a) (d:=((d+1:Nat):Int)) (by omega) (by omega)
   have hiff2:=ZdX (a:=b) (d:=((d+1:Nat):Int)) (by omega) (by omega)
   simp only [Zl] at hiff1 hiff2
   by_cases h4:a.tmod ((d+1:Nat):Int)=0
   ·rw [Z2 (by simpa using h4),ZbS (by omega),ZU,ZU,Z1,Zbu (by omega) (by omega)]
    ·congr 2;omega
    simp only [beq_iff_eq]
    intro h5
    exact h2 ⟨hiff1.1 h4,hiff2.1 h5⟩
   rw [Z1 (by simpa using h4),ZU,Z1 (by simp),Zbu (by omega) (by omega)]
   congr 2;omega
theorem Zky {N:Nat}{a b:Int}(ha:1<=a)(hb:1<=b)(ha2:a<=1000000)(hN:a.toNat<N):Zfa N a b=some (Nat.gcd a.toNat b.toNat:Int):=by
 unfold Zfa
 obtain ⟨r,h1,h2⟩:=ZiP N ha hb ha2 a.toNat N hN (by omega) (λe he hd=>by
  have:=Nat.le_of_dvd (by omega) hd.1
  omega)
 rw [Zm (by omega)] at h1
 rw [h1,ZU,← h2]
 cases r<;>rfl
def gP (a b:Zah):Int:=(Nat.gcd a.Period.toNat b.Period.toNat:Int)
theorem Zmj {a b:Zah}(ha:1<=a.Period):0<gP a b:=by
 have:0<Nat.gcd a.Period.toNat b.Period.toNat:=Nat.gcd_pos_of_pos_left _ (by omega)
 unfold gP;omega
theorem Zpn {a b:Zah}(ha:1<=a.Period):gP a b<=a.Period:=by
 have:=Nat.le_of_dvd (by omega:0<a.Period.toNat) (Nat.gcd_dvd_left a.Period.toNat b.Period.toNat)
 unfold gP;omega
theorem ZlN {a b:Zah}(ha:1<=a.Period):gP a b∣a.Period:=by
 have:=Int.natCast_dvd_natCast.2 (Nat.gcd_dvd_left a.Period.toNat b.Period.toNat)
 rwa [Zm (by omega)] at this
theorem Zk3 {a b:Zah}(hb:1<=b.Period):gP a b∣b.Period:=by
 have:=Int.natCast_dvd_natCast.2 (Nat.gcd_dvd_right a.Period.toNat b.Period.toNat)
 rwa [Zm (by omega)] at this
def SepD (a b:Zah)(d:Int):Prop:=a.Long<=d%gP a b/\d%gP a b<=gP a b-b.Long
instance (a b:Zah) (d:Int):Decidable (SepD a b d):=by unfold SepD;infer_instance
theorem Znh {al bl d g:Int}(hg:0<g)(ha:1<=al)(hb:1<=bl):(∀ x,1-bl<=x->x<al->(d-x)%g≠0)↔(al<=d%g/\d%g<=g-bl):=by
 have h0:=Int.emod_nonneg d (show g≠0 by omega)
 have h1:=Int.emod_lt_of_pos d hg
 have hd:=Int.mul_ediv_add_emod d g
 constructor
 ·intro h
  constructor
  ·rcases Int.lt_or_le (d%g) al with hlt|hle
   ·exfalso
    refine h (d%g) (by omega) hlt ?_
    have:d-d%g=g*(d/g):=by omega
    rw [this]
    exact Int.mul_emod_right _ _
   exact hle
  rcases Int.lt_or_le (g-bl) (d%g) with hlt|hle
  ·exfalso
   refine h (d%g-g) (by omega) (by omega) ?_
   have:d-(d%g-g)=g*(d/g+1):=by rw [Int.mul_add];omega
   rw [this]
   exact Int.mul_emod_right _ _
  exact hle
 rintro ⟨h2,h3⟩ x hx1 hx2 hx
 obtain ⟨q,hq⟩:=Int.dvd_of_emod_eq_zero hx
 have e:d%g-x=g*(q-d/g):=by rw [Int.mul_sub];omega
 generalize q-d/g=k at e
 rcases Int.lt_trichotomy k 0 with hk|hk|hk
 ·have:g*k<=g*(-1):=Int.mul_le_mul_of_nonneg_left (by omega) (by omega)
  omega
 ·subst hk;omega
 have:g*1<=g*k:=Int.mul_le_mul_of_nonneg_left (by omega) (by omega)
 omega
end Go.Sh

namespace Go.Sh
open Go Go.Eng
theorem VSpan.bounds {s:Zah}(h:VSpan s):1<=s.Period/\s.Period<=960/\0<=s.From/\s.From<s.Period/\1<=s.Long/\s.Long<=s.Period:=h
theorem Zpo (a b:Zah):gP a b=gP b a:=by unfold gP;rw [Nat.gcd_comm]
theorem ZgF {N:Nat}(hN:2000<=N){a b:Zah}(ha:1<=a.Period)(ha2:a.Period<=960)(hb:1<=b.Period)(hb2:b.Period<=960)(haf:0<=a.From)(haf2:a.From<=960)(hbf:0<=b.From)(hbf2:b.From<=960)
  (hal:1<=a.Long) (hal2:a.Long<=960) (hbl:1<=b.Long) (hbl2:b.Long<=960):Zco N a b=some (decide (SepD a b (b.From-a.From))):=by
 unfold Zco
 rw [Zky ha hb (by omega) (by omega),ZU]
 have hg0:0<gP a b:=Zmj ha
 have hg1:gP a b<=a.Period:=Zpn ha
 have key:∀ (n:Nat) (M:Nat) (x:Int),(a.Long-x).toNat=n->1-b.Long<=x->n<M->(∀ y,1-b.Long<=y->y<x->(b.From-a.From-y)%gP a b≠0) →
   ∃ r,ZaW (λx:Int=>Za8 N a b (gP a b) x) M x=some r/\(match r with | .inl _=>true | .inr p=>p)=decide (SepD a b (b.From-a.From)):=by
  intro n
  induction n with
  | zero =>
   intro M x hn hx hM hall
   cases M with
   | zero=>omega
   | succ M =>
    refine ⟨.inl (),Zbo (by simp only [Za8];rw [Z1 (by simp;omega)]),?_⟩
    symm
    simp only [ZZ]
    refine (Znh hg0 hal hbl).1 λy h1 h2=>hall y h1 (by omega)
  | succ n ih =>
   intro M x hn hx hM hall
   cases M with
   | zero=>omega
   | succ M =>
    have hlt:x<a.Long:=by omega
    have e1:w64 (b.From-a.From)=b.From-a.From:=Zbu (by omega) (by omega)
    have e2:w64 (b.From-a.From-x)=b.From-a.From-x:=Zbu (by omega) (by omega)
    have hbody:Za8 N a b (gP a b) x=if ((b.From-a.From-x)%gP a b==0)=true then some (.inr (.inr false)) else some (.inl (w64 (x+1))):=by
     simp only [Za8]
     rw [Z2 (by simpa using hlt),e1,e2,Zkw N hg0 (by omega),ZU]
    by_cases h0:(b.From-a.From-x)%gP a b=0
    ·refine ⟨.inr false,Zbo (by rw [hbody,Z2 (by simpa using h0)]),?_⟩
     symm
     simp only [decide_eq_false_iff_not]
     intro hs
     exact (Znh hg0 hal hbl).2 hs x hx hlt h0
    rw [ZcS (y:=x+1) (by rw [hbody,Z1 (by simpa using h0),Zbu (by omega) (by omega)])]
    refine ih M (x+1) (by omega) (by omega) (by omega) λy h1 h2=>?_
    by_cases h3:y=x
    ·subst h3;exact h0
    exact hall y h1 (by omega)
 rw [Zbu (by omega) (by omega)]
 obtain ⟨r,h1,h2⟩:=key (a.Long-(1-b.Long)).toNat N (1-b.Long) rfl (Int.le_refl _) (by omega) (λy h1 h2=>by omega)
 show (ZaW (λx:Int=>Za8 N a b (gP a b) x) N (1-b.Long)).bind _=_
 rw [h1,ZU,← h2]
 cases r<;>rfl
theorem VSpan.separate {N:Nat}(hN:2000<=N){a b:Zah}(ha:VSpan a)(hb:VSpan b):Zco N a b=some (decide (SepD a b (b.From-a.From))):=by
 obtain ⟨a1,a2,a3,a4,a5,a6⟩:=ha
 obtain ⟨b1,b2,b3,b4,b5,b6⟩:=hb
 exact ZgF hN a1 a2 b1 b2 a3 (by omega) b3 (by omega) a5 (by omega) b5 (by omega)
theorem ZhV {N:Nat}(hN:2000<=N){a b:Zah}(ha:VSpan a)(hb:VSpan b):ZdF N a b=some (a.Long,gP a b-b.Long,gP a b):=by
 obtain ⟨a1,a2,a3,a4,a5,a6⟩:=ha
 obtain ⟨b1,b2,b3,b4,b5,b6⟩:=hb
 have hg0:0<gP a b:=Zmj a1
 have hg1:gP a b<=a.Period:=Zpn a1
 unfold ZdF
 rw [ZfO (by omega) (by omega) (by omega),ZU]
 show some (a.Long,w64 (gP a b-b.Long),gP a b)=_
 rw [Zbu (by omega) (by omega)]
theorem Zho {N:Nat}(hN:2000<=N){a b:Zah}(ha:VSpan a)(hb:VSpan b):Zde N a b=some (decide (SepD a b (b.From-a.From))):=by
 have hr:=ZhV hN ha hb
 obtain ⟨a1,a2,a3,a4,a5,a6⟩:=ha
 obtain ⟨b1,b2,b3,b4,b5,b6⟩:=hb
 have hg0:0<gP a b:=Zmj a1
 have hg1:gP a b<=a.Period:=Zpn a1
 unfold Zde
 by_cases h:((a.Period==b.Period)&&((a.From==b.From)&&((a.Long==b.Long)&&true)))=true
 ·rw [Z2 h]
  simp only [Ze,beq_iff_eq,ZY] at h
  symm
  simp only [ZW,decide_eq_false_iff_not]
  unfold SepD
  rw [h.2.1,Int.sub_self,Int.zero_emod]
  omega
 rw [Z1 h,hr]
 simp only [ZU]
 rw [Zbu (by omega) (by omega),ZiL N hg0 (by omega)]
 simp only [ZU,ZW]
 rw [Zf,decide_eq_true_iff]
 simp only [Ze,ZZ,SepD]
theorem Zhs {N:Nat}(hN:2000<=N)(a b:Zah):Zdg N a b=some (if VSpan a/\VSpan b then (decide (SepD a b (b.From-a.From)),0) else (false,330)):=by
 unfold Zdg
 rw [ZdR,ZdR]
 simp only [ZU]
 by_cases ha:VSpan a
 ·by_cases hb:VSpan b
  ·simp only [ha,hb,Z3,and_self,bne_self_eq_false,Zg,Z0,Zho hN ha hb,ZU]
  simp [ha,hb]
 simp [ha]
end Go.Sh
namespace Go.Sh
open Go Go.Eng
theorem ZbQ {α:Type}{b:Nat}{l m:List α}(h:l.length+m.length<=100000)(hb:b<=100000):appI b l m=some (l++m):=by
 unfold appI
 rw [Z2]
 have:(l.length+m.length)*b<=100000*100000:=Nat.mul_le_mul h hb
 omega
def allV (l:List Zah):Bool:=l.all λs=>decide (VSpan s)
theorem ZfX {N:Nat}(hN:100<=N)(l:List Zah):Zch N l=some (if 32<l.length then 3 else if allV l then 0 else 330):=by
 unfold Zch
 by_cases h:32<l.length
 ·rw [Z2 (by simp;omega),Z2 h]
 rw [Z1 (by simp;omega),Z1 h]
 have:=ZkX (l:=l) (p:=λs=>decide (VSpan s)) (body:=λx:Int=>Zbe N l x) (bad:=.inr 330) (fin:=.inl ()) (λk hk=>by
  simp only [Zbe]
  rw [Z2 (by simpa using hk),ZeT,Zy hk,ZU,ZdR,ZU]
  by_cases hv:VSpan l[k]
  ·simp only [hv,Z3,bne_self_eq_false,Zg,Z0,decide_true]
   rw [Zbu (by omega) (by omega)];simp
  simp [hv]) (by simp [Zbe]) l.length N 0 (by omega) (by omega) (by omega)
 rw [show ((0:Nat):Int)=0 from rfl] at this
 rw [this,ZU,List.drop_zero]
 have e:(l.all λs=>decide (VSpan s))=allV l:=rfl
 rw [e]
 cases allV l<;>rfl
def shift (b:Zah)(k:Int):Zah:=⟨b.Period,(b.From+k)%b.Period,b.Long⟩
end Go.Sh
namespace Go.Sh
open Go Go.Eng
def lcmP:List Zah->Nat
 | []=>1
 | s::l=>Nat.lcm s.Period.toNat (lcmP l)
theorem Zmi:∀ {l:List Zah},(∀ s∈l,VSpan s)->0<lcmP l
 | [],_=>by decide
 | s::l,h=>by
  have h1:=(h s (by simp)).bounds
  exact Nat.lcm_pos (by omega) (Zmi λt ht=>h t (by simp [ht]))
theorem Zha:∀ {l:List Zah} {n:Nat},lcmP l∣n↔∀ s∈l,s.Period.toNat∣n
 | [],n=>by simp [lcmP]
 | s::l,n=>by
  simp only [lcmP,List.mem_cons,forall_eq_or_imp]
  rw [Nat.lcm_dvd_iff,Zha]
theorem ZgD {N:Nat}(hN:2000<=N){ps:List Int}(hps:∀ p∈ps,1<=p/\p<=960):∀ (n M k:Nat) (m:Nat),ps.length-k=n->k<=ps.length->n<M->1<=m->m<=960->ps.length<=1000 →
  ∃ r,ZaW (λx:Int×Int=>Zbj N 960 ps x.1 x.2) M ((m:Int),(k:Int))=some r ∧
   (r<=960->r=((ps.drop k).foldl (λa p=>Nat.lcm a p.toNat) m:Nat))/\(960<r->960<(ps.drop k).foldl (λa p=>Nat.lcm a p.toNat) m):=by
 have mono:∀ (l:List Int) (a:Nat),(∀ p∈l,1<=p)->0<a->a<=l.foldl (λa p=>Nat.lcm a p.toNat) a:=by
  intro l
  induction l with
  | nil=>intro a _ _;exact Nat.le_refl _
  | cons p l ih =>
   intro a hp ha
   simp only [List.foldl_cons]
   have h1:=hp p (by simp)
   have hpos:0<Nat.lcm a p.toNat:=Nat.lcm_pos ha (by omega)
   exact Nat.le_trans (Nat.le_of_dvd hpos (Nat.dvd_lcm_left _ _)) (ih _ (λq hq=>hp q (by simp [hq])) hpos)
 intro n
 induction n with
 | zero =>
  intro M k m hn hk hM hm hm2 hl
  have:k=ps.length:=by omega
  subst this
  cases M with
  | zero=>omega
  | succ M =>
   refine ⟨(m:Int),Zbo (by simp only [Zbj];rw [Z1 (by simp)]),λ_=>?_,λh=>?_⟩
   ·simp
   omega
 | succ n ih =>
  intro M k m hn hk hM hm hm2 hl
  cases M with
  | zero=>omega
  | succ M =>
   have hlt:k<ps.length:=by omega
   obtain ⟨p1,p2⟩:=hps ps[k] (List.getElem_mem hlt)
   have hg:0<Nat.gcd m ps[k].toNat:=Nat.gcd_pos_of_pos_left _ (by omega)
   have hq:(m:Int).tdiv (Nat.gcd m ps[k].toNat:Int)=((m/Nat.gcd m ps[k].toNat:Nat):Int):=by
    rw [Int.tdiv_eq_ediv_of_nonneg (by omega)];rfl
   have hqle:m/Nat.gcd m ps[k].toNat<=m:=Nat.div_le_self _ _
   have hmul:((m/Nat.gcd m ps[k].toNat:Nat):Int)*ps[k]=(Nat.lcm m ps[k].toNat:Int):=by
    have e1:ps[k]=(ps[k].toNat:Int):=by omega
    have e2:Nat.lcm m ps[k].toNat=m/Nat.gcd m ps[k].toNat*ps[k].toNat:=by
     rw [Nat.lcm,Nat.mul_comm m,Nat.mul_div_assoc _ (Nat.gcd_dvd_left _ _),Nat.mul_comm]
    rw [e2,Int.natCast_mul,← e1]
   have hlcm:Nat.lcm m ps[k].toNat<=960*960:=by
    have h1:m/Nat.gcd m ps[k].toNat*ps[k].toNat<=960*960:=Nat.mul_le_mul (by omega) (by omega)
    have e2:Nat.lcm m ps[k].toNat=m/Nat.gcd m ps[k].toNat*ps[k].toNat:=by
     rw [Nat.lcm,Nat.mul_comm m,Nat.mul_div_assoc _ (Nat.gcd_dvd_left _ _),Nat.mul_comm]
    omega
   have hlpos:0<Nat.lcm m ps[k].toNat:=Nat.lcm_pos (by omega) (by omega)
   have hbody:Zbj N 960 ps (m:Int) (k:Int)=if 960<Nat.lcm m ps[k].toNat then some (.inr (Nat.lcm m ps[k].toNat:Int)) else some (.inl ((Nat.lcm m ps[k].toNat:Int),((k+1:Nat):Int))):=by
    simp only [Zbj]
    rw [Z2 (by simpa using hlt),ZeT,Zy hlt,ZU,ZfO (by omega) (by omega) (by omega),ZU,Zl,Zoo (by omega),ZU,hq]
    have hq0:(0:Int)<=((m/Nat.gcd m ps[k].toNat:Nat):Int):=Int.natCast_nonneg _
    have hq1:((m/Nat.gcd m ps[k].toNat:Nat):Int)<=960:=Int.ofNat_le.2 (Nat.le_trans hqle hm2)
    have e3:IntKind.i64.wrap ((m/Nat.gcd m ps[k].toNat:Nat):Int)=((m/Nat.gcd m ps[k].toNat:Nat):Int):=Zbu (Int.le_trans (by decide) hq0) (Int.le_trans hq1 (by decide))
    rw [e3,hmul,Zbu (by omega) (by omega),Zbu (by omega) (by omega)]
    by_cases hc:960<Nat.lcm m ps[k].toNat
    ·rw [Z2 (by simp;omega),Z2 hc]
    rw [Z1 (by simp;omega),Z1 hc];simp
   rw [Zgr hlt,List.foldl_cons]
   by_cases hc:960<Nat.lcm m ps[k].toNat
   ·refine ⟨(Nat.lcm m ps[k].toNat:Int),Zbo (by rw [hbody,Z2 hc]),λh=>?_,λ_=>?_⟩
    ·omega
    exact Nat.lt_of_lt_of_le hc (mono _ _ (λq hq=>(hps q (List.mem_of_mem_drop hq)).1) hlpos)
   rw [ZcS (by rw [hbody,Z1 hc])]
   exact ih M (k+1) _ (by omega) (by omega) (by omega) (by omega) (by omega) hl
theorem Zjg:∀ (l:List Zah) (m:Nat),(l.map Zah.Period).foldl (λa p=>Nat.lcm a p.toNat) m=Nat.lcm m (lcmP l)
 | [],m=>by simp [lcmP,Nat.lcm_one_right]
 | s::l,m=>by simp only [ZM,List.foldl_cons,lcmP];rw [Zjg l,Nat.lcm_assoc]
def Zmm (l:List Zah):Int×Int:=if 32<l.length then (0,3) else if allV l=true then (if lcmP l<=960 then ((lcmP l:Int),0) else (0,6)) else (0,330)
theorem Zmr {l:List Zah}(h:allV l=true):∀ s∈l,VSpan s:=by
 unfold allV at h
 rw [Zn] at h
 exact λs hs=>by simpa using h s hs
theorem Zhq {N:Nat}(hN:2000<=N)(l:List Zah):Zdf N l=some (Zmm l):=by
 unfold Zdf Zmm
 rw [ZfX (by omega)]
 simp only [ZU]
 by_cases h:32<l.length
 ·simp [h]
 by_cases hv:allV l=true
 ·simp only [h,hv,Z3,Z0,bne_self_eq_false,Zg]
  have hmk:Zii 8 (l.length:Int) (l.length:Int) (0:Int)=some (List.replicate l.length 0):=by
   unfold Zii;rw [Z2 (by omega)];simp
  rw [hmk,ZU]
  have hloop:∀ (n M k:Nat),l.length-k=n->k<=l.length->n<M->ZaW (λx:Int×List Int=>Zbz N l x.1 x.2) M ((k:Int),(l.map Zah.Period).take k++List.replicate (l.length-k) 0)=some (l.map Zah.Period):=by
   intro n
   induction n with
   | zero =>
    intro M k hn hk hM
    have:k=l.length:=by omega
    subst this
    cases M with
    | zero=>omega
    | succ M =>
     refine Zbo ?_
     simp only [Zbz]
     rw [Z1 (by simp)]
     simp [List.take_of_length_le]
   | succ n ih =>
    intro M k hn hk hM
    cases M with
    | zero=>omega
    | succ M =>
     have hlt:k<l.length:=by omega
     have hc:=ih M (k+1) (by omega) (by omega) (by omega)
     rw [ZcS (y:=(((k+1:Nat):Int),(l.map Zah.Period).take (k+1)++List.replicate (l.length-(k+1)) 0)),hc]
     simp only [Zbz]
     have hlen:((l.map Zah.Period).take k++List.replicate (l.length-k) 0).length=l.length:=by simp;omega
     rw [Z2 (by simpa using hlt),ZeT,Zy hlt,ZU,ZeT,Zy (by omega),ZU,Zbu (by omega) (by omega)]
     have hset:List.set ((l.map Zah.Period).take k++List.replicate (l.length-k) 0) k l[k].Period=(l.map Zah.Period).take (k+1)++List.replicate (l.length-(k+1)) 0:=by
      rw [ZR _ _ (by simp;omega)]
      have e1:k-((l.map Zah.Period).take k).length=0:=by simp;omega
      rw [e1,show l.length-k=(l.length-(k+1))+1 by omega,List.replicate_succ,List.set_cons_zero,List.take_succ_eq_append_getElem (by simpa using hlt)]
      simp
     simp only [Zl,hset]
     rfl
  have hc:=hloop l.length N 0 (by omega) (by omega) (by omega)
  simp only [List.take_zero,ZQ,Nat.sub_zero] at hc
  rw [show ((0:Nat):Int)=0 from rfl] at hc
  rw [hc,ZU]
  have hVl:=Zmr hv
  obtain ⟨r,h1,h2,h3⟩:=ZgD hN (ps:=l.map Zah.Period) (λp hp=>by
   obtain ⟨s,hs,rfl⟩:=List.mem_map.1 hp
   have:=(hVl s hs).bounds;omega) l.length N 0 1 (by simp) (by omega) (by omega) (by omega) (by omega) (by simp;omega)
  rw [List.drop_zero,Zjg,Nat.lcm_one_left] at h2 h3
  have hf:ZdG N 960 (l.map Zah.Period)=some r:=by
   unfold ZdG
   have h1':ZaW (λx:Int×Int=>Zbj N 960 (l.map Zah.Period) x.1 x.2) N (1,0)=some r:=h1
   rw [h1',ZU]
  rw [hf,ZU]
  by_cases hc2:960<r
  ·rw [Z2 (by simpa using hc2),Z1 (by have:=h3 hc2;omega)]
  have:=h2 (by omega)
  rw [Z1 (by simpa using hc2),Z2 (by omega),this]
 simp [h,hv]
end Go.Sh
namespace Go.Sh
open Go Go.Eng
theorem Zov {d g:Int}(hg:0<g):(-d)%g=if d%g=0 then 0 else g-d%g:=by
 have h0:=Int.emod_nonneg d (show g≠0 by omega)
 have h1:=Int.emod_lt_of_pos d hg
 have hd:=Int.mul_ediv_add_emod d g
 split
 ·rename_i h
  have : -d=g*(-(d/g)):=by rw [Int.mul_neg];omega
  rw [this];exact Int.mul_emod_right _ _
 rename_i h
 have : -d=(g-d%g)+g*(-(d/g)-1):=by rw [Int.mul_sub,Int.mul_neg];omega
 rw [this,Int.add_mul_emod_self_left]
 exact Int.emod_eq_of_lt (by omega) (by omega)
theorem Zok {a b:Zah}(ha:VSpan a)(hb:VSpan b):SepD b a (a.From-b.From)↔SepD a b (b.From-a.From):=by
 obtain ⟨a1,a2,a3,a4,a5,a6⟩:=ha.bounds
 obtain ⟨b1,b2,b3,b4,b5,b6⟩:=hb.bounds
 have hg0:0<gP a b:=Zmj a1
 have h0:=Int.emod_nonneg (b.From-a.From) (show gP a b≠0 by omega)
 have h1:=Int.emod_lt_of_pos (b.From-a.From) hg0
 unfold SepD
 rw [Zpo b a,show a.From-b.From = -(b.From-a.From) by omega,Zov hg0]
 split<;>omega
theorem Zng {a b:Zah}(ha:VSpan a)(hb:VSpan b)(k:Int):SepD (shift a k) (shift b k) ((shift b k).From-(shift a k).From)↔SepD a b (b.From-a.From):=by
 obtain ⟨a1,a2,a3,a4,a5,a6⟩:=ha.bounds
 obtain ⟨b1,b2,b3,b4,b5,b6⟩:=hb.bounds
 have hga:gP a b∣a.Period:=ZlN a1
 have hgb:gP a b∣b.Period:=Zk3 b1
 have hg:gP (shift a k) (shift b k)=gP a b:=rfl
 have hd:((shift b k).From-(shift a k).From)%gP a b=(b.From-a.From)%gP a b:=by
  show ((b.From+k)%b.Period-(a.From+k)%a.Period)%gP a b=_
  rw [Int.sub_emod,Int.emod_emod_of_dvd _ hgb,Int.emod_emod_of_dvd _ hga,← Int.sub_emod]
  congr 1;omega
 unfold SepD
 rw [hg,hd]
 rfl
end Go.Sh
namespace Go.Sh
open Go Go.Eng
def allB (n:Nat)(p:Nat->Bool):Bool:=(List.range n).all p
theorem Zcv {n:Nat}{p:Nat->Bool}:allB n p=true↔∀ k,k<n->p k=true:=by simp [allB]
theorem ZfH {n:Nat}{p q:Nat->Bool}(h:∀ k,k<n->p k=q k):allB n p=allB n q:=by
 rw [Zf,Zcv,Zcv]
 exact ⟨λhp k hk=>by rw [← h k hk];exact hp k hk,λhp k hk=>by rw [h k hk];exact hp k hk⟩
theorem Zd3 {ρ:Type}{n:Nat}{p:Nat->Bool}{body:Int->Option (Int⊕ρ)}{bad fin:ρ}(hstep:∀ k:Nat,k<n->body (k:Int)=if p k=true then some (.inl ((k+1:Nat):Int)) else some (.inr bad))
  (hend:body (n:Int)=some (.inr fin)) {N:Nat} (hN:n<N):ZaW body N 0=some (if allB n p then fin else bad):=by
 have key:∀ (m N k:Nat),n-k=m->k<=n->m<N->ZaW body N (k:Int)=some (if (List.range' k m).all p then fin else bad):=by
  intro m
  induction m with
  | zero =>
   intro N k h1 h2 h3
   obtain rfl:k=n:=by omega
   cases N with
   | zero=>omega
   | succ N=>rw [Zbo hend];rfl
  | succ m ih =>
   intro N k h1 h2 h3
   cases N with
   | zero=>omega
   | succ N =>
    rw [List.range'_succ,List.all_cons]
    by_cases hp:p k=true
    ·rw [ZcS (by rw [hstep k (by omega),Z2 hp]),ih N (k+1) (by omega) (by omega) (by omega),hp,Zj]
    rw [Zbo (by rw [hstep k (by omega),Z1 hp])]
    simp [hp]
 have:=key n N 0 (by omega) (by omega) hN
 rw [← List.range_eq_range'] at this
 exact this
theorem Zim {β ρ:Type}{n:Nat}{p:Nat->Bool}{f:β->Nat->β}{body:Int×β->Option ((Int×β)⊕ρ)}{bad:ρ}{fin:β->ρ}(I:Nat->β->Prop)
  (hstep:∀ k b,k<n->I k b->body ((k:Int),b)=if p k=true then some (.inl (((k+1:Nat):Int),f b k)) else some (.inr bad)) (hI:∀ k b,k<n->I k b->p k=true->I (k+1) (f b k))
  (hend:∀ b,I n b->body ((n:Int),b)=some (.inr (fin b))) {N:Nat} (hN:n<N) {b0:β} (h0:I 0 b0):ZaW body N (0,b0)=some (if allB n p then fin ((List.range n).foldl f b0) else bad)/\(allB n p=true->I n ((List.range n).foldl f b0)):=by
 have key:∀ (m N k:Nat) (b:β),n-k=m->k<=n->m<N->I k b->ZaW body N ((k:Int),b)=some (if (List.range' k m).all p then fin ((List.range' k m).foldl f b) else bad)/\((List.range' k m).all p=true->I n ((List.range' k m).foldl f b)):=by
  intro m
  induction m with
  | zero =>
   intro N k b h1 h2 h3 hb
   obtain rfl:k=n:=by omega
   cases N with
   | zero=>omega
   | succ N=>exact ⟨by rw [Zbo (hend b hb)];rfl,λ_=>hb⟩
  | succ m ih =>
   intro N k b h1 h2 h3 hb
   cases N with
   | zero=>omega
   | succ N =>
    rw [List.range'_succ,List.all_cons,List.foldl_cons]
    by_cases hp:p k=true
    ·obtain ⟨i1,i2⟩:=ih N (k+1) (f b k) (by omega) (by omega) (by omega) (hI k b (by omega) hb hp)
     rw [hp,Zj]
     exact ⟨by rw [ZcS (by rw [hstep k b (by omega) hb,Z2 hp]),i1],i2⟩
    refine ⟨?_,λh=>?_⟩
    ·rw [Zbo (by rw [hstep k b (by omega) hb,Z1 hp])];simp [hp]
    simp [hp] at h
 obtain ⟨h1,h2⟩:=key n N 0 b0 (by omega) (by omega) hN h0
 rw [← List.range_eq_range'] at h1 h2
 exact ⟨h1,h2⟩
theorem Za5 {n:Nat}(h:n<1000000):w64 ((n:Int)+1)=((n+1:Nat):Int):=by rw [Zbu (by omega) (by omega)];omega
theorem ZbM {α:Type}{l:List α}{k:Nat}(h:k<l.length):idx l (k:Int)=some l[k]:=by rw [ZeT,Zy h]
theorem Zgo {α:Type}{l:List α}{i:Int}(d:α)(h0:0<=i)(h:i<l.length):idx l i=some (l.getD i.toNat d):=by
 rw [ZnG h0 (by omega)]
 simp [Zs,Zy (show i.toNat<l.length by omega)]
theorem ZaZ {α:Type}{l:List α}{k:Nat}(h:k<l.length)(d:α):l.getD k d=l[k]:=by simp [Zs,h]
end Go.Sh

namespace Go.Sh
open Go Go.Eng
def mkS (p:Int):Zah:=⟨p,0,1⟩
def perB (p:Int):Bool:=decide (1<=p)&&decide (p<=240)
def lcmL (P:List Int):Nat:=lcmP (P.map mkS)
def perU (P:List Int)(u:ZaJ):Int:=P.getD u.Stream.toNat 0
def useB (P:List Int)(u:ZaJ):Bool:=decide (0<=u.Stream/\u.Stream<(P.length:Int)/\0<=u.Port/\u.Port<48/\0<=u.From/\u.From<perU P u/\1<=u.Long/\u.Long<=perU P u)
def ZdZ (p:Z6):Bool:=decide (p.Periods.length<=12)&&decide (p.Uses.length<=192)&&p.Periods.all perB&&p.Uses.all (useB p.Periods)&&decide (lcmL p.Periods<=960)
theorem Zhx {p:Int}:perB p=true↔1<=p/\p<=240:=by simp [perB]
theorem Zmq {P:List Int}(h:P.all perB=true):allV (P.map mkS)=true:=by
 unfold allV
 rw [Zn] at h ⊢
 intro s hs
 obtain ⟨p,hp,rfl⟩:=List.mem_map.1 hs
 have:=Zhx.1 (h p hp)
 rw [ZZ]
 show 1<=p/\p<=960/\(0:Int)<=0/\(0:Int)<p/\(1:Int)<=1/\(1:Int)<=p
 omega
theorem ZjX {N:Nat}(hN:2000<=N){P:List Int}(hl:P.length<=1000):Zd1 N P=some (Zmm (P.map mkS)):=by
 unfold Zd1
 have hmk:Zii 24 (P.length:Int) (P.length:Int) (Zah.mk 0 0 0)=some (List.replicate P.length (Zah.mk 0 0 0)):=by
  unfold Zii;rw [Z2 (by omega)];simp
 rw [hmk,ZU]
 have hloop:∀ (n M k:Nat),P.length-k=n->k<=P.length->n<M->ZaW (λx:Int×List Zah=>Zce N P x.1 x.2) M ((k:Int),(P.map mkS).take k++List.replicate (P.length-k) (Zah.mk 0 0 0))=some (P.map mkS):=by
  intro n
  induction n with
  | zero =>
   intro M k hn hk hM
   have:k=P.length:=by omega
   subst this
   cases M with
   | zero=>omega
   | succ M =>
    refine Zbo ?_
    simp only [Zce]
    rw [Z1 (by simp)]
    simp [List.take_of_length_le]
  | succ n ih =>
   intro M k hn hk hM
   cases M with
   | zero=>omega
   | succ M =>
    have hlt:k<P.length:=by omega
    have hc:=ih M (k+1) (by omega) (by omega) (by omega)
    rw [ZcS (y:=(((k+1:Nat):Int),(P.map mkS).take (k+1)++List.replicate (P.length-(k+1)) (Zah.mk 0 0 0))),hc]
    simp only [Zce]
    have hlen:((P.map mkS).take k++List.replicate (P.length-k) (Zah.mk 0 0 0)).length=P.length:=by simp;omega
    rw [Z2 (by simpa using hlt),ZeT,Zy hlt,ZU,ZeT,Zy (by omega),ZU,Zbu (by omega) (by omega)]
    have hset:List.set ((P.map mkS).take k++List.replicate (P.length-k) (Zah.mk 0 0 0)) k (mkS P[k])=(P.map mkS).take (k+1)++List.replicate (P.length-(k+1)) (Zah.mk 0 0 0):=by
     rw [ZR _ _ (by simp;omega)]
     have e1:k-((P.map mkS).take k).length=0:=by simp;omega
     rw [e1,show P.length-k=(P.length-(k+1))+1 by omega,List.replicate_succ,List.set_cons_zero,List.take_succ_eq_append_getElem (by simpa using hlt)]
     simp
    simp only [Zl]
    rw [show (Zah.mk P[k] 0 1)=mkS P[k] from rfl,hset]
    rfl
 have hc:=hloop P.length N 0 (by omega) (by omega) (by omega)
 simp only [List.take_zero,ZQ,Nat.sub_zero] at hc
 rw [show ((0:Nat):Int)=0 from rfl] at hc
 rw [hc,ZU,Zhq hN,ZU]
theorem ZoC {P:List Int}(h:P.all perB=true):0<lcmL P:=Zmi (Zmr (Zmq h))
theorem ZkV {P:List Int}{n:Nat}:lcmL P∣n↔∀ p∈P,p.toNat∣n:=by
 unfold lcmL
 rw [Zha]
 simp [mkS]
theorem Zh6 {N:Nat}(hN:2000<=N){P:List Int}(hl:P.length<=12)(h:P.all perB=true):Zd1 N P=some (if lcmL P<=960 then ((lcmL P:Int),0) else (0,6)):=by
 rw [ZjX hN (by omega)]
 unfold Zmm
 rw [Z1 (by simp;omega),Z2 (Zmq h)]
 rfl
theorem ZfC {α ρ:Type}{l:List α}{p:α->Bool}{body:Int->Option (Int⊕ρ)}{bad fin:ρ}(hstep:∀ (k:Nat) (h:k<l.length),body (k:Int)=if p l[k]=true then some (.inl ((k+1:Nat):Int)) else some (.inr bad))
  (hend:body (l.length:Int)=some (.inr fin)) {N:Nat} (hN:l.length<N):ZaW body N 0=some (if l.all p=true then fin else bad):=by
 have:=ZkX hstep hend l.length N 0 (by omega) (by omega) hN
 rw [show ((0:Nat):Int)=0 from rfl] at this
 rw [this,List.drop_zero]
theorem ZlM {P:List Int}{u:ZaJ}(h0:0<=u.Stream)(h1:u.Stream<(P.length:Int)):idx P u.Stream=some (perU P u):=Zgo 0 h0 h1
theorem Zgc {P:List Int}{u:ZaJ}:useB P u=true↔0<=u.Stream/\u.Stream<(P.length:Int)/\0<=u.Port/\u.Port<48/\0<=u.From/\u.From<perU P u/\1<=u.Long/\u.Long<=perU P u:=by simp [useB]
theorem ZeQ {N:Nat}(hN:2000<=N)(p:Z6):Zdz N p=some (if ZdZ p=true then 0 else 340):=by
 unfold Zdz ZdZ
 by_cases h1:p.Periods.length<=12
 ·by_cases h2:p.Uses.length<=192
  ·rw [Z1 (by simp;omega)]
   simp only [h1,h2,decide_true,Zj]
   rw [ZfC (l:=p.Periods) (p:=perB) (bad:=.inr 340) (fin:=.inl ()) (λk hk=>?_) (by simp [ZcJ]) (by omega)]
   ·cases hP:p.Periods.all perB with
    | false=>simp
    | true =>
     simp only [Z3,ZU,Zj]
     rw [Zh6 hN h1 hP,ZU]
     by_cases hc:lcmL p.Periods<=960
     ·rw [Z2 hc]
      simp only [bne_self_eq_false,Zg,Z0]
      rw [ZfC (l:=p.Uses) (p:=useB p.Periods) (bad:=.inr 340) (fin:=.inl ()) (λk hk=>?_) (by simp [ZcI]) (by omega)]
      ·cases hU:p.Uses.all (useB p.Periods) with
       | false=>simp
       | true=>simp [hc]
      simp only [ZcI]
      rw [Z2 (by simpa using hk),ZbM hk,ZU]
      have hw:w64 ((k:Int)+1)=((k+1:Nat):Int):=Za5 (by omega)
      rw [hw]
      by_cases hc:0<=p.Uses[k].Stream/\p.Uses[k].Stream<(p.Periods.length:Int)/\0<=p.Uses[k].Port/\p.Uses[k].Port<48
      ·obtain ⟨c1,c2,c3,c4⟩:=hc
       rw [Z1 (by simp;omega),ZlM c1 c2]
       simp only [ZU]
       by_cases hu:useB p.Periods p.Uses[k]=true
       ·obtain ⟨_,_,_,_,u1,u2,u3,u4⟩:=Zgc.1 hu
        rw [Z1 (by simp;omega),Z2 hu]
       have hn:¬ (0<=p.Uses[k].From/\p.Uses[k].From<perU p.Periods p.Uses[k]/\1<=p.Uses[k].Long/\p.Uses[k].Long<=perU p.Periods p.Uses[k]):=λq=>hu (Zgc.2 ⟨c1,c2,c3,c4,q⟩)
       rw [Z1 hu,Z2 (by simp;omega)]
      have hu:¬ useB p.Periods p.Uses[k]=true:=λq=>hc (by obtain ⟨a,b,c,d,_⟩:=Zgc.1 q;exact ⟨a,b,c,d⟩)
      rw [Z2 (by simp;omega),Z1 hu]
     rw [Z1 hc];simp [hc]
   simp only [ZcJ]
   rw [Z2 (by simpa using hk),ZbM hk]
   simp only [ZU]
   rw [Za5 (by omega)]
   by_cases c:perB p.Periods[k]=true
   ·have:=Zhx.1 c
    rw [Z1 (by simp;omega),Z2 c]
   rw [Z2,Z1 c]
   simp [perB] at c ⊢;omega
  rw [Z2 (by simp;omega)];simp [h2]
 rw [Z2 (by simp;omega)];simp [h1]
theorem ZkF {p:Z6}:ZdZ p=true↔p.Periods.length<=12/\p.Uses.length<=192/\p.Periods.all perB=true/\p.Uses.all (useB p.Periods)=true/\lcmL p.Periods<=960:=by
 unfold ZdZ
 simp only [Ze,ZZ]
 constructor
 ·rintro ⟨⟨⟨⟨a,b⟩,c⟩,d⟩,e⟩;exact ⟨a,b,c,d,e⟩
 rintro ⟨a,b,c,d,e⟩;exact ⟨⟨⟨⟨a,b⟩,c⟩,d⟩,e⟩
end Go.Sh
namespace Go.Sh
open Go Go.Eng
structure VP (p:Z6):Prop where
 len:p.Periods.length<=12
 uses:p.Uses.length<=192
 per:∀ q∈p.Periods,1<=q/\q<=240
 use:∀ u∈p.Uses,0<=u.Stream/\u.Stream<(p.Periods.length:Int)/\0<=u.Port/\u.Port<48/\0<=u.From/\u.From<perU p.Periods u/\1<=u.Long/\u.Long<=perU p.Periods u
 lcm:lcmL p.Periods<=960
 lpos:0<lcmL p.Periods
theorem VP.of {p:Z6}(h:ZdZ p=true):VP p:=by
 obtain ⟨h1,h2,h3,h4,h5⟩:=ZkF.1 h
 exact ⟨h1,h2,λq hq=>Zhx.1 (List.all_eq_true.1 h3 q hq),λu hu=>Zgc.1 (List.all_eq_true.1 h4 u hu),h5,ZoC h3⟩
theorem Zpd {P:List Int}{u:ZaJ}(h0:0<=u.Stream)(h1:u.Stream<(P.length:Int)):perU P u∈P:=by
 unfold perU
 rw [ZaZ (by omega)]
 exact List.getElem_mem _
theorem VP.peru {p:Z6}(h:VP p){u:ZaJ}(hu:u∈p.Uses):1<=perU p.Periods u/\perU p.Periods u<=240:=by
 obtain ⟨a,b,_⟩:=h.use u hu
 exact h.per _ (Zpd a b)
def Zds (p:Z6)(u:ZaJ)(x:Int):Zah:=⟨perU p.Periods u,(u.From+x)%perU p.Periods u,u.Long⟩
def u0:ZaJ:=⟨0,0,0,0⟩
theorem VP.vspan {p:Z6}(h:VP p){u:ZaJ}(hu:u∈p.Uses)(x:Int):VSpan (Zds p u x):=by
 obtain ⟨_,_,_,_,_,_,h1,h2⟩:=h.use u hu
 obtain ⟨h3,h4⟩:=h.peru hu
 have h5:=Int.emod_nonneg (u.From+x) (show perU p.Periods u≠0 by omega)
 have h6:=Int.emod_lt_of_pos (u.From+x) (show 0<perU p.Periods u by omega)
 show 1<=perU p.Periods u/\perU p.Periods u<=960/\0<=(u.From+x)%perU p.Periods u/\(u.From+x)%perU p.Periods u<perU p.Periods u/\1<=u.Long/\u.Long<=perU p.Periods u
 omega
theorem VP.rem {p:Z6}(h:VP p){u:ZaJ}(hu:u∈p.Uses){x:Int}(h0:0<=x)(h1:x<=1000000):remI (w64 (u.From+x)) (perU p.Periods u)=some ((u.From+x)%perU p.Periods u):=by
 obtain ⟨_,_,_,_,h5,h6,h7,h8⟩:=h.use u hu
 obtain ⟨h3,h4⟩:=h.peru hu
 rw [Zbu (by omega) (by omega),ZbS (by omega),Zk (by omega)]
theorem ZeY (N:Nat){p:Z6}(h:VP p){u:ZaJ}(hu:u∈p.Uses){x:Int}(h0:0<=x)(h1:x<=1000000):ZcG N p u x=some (Zds p u x):=by
 obtain ⟨a,b,_⟩:=h.use u hu
 unfold ZcG
 rw [ZlM a b,ZU,h.rem hu h0 h1,ZU]
 rfl
theorem ZhZ (N:Nat){p:Z6}(h:VP p){k:Nat}(hk:k<p.Uses.length){x:Int}(h0:0<=x)(h1:x<=1000000):Zfr N p k x=some (Zds p (p.Uses.getD k u0) x):=by
 have hu:p.Uses[k]∈p.Uses:=List.getElem_mem hk
 obtain ⟨a,b,_⟩:=h.use _ hu
 unfold Zfr
 rw [ZbM hk]
 simp only [ZU]
 rw [ZlM a b,ZU,h.rem hu h0 h1,ZU,ZaZ hk]
 rfl
def offB (p:Z6)(i x:Int):Bool:=decide (0<=i/\i<(p.Periods.length:Int)/\0<=x/\x<p.Periods.getD i.toNat 0)
theorem ZcK {p:Z6}{i x:Int}:offB p i x=true↔0<=i/\i<(p.Periods.length:Int)/\0<=x/\x<p.Periods.getD i.toNat 0:=by simp [offB]
theorem Zet (N:Nat){p:Z6}{i x:Int}(h0:0<=i)(h1:i<(p.Periods.length:Int)):ZcX N p i x=some (offB p i x):=by
 unfold ZcX
 by_cases hx:x≥0
 ·rw [Z2 (by simpa using hx),Zgo 0 h0 h1]
  simp only [ZU]
  congr 1
  rw [Zf,ZcK]
  simp
  omega
 rw [Z1 (by simpa using hx),ZU]
 congr 1
 symm
 rw [Bool.eq_false_iff]
 intro q
 have:=ZcK.1 q
 omega
def hitB (p:Z6)(i a j b:Int)(k m:Nat):Bool :=
 decide (k≠m)&&(((p.Uses.getD k u0).Stream==i)&&(((p.Uses.getD m u0).Stream==j)&&(((p.Uses.getD k u0).Port==(p.Uses.getD m u0).Port) &&
  !(decide (SepD (Zds p (p.Uses.getD k u0) a) (Zds p (p.Uses.getD m u0) b) ((Zds p (p.Uses.getD m u0) b).From-(Zds p (p.Uses.getD k u0) a).From))))))
def Zb6 (p:Z6)(i a j b:Int):Bool := !(allB p.Uses.length λk=>allB p.Uses.length λm => !(hitB p i a j b k m))
theorem ZfP {N:Nat}(hN:2000<=N){p:Z6}(h:VP p){i a j b:Int}(ha:0<=a)(ha2:a<=1000)(hb:0<=b)(hb2:b<=1000):Zdy N p i a j b=some (Zb6 p i a j b):=by
 have hl:=h.uses
 unfold Zdy
 rw [Zd3 (n:=p.Uses.length) (p:=λk=>allB p.Uses.length λm => !(hitB p i a j b k m)) (bad:=.inr true) (fin:=.inl ()) (λk hk=>?_) (by simp [Zcn]) (by omega)]
 ·unfold Zb6
  cases allB p.Uses.length λk=>allB p.Uses.length λm => !(hitB p i a j b k m)<;>rfl
 simp only [Zcn]
 rw [Z2 (by simpa using hk),Zd3 (n:=p.Uses.length) (p:=λm => !(hitB p i a j b k m)) (bad:=.inr true) (fin:=.inl ()) (λm hm=>?_) (by simp [Zcm]) (by omega)]
 ·have hw:w64 ((k:Int)+1)=((k+1:Nat):Int):=Za5 (by omega)
  cases allB p.Uses.length λm => !(hitB p i a j b k m) with
  | false=>rfl
  | true=>simp only [Z3,ZU];rw [hw]
 simp only [Zcm]
 have hw:w64 ((m:Int)+1)=((m+1:Nat):Int):=Za5 (by omega)
 rw [Z2 (by simpa using hm),ZbM hk,ZbM hm,hw]
 simp only [ZU]
 rw [ZhZ N h hk ha (by omega),ZhZ N h hm hb (by omega)]
 simp only [ZU]
 rw [ZaZ hk,ZaZ hm,VSpan.separate hN (h.vspan (List.getElem_mem hk) a) (h.vspan (List.getElem_mem hm) b)]
 simp only [ZU]
 unfold hitB
 rw [ZaZ hk,ZaZ hm]
 by_cases c0:k=m
 ·subst c0;simp
 rw [Z2 (by simp;omega)]
 cases c1:(p.Uses[k].Stream==i) with
 | false=>simp
 | true =>
  cases c2:(p.Uses[m].Stream==j) with
  | false=>simp
  | true =>
   cases c3:(p.Uses[k].Port==p.Uses[m].Port) with
   | false=>simp
   | true =>
    simp only [Z3,ZU,c0,ne_eq,not_false_eq_true,decide_true,Zj,Bool.not_not]
    cases decide (SepD (Zds p p.Uses[k] a) (Zds p p.Uses[m] b) ((Zds p p.Uses[m] b).From-(Zds p p.Uses[k] a).From))<;>rfl
theorem Zol {s:Zah}(hs:VSpan s):¬ SepD s s (s.From-s.From):=by
 have:=hs.bounds
 unfold SepD
 simp
 omega
theorem Zo3 {u v:ZaJ}(h:(((u.Stream==v.Stream)&&((u.Port==v.Port)&&((u.From==v.From)&&((u.Long==v.Long)&&true))))=true)):u=v:=by
 obtain ⟨a,b,c,d⟩:=u
 obtain ⟨a',b',c',d'⟩:=v
 simp at h
 obtain ⟨rfl,rfl,rfl,rfl⟩:=h
 rfl
theorem ZdS {N:Nat}(hN:2000<=N){p:Z6}(h:VP p){i a j b:Int}(ha:0<=a)(ha2:a<=1000)(hb:0<=b)(hb2:b<=1000)(hij:i=j->a=b):ZcH N p i a j b=some (Zb6 p i a j b):=by
 have hl:=h.uses
 unfold ZcH Zft
 simp only [ZU]
 have round:∀ k m:Nat,∀ (hk:k<p.Uses.length) (hm:m<p.Uses.length),p.Uses[k].Stream=i->p.Uses[m].Stream=j →
   Zbk N p a b false p.Uses[k] p.Uses[m]=some (if SepD (Zds p p.Uses[k] a) (Zds p p.Uses[m] b) ((Zds p p.Uses[m] b).From-(Zds p p.Uses[k] a).From) then (false,0) else (true,1)):=by
  intro k m hk hm e1 e2
  unfold Zbk
  have hv1:=h.vspan (List.getElem_mem hk) a
  have hv2:=h.vspan (List.getElem_mem hm) b
  by_cases c:((p.Uses[k].Stream==p.Uses[m].Stream)&&((p.Uses[k].Port==p.Uses[m].Port)&&((p.Uses[k].From==p.Uses[m].From)&&((p.Uses[k].Long==p.Uses[m].Long)&&true))))=true
  ·rw [Z2 c]
   have e:=Zo3 c
   have hab:a=b:=hij (by rw [← e1,← e2,e])
   subst hab
   rw [← e,Z1 (Zol hv1)]
  have hA:=Zhs hN (Zds p p.Uses[k] a) (Zds p p.Uses[m] b)
  rw [Z2 ⟨hv1,hv2⟩] at hA
  rw [Z1 c,ZeY N h (List.getElem_mem hk) ha (by omega),ZU,ZeY N h (List.getElem_mem hm) hb (by omega),ZU,hA,ZU]
  by_cases s:SepD (Zds p p.Uses[k] a) (Zds p p.Uses[m] b) ((Zds p p.Uses[m] b).From-(Zds p p.Uses[k] a).From)
  ·simp [s]
  simp [s]
 have loop:ZdI N (λ(s:Bool×Nat) (x16:ZaJ) (x17:ZaJ)=>ZhH (λv:Bool=>Zbk N p a b v x16 x17) s) p i j (false,0)=some (if Zb6 p i a j b=true then (true,1) else (false,0)):=by
  unfold ZdI
  rw [(Zim (n:=p.Uses.length) (p:=λk=>allB p.Uses.length λm => !(hitB p i a j b k m)) (f:=λs _=>s) (bad:=.inr (true,1)) (fin:=λs=>.inl s) (λ_ s=>s=(false,0)) (λk s hk hs=>?_) (λ_ s _ hs _=>hs) (λs _=>by simp [Zb5]) (N:=N) (by omega) rfl).1]
  ·unfold Zb6
   have hf:∀ (l:List Nat),l.foldl (λ(s:Bool×Nat) _=>s) (false,0)=(false,0):=by
    intro l;induction l with
    | nil=>rfl
    | cons x l ih=>simpa using ih
   rw [hf]
   cases allB p.Uses.length λk=>allB p.Uses.length λm => !(hitB p i a j b k m)<;>rfl
  subst hs
  simp only [Zb5]
  have hw:w64 ((k:Int)+1)=((k+1:Nat):Int):=Za5 (by omega)
  rw [Z2 (by simpa using hk),ZbM hk,ZU,hw]
  by_cases c1:p.Uses[k].Stream=i
  ·rw [Z1 (by simpa using c1)]
   rw [(Zim (n:=p.Uses.length) (p:=λm => !(hitB p i a j b k m)) (f:=λs _=>s) (bad:=.inr (true,1)) (fin:=λs=>.inl s) (λ_ s=>s=(false,0)) (λm s hm hs=>?_) (λ_ s _ hs _=>hs) (λs _=>by simp [Zb4]) (N:=N) (by omega) rfl).1]
   ·have hf:∀ (l:List Nat),l.foldl (λ(s:Bool×Nat) _=>s) (false,0)=(false,0):=by
     intro l;induction l with
     | nil=>rfl
     | cons x l ih=>simpa using ih
    rw [hf]
    cases allB p.Uses.length λm => !(hitB p i a j b k m)<;>rfl
   subst hs
   simp only [Zb4]
   have hw2:w64 ((m:Int)+1)=((m+1:Nat):Int):=Za5 (by omega)
   rw [Z2 (by simpa using hm),ZbM hm,ZU,hw2]
   unfold hitB
   rw [ZaZ hk,ZaZ hm]
   by_cases c0:k=m
   ·subst c0;simp
   have c0':((m:Int)==(k:Int))=false:=by simp;omega
   rw [c0']
   simp only [Zg,Z0]
   by_cases c2:p.Uses[m].Stream=j
   ·rw [Z1 (by simpa using c2),ZU]
    by_cases c3:p.Uses[k].Port=p.Uses[m].Port
    ·rw [Z1 (by simp [c3])]
     unfold ZhH
     simp only [Z3]
     rw [round k m hk hm c1 c2]
     simp only [c0,c1,c2,c3,ne_eq,not_false_eq_true,decide_true,Zj,beq_self_eq_true,Bool.not_not]
     by_cases s:SepD (Zds p p.Uses[k] a) (Zds p p.Uses[m] b) ((Zds p p.Uses[m] b).From-(Zds p p.Uses[k] a).From)
     ·simp [s]
     simp [s]
    rw [Z2 (by simp;exact λq=>c3 q.symm)]
    simp [c3]
   rw [Z2 (by simpa using c2),ZU]
   simp [c2]
  rw [Z2 (by simpa using c1)]
  have:(allB p.Uses.length λm => !(hitB p i a j b k m))=true:=by
   rw [Zcv]
   intro m hm
   unfold hitB
   rw [ZaZ hk]
   simp [c1]
  rw [this,Z2 rfl]
 rw [loop,ZU]
 cases Zb6 p i a j b<;>rfl
def argB (p:Z6)(i a j b:Int):Bool:=offB p i a&&offB p j b && !(decide (i=j)&&decide (a≠b))
def Zdo (p:Z6)(i a j b:Int):Bool×Int:=if ZdZ p=true then (if argB p i a j b=true then (Zb6 p i a j b,0) else (false,2)) else (false,340)
theorem Zgl {p:Z6}(h:VP p){i x:Int}(ho:offB p i x=true):0<=x/\x<240:=by
 obtain ⟨a,b,c,d⟩:=ZcK.1 ho
 rw [ZaZ (by omega)] at d
 have:=h.per _ (List.getElem_mem (show i.toNat<p.Periods.length by omega))
 omega
theorem Ze0 {N:Nat}(hN:2000<=N)(p:Z6)(i a j b:Int):ZaH N p i a j b=some (Zdo p i a j b):=by
 unfold ZaH Zdo
 rw [ZeQ hN,ZU]
 cases hp:ZdZ p with
 | false=>rfl
 | true =>
  have h:=VP.of hp
  simp only [Z3,bne_self_eq_false,Zg,Z0]
  by_cases c1:0<=i/\i<(p.Periods.length:Int)/\0<=j/\j<(p.Periods.length:Int)
  ·obtain ⟨i1,i2,j1,j2⟩:=c1
   rw [Z1 (by simp;omega),Zet N i1 i2,Zet N j1 j2]
   simp only [ZU]
   unfold argB
   cases o1:offB p i a with
   | false=>rfl
   | true =>
    cases o2:offB p j b with
    | false=>rfl
    | true =>
     simp only [Bool.not_true,Zg,Z0,Zj]
     have b1:=Zgl h o1
     have b2:=Zgl h o2
     by_cases c:i=j
     ·by_cases d:a=b
      ·rw [ZdS hN h b1.1 (by omega) b2.1 (by omega) (λ_=>d)]
       simp [c,d]
      simp [c,d]
     rw [ZdS hN h b1.1 (by omega) b2.1 (by omega) (λq=>absurd q c)]
     simp [c]
  rw [Z2 (by simp;omega)]
  have:argB p i a j b=false:=by
   unfold argB
   rw [Bool.eq_false_iff]
   intro q
   simp only [Ze] at q
   have q1:=ZcK.1 q.1.1
   have q2:=ZcK.1 q.1.2
   omega
  rw [this];rfl
end Go.Sh

namespace Go.Sh
open Go Go.Eng
def upF {σ:Type}(step:Nat->σ->Option σ):Nat->σ->Option σ
 | 0,s=>some s
 | n+1,s=>(upF step n s).bind (step n)
theorem Zoe {σ:Type}{step:Nat->σ->Option σ}{k:Nat}{s:σ}(h:upF step k s=none):∀ n,k<=n->upF step n s=none:=by
 intro n hn
 induction n with
 | zero =>
  obtain rfl:k=0:=by omega
  exact h
 | succ n ih =>
  by_cases e:k=n+1
  ·subst e;exact h
  simp only [upF];rw [ih (by omega)];rfl
theorem Zj6 {σ τ ρ:Type}(mk:Int->σ->τ)(ix:τ->Int)(hix:∀ k s,ix (mk k s)=k){step:Nat->σ->Option σ}{body:τ->Option (τ⊕ρ)}{n:Nat}{s0:σ}{bad:ρ}{fin:σ->ρ}
  (hstep:∀ (k:Nat) (s:σ),k<n->upF step k s0=some s->body (mk k s)=match step k s with|some s'=>some (.inl (mk ((k+1:Nat):Int) s'))|none=>some (.inr bad))
  (hend:∀ s,upF step n s0=some s->body (mk n s)=some (.inr (fin s))) {N:Nat} (hN:n<N) :
  ZaW body N (mk 0 s0)=some (match upF step n s0 with|some s=>fin s|none=>bad):=by
 obtain ⟨r,hr,e⟩:=Zb0 (body:=body) (λx=>∃ (k:Nat) (s:σ),x=mk k s/\k<=n/\upF step k s0=some s) (λx=>(n-ix x).toNat) (λr=>r=match upF step n s0 with|some s=>fin s|none=>bad) (λx hx=>by
  obtain ⟨k,s,rfl,k2,k3⟩:=hx
  by_cases c:k<n
  ·have hb:=hstep k s c k3
   cases hs:step k s with
   | some s' =>
    rw [hs] at hb
    left
    refine ⟨_,hb,⟨k+1,s',rfl,by omega,by simp only [upF];rw [k3];exact hs⟩,by rw [hix,hix];omega⟩
   | none =>
    rw [hs] at hb
    right
    refine ⟨_,hb,?_⟩
    have:upF step (k+1) s0=none:=by simp only [upF];rw [k3];exact hs
    rw [Zoe this n (by omega)]
  right
  obtain rfl:k=n:=by omega
  exact ⟨_,hend s k3,by rw [k3]⟩) N (mk 0 s0) ⟨0,s0,rfl,by omega,rfl⟩ (by rw [hix];omega)
 rw [hr,e]
section
variable {N:Nat} {p:Z6} {f:List Z7}
def ZbV (nP len c:Int)(a:Zax):Bool :=
 if a.By = -1 then decide (a.To=w64 (a.From+1)/\c<a.Next/\a.Next<len)
 else if a.Next=0 then (if a.By = -2 then decide (c=0/\a.From≠0) else decide (0<=a.By/\a.By<nP)) else false
def Zi0 (nP len c per at_:Int)(a:Zax):Bool:=decide (a.From=at_/\a.From<a.To/\a.To<=per)&&ZbV nP len c a
def ZcZ (nP len c per:Int)(l:List Zax)(k:Nat)(at_:Int):Option Int:=(l[k]?).bind λa=>if Zi0 nP len c per at_ a=true then some a.To else none
def ZiE (nP len c per:Int)(l:List Zax):Bool:=match upF (ZcZ nP len c per l) l.length 0 with
 | some e=>e==per
 | none=>false
theorem ZgI (c:Nat)(a:Zax):ZcP N p f (c:Int) a=some (ZbV p.Periods.length f.length c a):=by
 unfold ZcP ZbV
 by_cases h1:a.By = -1
 ·rw [Z2 (by simpa using h1),Z2 h1]
  congr 1
  rw [Zf]
  simp only [Ze,beq_iff_eq,ZZ,gt_iff_lt]
 rw [Z1 (by simpa using h1),Z1 h1]
 by_cases h2:a.Next=0
 ·rw [Z1 (by simpa using h2),Z2 h2]
  by_cases h3:a.By = -2
  ·rw [Z2 (by simpa using h3),Z2 h3]
   congr 1
   rw [Zf]
   simp
  rw [Z1 (by simpa using h3),Z1 h3]
  congr 1
  rw [Zf]
  simp
 rw [Z2 (by simpa using h2),Z1 h2]
def Zn0 (nP len c per:Int)(l:List Zax):Int⊕Bool:=match upF (ZcZ nP len c per l) l.length 0 with
 | some e=>.inl e
 | none=>.inr false
theorem ZmV {c per:Int}{l:List Zax}{body:Int×Int->Option ((Int×Int)⊕(Int⊕Bool))}{nP len:Int}
  (hstep:∀ (k:Nat) (e:Int) (h:k<l.length),body (e,(k:Int))=if Zi0 nP len c per e l[k]=true then some (.inl (l[k].To,((k+1:Nat):Int))) else some (.inr (.inr false)))
  (hend:∀ e,body (e,(l.length:Int))=some (.inr (.inl e))) (hN:l.length<N):ZaW body N (0,0)=some (Zn0 nP len c per l):=by
 have:=Zj6 (λk (s:Int)=>(s,k)) (·.2) (λ_ _=>rfl) (ρ:=Int⊕Bool) (body:=body) (step:=ZcZ nP len c per l) (n:=l.length) (s0:=0) (fin:=λe=>.inl e) (bad:=.inr false) (λk s hk _=>by
  rw [hstep k s hk]
  unfold ZcZ
  rw [Zy hk,ZU]
  by_cases h:Zi0 nP len c per s l[k]=true
  ·rw [Z2 h,Z2 h]
  rw [Z1 h,Z1 h]) (λs _=>hend s) hN
 rw [this]
 unfold Zn0
 cases upF (ZcZ nP len c per l) l.length 0<;>rfl
theorem Zpu {nP len c per:Int}{l:List Zax}:(match Zn0 nP len c per l with | .inl e=>e==per | .inr b=>b)=ZiE nP len c per l:=by
 unfold Zn0 ZiE
 cases upF (ZcZ nP len c per l) l.length 0<;>rfl
def Zbw (p:Z6)(f:List Z7)(c:Nat):Bool:=match f[c]? with
 | some x=>decide (0<=x.Stream/\x.Stream<(p.Periods.length:Int))&&ZiE p.Periods.length f.length c (p.Periods.getD x.Stream.toNat 0) x.Arms
 | none=>false
theorem ZeG {nP len c per e:Int}{a:Zax}(h:Zi0 nP len c per e a=true):a.From=e/\a.From<a.To/\a.To<=per/\ZbV nP len c a=true:=by
 simp only [Zi0,Ze,ZZ] at h
 exact ⟨h.1.1,h.1.2.1,h.1.2.2,h.2⟩
theorem ZiU {c:Nat}(hc:c<f.length)(h0:0<=f[c].Stream)(h1:f[c].Stream<(p.Periods.length:Int))(hl:f[c].Arms.length<1000000)(hN:f[c].Arms.length<N) :
  Zea N p f (c:Int)=some (ZiE p.Periods.length f.length c (p.Periods.getD f[c].Stream.toNat 0) f[c].Arms):=by
 obtain ⟨x,hx⟩:∃ x,x=f[c]:=⟨_,rfl⟩
 obtain ⟨per,hper⟩:∃ per,per=p.Periods.getD x.Stream.toNat 0:=⟨_,rfl⟩
 unfold Zea
 rw [ZbM hc,ZU,← hx]
 rw [← hx] at h0 h1 hl hN
 rw [Zgo 0 h0 h1,ZU,← hper,ZU]
 rw [ZmV (nP:=p.Periods.length) (len:=f.length) (c:=c) (per:=per) (l:=x.Arms) (λk e hk=>by
   simp only [Zcq]
   rw [Z2 (by simpa using hk),ZbM hk,ZU,ZgI,Za5 (by omega)]
   simp only [ZU]
   by_cases h:Zi0 p.Periods.length f.length c per e x.Arms[k]=true
   ·obtain ⟨a1,a2,a3,a4⟩:=ZeG h
    rw [Z2 h,Z1 (by simpa using a1),Z1 (by simpa using a2),Z1 (by simpa using a3),a4]
    rfl
   rw [Z1 h]
   by_cases a1:x.Arms[k].From=e
   ·by_cases a2:x.Arms[k].From<x.Arms[k].To
    ·by_cases a3:x.Arms[k].To<=per
     ·have a4:ZbV p.Periods.length f.length c x.Arms[k]=false:=by
       cases hr:ZbV p.Periods.length f.length c x.Arms[k] with
       | false=>rfl
       | true=>exact absurd (by simp [Zi0,a1 ▸ a2,a3,hr,a1]) h
      rw [Z1 (by simpa using a1),Z1 (by simpa using a2),Z1 (by simpa using a3),a4]
      rfl
     rw [Z1 (by simpa using a1),Z1 (by simpa using a2),Z2 (by simpa using a3)];rfl
    rw [Z1 (by simpa using a1),Z2 (by simpa using a2)];rfl
   rw [Z2 (by simpa using a1)];rfl) (λe=>by simp [Zcq]) hN,ZU,← Zpu]
 cases Zn0 p.Periods.length f.length c per x.Arms<;>rfl
end
end Go.Sh

namespace Go.Sh
open Go Go.Eng
theorem Zlo {σ:Type}{step:Nat->σ->Option σ}:∀ {n:Nat} {s0 s:σ},upF step n s0=some s->∀ k,k<n->∃ s1 s2,upF step k s0=some s1/\step k s1=some s2
 | 0,_,_,_,k,hk=>by omega
 | n+1,s0,s,h,k,hk=>by
  simp only [upF] at h
  obtain ⟨s1,h1,h2⟩:=bind_some h
  by_cases e:k=n
  ·subst e;exact ⟨s1,s,h1,h2⟩
  exact Zlo h1 k (by omega)
section
variable {N:Nat} {p:Z6} {f:List Z7}
theorem Zld {nP len c per:Int}{l:List Zax}(h:ZiE nP len c per l=true):∀ a∈l,ZbV nP len c a=true:=by
 intro a ha
 obtain ⟨k,hk,rfl⟩:=List.getElem_of_mem ha
 unfold ZiE at h
 cases hu:upF (ZcZ nP len c per l) l.length 0 with
 | none=>rw [hu] at h;cases h
 | some s =>
  obtain ⟨s1,s2,_,h2⟩:=Zlo hu k hk
  unfold ZcZ at h2
  rw [Zy hk,ZU] at h2
  by_cases c1:Zi0 nP len c per s1 l[k]=true
  ·exact (ZeG c1).2.2.2
  rw [Z1 c1] at h2;cases h2
theorem ZeE {c:Nat}(hc:c<f.length):Zbw p f c=(decide (0<=f[c].Stream/\f[c].Stream<(p.Periods.length:Int))&&ZiE p.Periods.length f.length c (p.Periods.getD f[c].Stream.toNat 0) f[c].Arms):=by
 unfold Zbw
 rw [Zy hc]
def bump (l:List Int)(a:Zax):List Int:=if a.By = -1 then l.set a.Next.toNat (w64 (l.getD a.Next.toNat 0+1)) else l
def ZnV (f:List Z7)(k:Nat)(l:List Int):List Int:=match f[k]? with
 | some x=>x.Arms.foldl bump l
 | none=>l
def Zg9 (f:List Z7):Nat->List Int->List Int
 | 0,l=>l
 | k+1,l=>ZnV f k (Zg9 f k l)
theorem ZoG (l:List Int)(a:Zax):(bump l a).length=l.length:=by
 unfold bump
 by_cases h:a.By = -1
 ·rw [Z2 h];simp
 rw [Z1 h]
theorem ZiA:∀ (as:List Zax) (l:List Int),(as.foldl bump l).length=l.length
 | [],_=>rfl
 | a::as,l=>by rw [List.foldl_cons,ZiA as,ZoG]
theorem Zfy (f:List Z7)(l:List Int):∀ k,(Zg9 f k l).length=l.length
 | 0=>rfl
 | k+1=>by
  unfold Zg9 ZnV
  cases f[k]? with
  | none=>exact Zfy f l k
  | some x=>simp only;rw [ZiA,Zfy f l k]
theorem ZnU {l:List Int}{as:List Zax}{body:Int×List Int->Option ((Int×List Int)⊕List Int)}(hl:as.length<1000000)
  (hstep:∀ (k:Nat) (m:List Int) (h:k<as.length),m.length=l.length->body ((k:Int),m)=some (.inl (((k+1:Nat):Int),bump m as[k])))
  (hend:∀ m,body ((as.length:Int),m)=some (.inr m)) (hN:as.length<N):ZaW body N (0,l)=some (as.foldl bump l):=by
 obtain ⟨r,hr,e⟩:=Zb0 (body:=body) (λx=>∃ k:Nat,x.1=k/\k<=as.length/\x.2=(as.take k).foldl bump l) (λx=>(as.length-x.1).toNat) (λr=>r=as.foldl bump l) (λx hx=>by
  obtain ⟨i,m⟩:=x
  obtain ⟨k,k1,k2,k3⟩:=hx
  simp only at k1 k3
  subst k1 k3
  by_cases c:k<as.length
  ·left
   refine ⟨_,hstep k _ c (by rw [ZiA]),⟨k+1,rfl,by omega,?_⟩,by simp;omega⟩
   rw [List.take_succ_eq_append_getElem c,List.foldl_append]
   rfl
  right
  obtain rfl:k=as.length:=by omega
  exact ⟨_,hend _,by rw [List.take_length]⟩) N (0,l) ⟨0,rfl,by omega,rfl⟩ (by simp;omega)
 rw [hr,e]
theorem ZoH {m:List Int}{a:Zax}{nP c:Int}(hr:ZbV nP m.length c a=true)(hc:0<=c)(hb:a.By = -1):0<=a.Next/\a.Next<(m.length:Int):=by
 unfold ZbV at hr
 rw [Z2 hb,ZZ] at hr
 omega
end
end Go.Sh

namespace Go.Sh
open Go Go.Eng
section
variable {N:Nat} {p:Z6} {f:List Z7}
def Zgd (p:Z6)(f:List Z7)(k:Nat)(l:List Int):Option (List Int):=if Zbw p f k=true then some (ZnV f k l) else none
theorem ZjB (l:List Int):∀ n,upF (Zgd p f) n l=if allB n (Zbw p f)=true then some (Zg9 f n l) else none
 | 0=>by simp [upF,allB,Zg9]
 | n+1=>by
  simp only [upF]
  rw [ZjB l n]
  have e:allB (n+1) (Zbw p f)=(allB n (Zbw p f)&&Zbw p f n):=by
   unfold allB
   rw [List.range_succ,List.all_append]
   simp
  rw [e]
  cases h1:allB n (Zbw p f) with
  | false=>simp
  | true =>
   simp only [Z3,ZU,Zj]
   unfold Zgd
   cases h2:Zbw p f n<;>simp [Zg9]
def Zk6 (p:Z6)(f:List Z7):Bool :=
 decide (1<=f.length/\f.length<=2000)&&allB f.length (Zbw p f)&&((Zg9 f f.length (List.replicate f.length 0)).drop 1).all (· == 1)
theorem ZfD {c:Nat}(h:Zbw p f c=true):∃ hc:c<f.length,0<=f[c].Stream/\f[c].Stream<(p.Periods.length:Int)/\ZiE p.Periods.length f.length c (p.Periods.getD f[c].Stream.toNat 0) f[c].Arms=true:=by
 by_cases hc:c<f.length
 ·rw [ZeE hc,Ze,ZZ] at h
  exact ⟨hc,h.1.1,h.1.2,h.2⟩
 unfold Zbw at h
 rw [Zz (by omega)] at h
 cases h
theorem ZmS {c:Nat}{l:List Int}(h:Zbw p f c=true)(hl:l.length=f.length)(ha:∀ x∈f,x.Arms.length<1000000/\x.Arms.length<N){x:Z7}(hx:f[c]?=some x) :
  ZaW (λy:Int×(List Int)=>ZbJ N x y.1 y.2) N (0,l)=some (ZnV f c l):=by
 obtain ⟨hc,h0,h1,h2⟩:=ZfD h
 rw [Zy hc] at hx
 cases hx
 have hb:=ha _ (List.getElem_mem hc)
 rw [ZnU hb.1 (λk m hk hm=>?_) (λm=>by simp [ZbJ]) hb.2]
 ·unfold ZnV
  rw [Zy hc]
 have hr:=Zld h2 _ (List.getElem_mem hk)
 rw [← hl,← hm] at hr
 simp only [ZbJ]
 rw [Z2 (by simpa using hk),ZbM hk,ZU,Za5 (by omega)]
 unfold bump
 by_cases b:f[c].Arms[k].By = -1
 ·obtain ⟨n0,n1⟩:=ZoH hr (by omega) b
  rw [Z2 (by simpa using b),Z2 b,Zgo 0 n0 n1]
  rfl
 rw [Z1 (by simpa using b),Z1 b]
 rfl
theorem Zh4 (hf:f.length<N)(hN:2000<=N)(ha:∀ x∈f,x.Arms.length<1000000/\x.Arms.length<N):ZdH N p f=some (Zk6 p f):=by
 unfold ZdH Zk6
 by_cases h1:1<=f.length/\f.length<=2000
 ·rw [Z1 (by simp;omega),decide_eq_true h1,Zj]
  have hm:Zii 8 ((List.length f:Nat):Int) ((List.length f:Nat):Int) (0:Int)=some (List.replicate f.length 0):=by
   unfold Zii
   rw [Z2 (by omega)]
   simp
  rw [hm,ZU]
  rw [Zj6 (λk (s:List Int)=>(k,s)) (·.1) (λ_ _=>rfl) (body:=λx:Int×(List Int)=>ZbK N p f x.1 x.2) (step:=Zgd p f) (n:=f.length) (s0:=List.replicate f.length 0) (bad:=.inr false) (fin:=λs=>.inl s) (λk s hk hs=>by
    have hsl:s.length=f.length:=by
     rw [ZjB] at hs
     by_cases q:allB k (Zbw p f)=true
     ·rw [Z2 q,ZW] at hs
      subst hs
      rw [Zfy];simp
     rw [Z1 q] at hs;cases hs
    simp only [ZbK]
    rw [Z2 (by simpa using hk),ZbM hk,ZU]
    unfold Zgd
    have hb:=ha _ (List.getElem_mem hk)
    by_cases c0:0<=f[k].Stream
    ·by_cases c1:f[k].Stream<(p.Periods.length:Int)
     ·rw [Z1 (by simpa using c0),Z1 (by simpa using c1),ZiU hk c0 c1 hb.1 hb.2,ZU,ZU,ZeE hk,decide_eq_true (show 0<=f[k].Stream/\f[k].Stream<(p.Periods.length:Int) from ⟨c0,c1⟩),Zj]
      cases h2:ZiE p.Periods.length f.length k (p.Periods.getD f[k].Stream.toNat 0) f[k].Arms with
      | false=>rfl
      | true =>
       have hch:Zbw p f k=true:=by rw [ZeE hk,decide_eq_true (show 0<=f[k].Stream/\f[k].Stream<(p.Periods.length:Int) from ⟨c0,c1⟩),h2];rfl
       simp only [Bool.not_true,Zg,Z0,Z3]
       rw [ZmS hch hsl ha (Zy hk),ZU,Za5 (by omega)]
     rw [Z1 (by simpa using c0),Z2 (by simpa using c1),ZU,Z2 rfl,ZeE hk,decide_eq_false (by omega)]
     rfl
    rw [Z2 (by simpa using c0),ZU,Z2 rfl,ZeE hk,decide_eq_false (by omega)]
    rfl) (λs _=>by simp [ZbK]) hf,ZU,ZjB]
  cases hall:allB f.length (Zbw p f) with
  | false=>rfl
  | true =>
   simp only [Z3,Zj]
   have hnl:=Zfy f (List.replicate f.length 0) f.length
   rw [List.length_replicate] at hnl
   obtain ⟨nm,hnm⟩:∃ nm,nm=Zg9 f f.length (List.replicate f.length 0):=⟨_,rfl⟩
   rw [← hnm] at hnl ⊢
   have hsub:subI nm 1 ((List.length nm:Nat):Int)=some (nm.drop 1):=by
    unfold subI
    rw [Z2 (by omega)]
    simp
   rw [hsub,ZU]
   rw [ZfC (l:=nm.drop 1) (p:=λx=>x==1) (bad:=.inr false) (fin:=.inl ()) (λk hk=>?_) (by simp [Zb3]) (by rw [List.length_drop];omega),ZU]
   ·cases (nm.drop 1).all λx=>x==1<;>rfl
   simp only [Zb3]
   rw [Z2 (by simpa using hk),ZbM hk,ZU,Za5 (by rw [List.length_drop] at hk;omega)]
   by_cases e:(nm.drop 1)[k]=1
   ·rw [Z1 (by simpa using e),Z2 (by simpa using e)]
   rw [Z2 (by simpa using e),Z1 (by simpa using e)]
 rw [Z2 (by simp;omega),decide_eq_false h1]
 rfl
end
end Go.Sh

namespace Go.Sh
open Go Go.Eng
theorem Zn3 {n:Nat}{q:Nat->Nat->Bool}:(allB n λk=>allB n λm=>q k m)=allB n λm=>allB n λk=>q k m:=by
 rw [Zf]
 simp only [Zcv]
 exact ⟨λh m hm k hk=>h k hk m hm,λh k hk m hm=>h m hm k hk⟩
theorem ZnH {p:Z6}(h:VP p){i a j b:Int}{k m:Nat}(hk:k<p.Uses.length)(hm:m<p.Uses.length):hitB p i a j b k m=hitB p j b i a m k:=by
 have e:=Zok (h.vspan (List.getElem_mem hk) a) (h.vspan (List.getElem_mem hm) b)
 unfold hitB
 rw [ZaZ hk,ZaZ hm,Zf]
 simp only [Ze,ZZ,beq_iff_eq,Zh,decide_eq_false_iff_not]
 rw [e]
 constructor
 ·rintro ⟨a,b,c,d,e⟩;exact ⟨λq=>a q.symm,c,b,d.symm,e⟩
 rintro ⟨a,b,c,d,e⟩;exact ⟨λq=>a q.symm,c,b,d.symm,e⟩
theorem Zja {p:Z6}(h:VP p)(i a j b:Int):Zb6 p i a j b=Zb6 p j b i a:=by
 unfold Zb6
 rw [Zn3]
 congr 1
 exact ZfH λk hk=>ZfH λm hm=>by rw [ZnH h hm hk]
def ZcY (p:Z6)(l:List Int):Bool:=decide (l.length=p.Periods.length)&&allB l.length λk=>offB p k (l.getD k 0)
def ZjI (p:Z6)(l:List Int):Bool:=allB l.length λi=>allB (i+1) λj => !(Zb6 p i (l.getD i 0) j (l.getD j 0))
def Zpp (p:Z6)(l:List Int):Bool×Int:=if ZdZ p=true then (if ZcY p l=true then (ZjI p l,0) else (false,2)) else (false,340)
theorem Zhy {p:Z6}{l:List Int}(h:ZcY p l=true):l.length=p.Periods.length/\∀ k,k<l.length->offB p k (l.getD k 0)=true:=by
 unfold ZcY at h
 rw [Ze,ZZ,Zcv] at h
 exact h
theorem ZkG {N:Nat}(hN:2000<=N)(p:Z6)(l:List Int):Zbc N p l=some (Zpp p l):=by
 unfold Zbc Zpp
 rw [ZeQ hN,ZU]
 cases hp:ZdZ p with
 | false=>rfl
 | true =>
  have h:=VP.of hp
  have hl:=h.len
  simp only [Z3,bne_self_eq_false,Zg,Z0]
  by_cases hc:l.length=p.Periods.length
  ·rw [Z1 (by simp [hc])]
   rw [Zd3 (n:=l.length) (p:=λk=>offB p k (l.getD k 0)) (bad:=.inr (false,2)) (fin:=.inl ()) (λk hk=>?_) (by simp [Zc5]) (by omega)]
   ·have e:ZcY p l=allB l.length λk=>offB p k (l.getD k 0):=by unfold ZcY;simp [hc]
    cases ho:allB l.length λk=>offB p k (l.getD k 0) with
    | false=>rw [e,ho];rfl
    | true =>
     rw [e,ho]
     simp only [Z3,ZU]
     rw [ho] at e
     obtain ⟨h1,h2⟩:=Zhy e
     unfold ZjI
     rw [Zd3 (n:=l.length) (p:=λi=>allB (i+1) λj => !(Zb6 p i (l.getD i 0) j (l.getD j 0))) (bad:=.inr (false,0)) (fin:=.inl ()) (λi hi=>?_) (by simp [Zc4]) (by omega)]
     ·cases allB l.length λi=>allB (i+1) λj => !(Zb6 p i (l.getD i 0) j (l.getD j 0))<;>rfl
     simp only [Zc4]
     have hw:w64 ((i:Int)+1)=((i+1:Nat):Int):=Za5 (by omega)
     have hs:subI l 0 ((i+1:Nat):Int)=some (l.take (i+1)):=by
      unfold subI
      rw [Z2 (by omega)]
      simp
     have hlt:(l.take (i+1)).length=i+1:=by simp;omega
     rw [Z2 (by simpa using hi),ZbM hi,ZU,hw,hs,ZU,Zd3 (n:=i+1) (p:=λj => !(Zb6 p i (l.getD i 0) j (l.getD j 0))) (bad:=.inr (false,0)) (fin:=.inl ()) (λj hj=>?_) (by simp [Zc3,hlt]) (by omega)]
     ·cases allB (i+1) λj => !(Zb6 p i (l.getD i 0) j (l.getD j 0))<;>rfl
     simp only [Zc3]
     have hj':j<l.length:=by omega
     have hw:w64 ((j:Int)+1)=((j+1:Nat):Int):=Za5 (by omega)
     have b1:=Zgl h (h2 i hi)
     have b2:=Zgl h (h2 j hj')
     rw [ZaZ hi] at b1
     rw [ZaZ hj'] at b2
     have ei:idx (l.take (i+1)) (j:Int)=some l[j]:=by
      rw [ZbM (by omega),List.getElem_take]
     rw [Z2 (by simp [hlt];omega),ei,ZU,ZdS hN h b2.1 (by omega) b1.1 (by omega) (λq=>by
      have:j=i:=by omega
      subst this;rfl),ZU,hw,ZaZ hi,ZaZ hj',Zja h]
     cases Zb6 p i l[i] j l[j]<;>rfl
   simp only [Zc5]
   have hw:w64 ((k:Int)+1)=((k+1:Nat):Int):=Za5 (by omega)
   rw [Z2 (by simpa using hk),ZbM hk,ZU,Zet N (by omega) (by omega),ZU,hw,ZaZ hk]
   cases offB p k l[k]<;>rfl
  rw [Z2 (by simp;omega)]
  have:ZcY p l=false:=by unfold ZcY;simp [hc]
  rw [this];rfl
def Zkj:List Int:=[4,6,8,12,3,5,10,24]
theorem Zjz:∀ x∈Zkj,3<=x/\x<=24/\x.toNat∣120:=by decide
structure GP (p:Z6):Prop where
 prob:ZdZ p=true
 len:p.Periods.length<=5
 uses:p.Uses.length<=12
 tab:∀ x∈p.Periods,x∈Zkj
 port:∀ u∈p.Uses,u.Port<4
theorem ZiH {α:Type}{b:Nat}{l:List α}{x:α}(hl:l.length<=1000)(hb:b<=1000):appI b l [x]=some (l++[x]):=by
 refine ZbQ ?_ (by omega)
 simp;omega
theorem Ze4 {N:Nat}(hN:2000<=N){d:ZbH}(hd:Zeu d):∃ p,ZbG N d=some p/\GP p:=by
 obtain ⟨⟨_,d1⟩,⟨_,d2⟩⟩:=hd
 unfold ZbG
 obtain ⟨P,hP,P1,P2⟩:=Zb0 (body:=λx:Int×(List Int)=>Zbb N d x.1 x.2) (λx=>0<=x.1/\x.1<=5/\(x.2.length:Int)=x.1/\∀ q∈x.2,q∈Zkj) (λx=>(5-x.1).toNat) (λl=>l.length<=5/\∀ q∈l,q∈Zkj) (λx hx=>by
  obtain ⟨i,l⟩:=x
  obtain ⟨i0,i1,i2,i3⟩:=hx
  simp only at i0 i1 i2 i3
  simp only [Zbb]
  by_cases c:i<(d.Periods.length:Int)/\i<5
  ·left
   obtain ⟨k,rfl⟩:∃ k:Nat,i=k:=⟨i.toNat,by omega⟩
   have hk:k<d.Periods.length:=by omega
   have hb:0<=d.Periods[k]/\d.Periods[k]<=255:=(d1 _ (List.getElem_mem hk)).u8
   have hm0:=Int.emod_nonneg d.Periods[k] (show (8:Int)≠0 by decide)
   have hm1:=Int.emod_lt_of_pos d.Periods[k] (show (0:Int)<8 by decide)
   have ht:(d.Periods[k]%8).toNat<Zkj.length:=by simp [Zkj];omega
   refine ⟨(((k+1:Nat):Int),l++[Zkj[(d.Periods[k]%8).toNat]]),?_,⟨by omega,by omega,by simp;omega,λq hq=>?_⟩,by omega⟩
   ·rw [Z2 (by simp;omega),ZbM hk,ZU,Zk hb.1,show ([4,6,8,12,3,5,10,24]:List Int)=Zkj from rfl,ZnG hm0 ht,ZU,ZiH (by omega) (by omega),ZU,Za5 (by omega)]
   rcases List.mem_append.1 hq with q1|q1
   ·exact i3 q q1
   simp only [ZP] at q1
   subst q1
   exact List.getElem_mem ht
  right
  refine ⟨l,?_,by omega,i3⟩
  rw [Z1 (by simp;omega)]) N (0,[]) ⟨by omega,by omega,rfl,by simp⟩ (by simp;omega)
 rw [hP,ZU]
 have hper:P.all perB=true:=List.all_eq_true.2 λq hq=>by
  have:=Zjz q (P2 q hq)
  exact Zhx.2 (by omega)
 obtain ⟨U,hU,U1,U2⟩:=Zb0 (body:=λx:Int×(List ZaJ)=>Zba N d P x.1 x.2) (λx=>0<=x.1/\x.1<=12/\(x.2.length:Int)=x.1/\∀ u∈x.2,useB P u=true/\u.Port<4) (λx=>(12-x.1).toNat) (λl=>l.length<=12/\∀ u∈l,useB P u=true/\u.Port<4) (λx hx=>by
  obtain ⟨i,l⟩:=x
  obtain ⟨i0,i1,i2,i3⟩:=hx
  simp only at i0 i1 i2 i3
  simp only [Zba]
  by_cases c:i<(d.Uses.length:Int)/\i<12/\0<P.length
  ·left
   obtain ⟨c1,c2,c3⟩:=c
   obtain ⟨k,rfl⟩:∃ k:Nat,i=k:=⟨i.toNat,by omega⟩
   have hk:k<d.Uses.length:=by omega
   obtain ⟨b0,b1,b2,b3⟩:=d2 _ (List.getElem_mem hk)
   have b0:0<=d.Uses[k].x0/\d.Uses[k].x0<=255:=b0.u8
   have b1:0<=d.Uses[k].x1/\d.Uses[k].x1<=255:=b1.u8
   have b2:0<=d.Uses[k].x2/\d.Uses[k].x2<=255:=b2.u8
   have b3:0<=d.Uses[k].x3/\d.Uses[k].x3<=255:=b3.u8
   have s0:=Int.emod_nonneg d.Uses[k].x0 (show (P.length:Int)≠0 by omega)
   have s1:=Int.emod_lt_of_pos d.Uses[k].x0 (show 0<(P.length:Int) by omega)
   have hn:(d.Uses[k].x0%(P.length:Int)).toNat<P.length:=by omega
   obtain ⟨n,en⟩:∃ n,n=P[(d.Uses[k].x0%(P.length:Int)).toNat]:=⟨_,rfl⟩
   have hn3:=Zjz n (P2 n (by rw [en];exact List.getElem_mem hn))
   have f0:=Int.emod_nonneg d.Uses[k].x2 (show n≠0 by omega)
   have f1:=Int.emod_lt_of_pos d.Uses[k].x2 (show 0<n by omega)
   have g0:=Int.emod_nonneg d.Uses[k].x3 (show n≠0 by omega)
   have g1:=Int.emod_lt_of_pos d.Uses[k].x3 (show 0<n by omega)
   have g2:=Int.emod_nonneg (d.Uses[k].x3%n) (show (4:Int)≠0 by decide)
   have g3:=Int.emod_lt_of_pos (d.Uses[k].x3%n) (show (0:Int)<4 by decide)
   have g4:=Int.emod_nonneg (d.Uses[k].x3%n%4) (show n≠0 by omega)
   have g5:=Int.emod_lt_of_pos (d.Uses[k].x3%n%4) (show 0<n by omega)
   have p0:=Int.emod_nonneg d.Uses[k].x1 (show (4:Int)≠0 by decide)
   have p1:=Int.emod_lt_of_pos d.Uses[k].x1 (show (0:Int)<4 by decide)
   refine ⟨(((k+1:Nat):Int),l++[⟨d.Uses[k].x0%P.length,d.Uses[k].x1%4,d.Uses[k].x2%n,1+d.Uses[k].x3%n%4%n⟩]),?_,⟨by omega,by omega,by simp;omega,λu hu=>?_⟩,by omega⟩
   ·rw [Z2 (by simp;omega),Z2 (by simp;omega)]
    simp only [ZU]
    rw [Z2 (by simp;omega),ZbM hk,ZU,Zbu (by omega) (by omega),ZbS (by omega),ZU,Zk b0.1,ZnG s0 hn,ZU,← en,
     Zbu (x:=d.Uses[k].x2) (by omega) (by omega),ZbS (by omega),ZU,Zbu (x:=d.Uses[k].x3) (by omega) (by omega),ZbS (by omega),ZU,ZbS (by omega),ZU,
     Zk b1.1,Zk b2.1,Zk b3.1,Zk g0,Zk g2,Zbu (x:=d.Uses[k].x1%4) (by omega) (by omega),Zbu (x:=1+_) (by omega) (by omega),ZiH (by omega) (by omega),ZU,Za5 (by omega)]
   rcases List.mem_append.1 hu with q1|q1
   ·exact i3 u q1
   simp only [ZP] at q1
   subst q1
   refine ⟨Zgc.2 ?_,p1⟩
   unfold perU
   simp only
   rw [ZaZ hn,← en]
   omega
  right
  refine ⟨l,?_,by omega,i3⟩
  by_cases c1:i<(d.Uses.length:Int)
  ·rw [Z2 (by simpa using c1)]
   by_cases c2:i<12
   ·rw [Z2 (by simpa using c2),ZU,Z1 (by rw [ZZ];omega)]
   rw [Z1 (by simpa using c2),ZU,Z1 (by simp)]
  rw [Z1 (by simpa using c1),ZU,Z1 (by simp)]) N (0,[]) ⟨by omega,by omega,rfl,by simp⟩ (by simp;omega)
 rw [hU,ZU]
 refine ⟨_,rfl,?_,P1,U1,P2,λu hu=>(U2 u hu).2⟩
 rw [ZkF]
 refine ⟨by show P.length<=12;omega,by show U.length<=192;omega,hper,List.all_eq_true.2 λu hu=>(U2 u hu).1,?_⟩
 have hdv:lcmL P∣120:=ZkV.2 λq hq=>(Zjz q (P2 q hq)).2.2
 have:=Nat.le_of_dvd (by decide) hdv
 show lcmL P<=960
 omega
theorem ZjS {N:Nat}(hN:2000<=N){p:Z6}(h:VP p){a:List Int}(ha:∀ x∈a,InK .u8 x):∃ l,Zey N p a=some l/\ZcY p l=true:=by
 have hlen:=h.len
 unfold Zey
 obtain ⟨l,hl,l1,l2⟩:=Zb0 (body:=λx:Int×(List Int)=>ZcF N p a x.1 x.2) (λx=>0<=x.1/\x.1<=p.Periods.length/\(x.2.length:Int)=x.1/\∀ k,k<x.2.length->offB p k (x.2.getD k 0)=true) (λx=>(p.Periods.length-x.1).toNat) (λl=>l.length=p.Periods.length/\∀ k,k<l.length->offB p k (l.getD k 0)=true) (λx hx=>by
  obtain ⟨i,l⟩:=x
  obtain ⟨i0,i1,i2,i3⟩:=hx
  simp only at i0 i1 i2 i3
  simp only [ZcF]
  by_cases c:i<(p.Periods.length:Int)
  ·left
   obtain ⟨k,rfl⟩:∃ k:Nat,i=k:=⟨i.toNat,by omega⟩
   have hk:k<p.Periods.length:=by omega
   have hq:=h.per _ (List.getElem_mem hk)
   have key:∃ x,(if (decide ((k:Int)<((List.length a:Nat):Int))) then ((idx a k).bind λe1010=>((idx p.Periods k).bind λe1011=>((remI (w64 (e1010)) e1011).bind λm1012=>(some m1012)))) else (some 0))=some x/\0<=x/\x<p.Periods[k]:=by
    by_cases c2:k<a.length
    ·have hb:0<=a[k]/\a[k]<=255:=(ha _ (List.getElem_mem c2)).u8
     refine ⟨a[k]%p.Periods[k],?_,Int.emod_nonneg _ (by omega),Int.emod_lt_of_pos _ (by omega)⟩
     rw [Z2 (by simpa using c2),ZbM c2,ZU,ZbM hk,ZU,Zbu (by omega) (by omega),ZbS (by omega),ZU,Zk hb.1]
    exact ⟨0,by rw [Z1 (by simpa using c2)],by omega,by omega⟩
   obtain ⟨x,hx,x0,x1⟩:=key
   refine ⟨(((k+1:Nat):Int),l++[x]),?_,⟨by omega,by omega,by simp;omega,λm hm=>?_⟩,by omega⟩
   ·rw [Z2 (by simpa using c),hx,ZU,ZiH (by omega) (by omega),ZU,Za5 (by omega)]
   simp only [ZE,ZF,ZH] at hm
   by_cases e:m<l.length
   ·have:=i3 m e
    rw [ZaZ e] at this
    rw [ZaZ (by simp;omega),List.getElem_append_left e]
    exact this
   obtain rfl:m=k:=by omega
   rw [ZaZ (by simp;omega),List.getElem_append_right (by omega)]
   simp only [show m-l.length=0 by omega,List.getElem_cons_zero]
   rw [ZcK]
   simp only [Zl]
   rw [ZaZ hk]
   omega
  right
  refine ⟨l,?_,by omega,i3⟩
  rw [Z1 (by simpa using c)]) N (0,[]) ⟨by omega,by simp,rfl,by simp⟩ (by simp;omega)
 rw [hl,ZU]
 refine ⟨l,rfl,?_⟩
 unfold ZcY
 rw [Ze,ZZ,Zcv]
 exact ⟨l1,l2⟩
end Go.Sh
namespace Go.Sh
open Go Go.Eng
theorem Zlf (n:Nat)(p:Nat->Bool):allB (n+1) p=(allB n p&&p n):=by
 unfold allB
 rw [List.range_succ,List.all_append]
 simp
def Zlb (p:Z6)(l:List Int):Bool:=allB l.length λi=>allB l.length λj => !(Zb6 p i (l.getD i 0) j (l.getD j 0))
theorem ZjH {p:Z6}(h:VP p)(l:List Int):ZjI p l=Zlb p l:=by
 unfold ZjI Zlb
 rw [Zf]
 simp only [Zcv]
 constructor
 ·intro q i hi j hj
  rcases Nat.le_total j i with c|c
  ·exact q i hi j (by omega)
  have:=q j hj i (by omega)
  rwa [Zja h] at this
 intro q i hi j hj
 exact q i hi j (by omega)
def ZcR (p:Z6)(l:List Int)(by_:Int)(n:Nat):List Int:=(List.range n).map λk=>(l.getD k 0+by_)%(p.Periods.getD k 0)
theorem ZfA {p:Z6}{l:List Int}{by_:Int}{n k:Nat}(hk:k<n):(ZcR p l by_ n).getD k 0=(l.getD k 0+by_)%(p.Periods.getD k 0):=by
 rw [ZaZ (by simpa [ZcR] using hk)]
 simp [ZcR]
theorem Znu {p:Z6}(h:VP p){l:List Int}(ho:ZcY p l=true)(by_:Int):ZcY p (ZcR p l by_ l.length)=true:=by
 obtain ⟨h1,h2⟩:=Zhy ho
 unfold ZcY
 rw [Ze,ZZ,Zcv]
 have hl:(ZcR p l by_ l.length).length=l.length:=by simp [ZcR]
 refine ⟨by omega,λk hk=>?_⟩
 rw [hl] at hk
 rw [ZfA hk,ZcK]
 simp only [Zl]
 rw [ZaZ (show k<p.Periods.length by omega)]
 have:=h.per _ (List.getElem_mem (show k<p.Periods.length by omega))
 have a:=Int.emod_nonneg (l.getD k 0+by_) (show p.Periods[k]≠0 by omega)
 have b:=Int.emod_lt_of_pos (l.getD k 0+by_) (show 0<p.Periods[k] by omega)
 omega
theorem ZhO {p:Z6}(h:VP p){u:ZaJ}(hu:u∈p.Uses){i:Nat}(hi:u.Stream=(i:Int))(x by_:Int):Zds p u ((x+by_)%p.Periods.getD i 0)=shift (Zds p u x) by_:=by
 have e:perU p.Periods u=p.Periods.getD i 0:=by unfold perU;rw [hi];simp
 unfold Zds shift
 simp only [← e]
 congr 1
 rw [Int.emod_add_emod,Int.add_emod_emod,Int.add_assoc]
theorem Zih {p:Z6}(h:VP p)(i j:Nat)(a b by_:Int):Zb6 p i ((a+by_)%p.Periods.getD i 0) j ((b+by_)%p.Periods.getD j 0)=Zb6 p i a j b:=by
 unfold Zb6
 congr 1
 refine ZfH λk hk=>ZfH λm hm=>?_
 congr 1
 unfold hitB
 rw [ZaZ hk,ZaZ hm,Zf]
 simp only [Ze,ZZ,beq_iff_eq,Zh,decide_eq_false_iff_not]
 refine and_congr_right λ_=>and_congr_right λc=>and_congr_right λd=>and_congr_right λ_=>?_
 rw [ZhO h (List.getElem_mem hk) c,ZhO h (List.getElem_mem hm) d,Zng (h.vspan (List.getElem_mem hk) a) (h.vspan (List.getElem_mem hm) b)]
theorem Zk9 {p:Z6}(hp:ZdZ p=true){l:List Int}(ho:ZcY p l=true){i j:Nat}(hi:i<l.length)(hj:j<l.length):Zdo p i (l.getD i 0) j (l.getD j 0)=(Zb6 p i (l.getD i 0) j (l.getD j 0),0):=by
 obtain ⟨h1,h2⟩:=Zhy ho
 unfold Zdo
 rw [Z2 hp,Z2]
 unfold argB
 rw [h2 i hi,h2 j hj]
 simp only [Zj,Zh,Bool.and_eq_false_iff,decide_eq_false_iff_not]
 by_cases c:(i:Int)=j
 ·right
  have:i=j:=by omega
  subst this
  simp
 left;exact c
end Go.Sh
namespace Go.Sh
open Go Go.Eng
theorem Znx {κ υ:Type}[DecidableEq κ](m:List (κ×υ))(x y:κ)(v:υ):ZeS (Zf1 m x v) y=if x=y then some v else ZeS m y:=by
 induction m with
 | nil =>
  unfold Zf1 ZeS
  by_cases h:x=y<;>simp [h]
 | cons q m ih =>
  unfold Zf1
  by_cases h:q.1=x
  ·rw [Z2 h]
   unfold ZeS
   rw [Zr,Zr]
   by_cases e:x=y
   ·simp [e]
   simp [e,h]
  rw [Z1 h]
  have e1:ZeS (q::Zf1 m x v) y=if q.1=y then some q.2 else ZeS (Zf1 m x v) y:=by
   unfold ZeS
   rw [Zr]
   by_cases e:q.1=y<;>simp [e]
  have e2:ZeS (q::m) y=if q.1=y then some q.2 else ZeS m y:=by
   unfold ZeS
   rw [Zr]
   by_cases e:q.1=y<;>simp [e]
  rw [e1,e2,ih]
  by_cases e:q.1=y
  ·rw [Z2 e,Z2 e,Z1 (λe3=>h (by rw [e,e3]))]
  rw [Z1 e,Z1 e]
section
variable {N:Nat} {p:Z6}
def MOK (p:Z6)(m:List (Zan×Bool)):Prop:=∀ k b,ZeS m k=some b->b=(Zdo p k.i k.x_ k.j 0).1
theorem MOK.nil:MOK p []:=λk b h=>by simp [ZeS] at h
theorem MOK.set {m:List (Zan×Bool)}(h:MOK p m)(k:Zan):MOK p (Zf1 m k (Zdo p k.i k.x_ k.j 0).1):=λk' b hb=>by
 rw [Znx] at hb
 by_cases e:k=k'
 ·rw [Z2 e,ZW] at hb
  rw [← hb,e]
 rw [Z1 e] at hb
 exact h k' b hb
theorem Zg4 {x y per:Int}(hp:1<=per)(hp2:per<=1000)(hx:0<=x)(hx2:x<=1000)(hy:0<=y)(hy2:y<=1000):Zez N (w64 (x-y)) per=some ((x-y)%per):=by
 unfold Zez
 have h1:=Int.lt_tmod_of_pos (x-y) (show 0<per by omega)
 have h2:=Int.tmod_lt_of_pos (x-y) (show 0<per by omega)
 rw [Zbu (x:=x-y) (by omega) (by omega),ZbS (by omega),ZU,Zbu (by omega) (by omega),ZbS (by omega),ZU,Zjx (by omega)]
theorem ZoF (hN:2000<=N)(hp:ZdZ p=true){r:List (Zan×Bool)}{m:List (Zan×Bool)}(hm:MOK p m){i j:Nat}{x y:Int}(hi:offB p i x=true)(hj:offB p j y=true)(hij:i=j->x=y) :
  ∃ m',Zbt N (p,r) m i x j y=some (m',Zb6 p i x j y)/\MOK p m':=by
 have h:=VP.of hp
 obtain ⟨i0,i1,x0,x1⟩:=ZcK.1 hi
 obtain ⟨j0,j1,y0,y1⟩:=ZcK.1 hj
 have xl:=Zgl h hi;have yl:=Zgl h hj
 have hpi:p.Periods.getD i 0∈p.Periods:=by rw [ZaZ (by omega)];exact List.getElem_mem _
 have hpj:p.Periods.getD j 0∈p.Periods:=by rw [ZaZ (by omega)];exact List.getElem_mem _
 have pi:=h.per _ hpi;have pj:=h.per _ hpj
 simp only [Zl] at x1 y1
 obtain ⟨q,hq⟩:∃ q,q=(x-y)%p.Periods.getD i 0:=⟨_,rfl⟩
 have q0:0<=q:=by rw [hq];exact Int.emod_nonneg _ (by omega)
 have q1:q<p.Periods.getD i 0:=by rw [hq];exact Int.emod_lt_of_pos _ (by omega)
 have ec:Zdo p i q j 0=(Zb6 p i x j y,0):=by
  unfold Zdo
  have ea:argB p i q j 0=true:=by
   unfold argB
   have o1:offB p i q=true:=ZcK.2 ⟨by omega,by omega,q0,by rw [Zl];exact q1⟩
   have o2:offB p j 0=true:=ZcK.2 ⟨by omega,by omega,by omega,by rw [Zl];omega⟩
   rw [o1,o2]
   by_cases e:i=j
   ·have:=hij e
    have hz:q=0:=by rw [hq,this];simp
    simp [hz]
   have:¬ ((i:Int)=(j:Int)):=by omega
   simp [this]
  rw [Z2 hp,Z2 ea]
  congr 1
  have:=Zih h i j x y (-y)
  rw [show y + -y=0 by omega,Int.zero_emod,show x + -y=x-y by omega,← hq] at this
  exact this
 unfold Zbt
 simp only
 rw [show idx p.Periods ((i:Nat):Int)=some (p.Periods.getD i 0) by rw [ZbM (by omega),ZaZ (by omega)],ZU,Zg4 pi.1 (by omega) x0 (by omega) y0 (by omega),ZU,← hq]
 cases hg:ZeS m (Zan.mk i q j) with
 | some b =>
  have hb:=hm _ _ hg
  simp only [ec] at hb
  refine ⟨m,?_,hm⟩
  unfold mhas Zny
  rw [hg]
  simp [hb]
 | none =>
  refine ⟨Zf1 m (Zan.mk i q j) (Zdo p i q j 0).1,?_,hm.set (Zan.mk i q j)⟩
  unfold mhas
  rw [hg,Z2 (by simp),Ze0 hN,ec]
  rfl
end
end Go.Sh

namespace Go.Sh
open Go Go.Eng
section
variable {N:Nat} {p:Z6}
def AOK (p:Z6)(g:Zag):Prop:=∀ k:Nat,k<p.Periods.length->g.l.getD k 0 = -1∨offB p k (g.l.getD k 0)=true
theorem ZdL (g:Zag){k:Nat}(h:k<12):g.get (k:Int)=some (g.l.getD k 0):=by
 have hl:g.l.length=12:=rfl
 unfold Zag.get
 rw [ZbM (by omega),ZaZ (by omega)]
theorem Zgx (g:Zag)(k j:Nat)(x:Int)(h:k<12):(g.set k x).l.getD j 0=if j=k then x else g.l.getD j 0:=by
 have hl:g.l.length=12:=rfl
 rw [Zag.l_set,Zl]
 simp only [Zs,ZB]
 by_cases e:k=j
 ·subst e
  rw [Z2 rfl,Z2 (by omega),Z2 rfl]
  rfl
 rw [Z1 e,Z1 (Ne.symm e)]
theorem AOK.set {g:Zag}(h:AOK p g)(hP:p.Periods.length<=12){s:Nat}(hs:s<p.Periods.length){x:Int}(hx:offB p s x=true):AOK p (g.set s x):=λk hk=>by
 rw [Zgx g s k x (by omega)]
 by_cases e:k=s
 ·subst e;rw [Z2 rfl];exact .inr hx
 rw [Z1 e];exact h k hk
def othO (g:Zag)(s b:Nat)(x:Int):Int:=if b=s then x else g.l.getD b 0
def refB (p:Z6)(s:Nat)(g:Zag)(a:Zax):Bool :=
 (decide (a.By.toNat=s) || !(g.l.getD a.By.toNat 0 == -1))&&allB (a.To-a.From).toNat λk=>Zb6 p s (a.From+k) a.By.toNat (othO g s a.By.toNat (a.From+k))
structure ZlX (p:Z6) (s:Nat) (a:Zax):Prop where
 f0:0<=a.From
 lt:a.From<a.To
 le:a.To<=p.Periods.getD s 0
theorem Zj0 {s:Nat}{a:Zax}(ha:ZlX p s a)(hs:s<p.Periods.length){k:Nat}(hk:k<(a.To-a.From).toNat):offB p s (a.From+k)=true:=by
 have:=ha.f0;have:=ha.lt;have:=ha.le
 exact ZcK.2 ⟨by omega,by omega,by omega,by rw [Zl];omega⟩
theorem Zhv (hN:2000<=N)(hp:ZdZ p=true){r m:List (Zan×Bool)}(hm:MOK p m){s:Nat}(hs:s<p.Periods.length){a:Zax}(ha:ZlX p s a)(b0:0<=a.By)(b1:a.By<(p.Periods.length:Int)){g:Zag}(hg:AOK p g) :
  ∃ m',Zdi N (λ(s:(List (Zan×Bool))) (x2578:Int) (x2579:Int) (x2580:Int) (x2581:Int)=>Zbt N (p,r) s x2578 x2579 x2580 x2581) (s:Int) g a m=some (m',refB p s g a)/\MOK p m':=by
 have h:=VP.of hp
 have hP:=h.len
 obtain ⟨b,hb⟩:∃ b:Nat,a.By=b:=⟨a.By.toNat,by omega⟩
 have f0:=ha.f0;have lt:=ha.lt;have le:=ha.le
 have hps:p.Periods.getD s 0∈p.Periods:=by rw [ZaZ hs];exact List.getElem_mem _
 have ps:=h.per _ hps
 have hbn:a.By.toNat=b:=by omega
 unfold Zdi refB
 rw [hbn]
 by_cases none1:a.By≠s/\g.l.getD b 0 = -1
 ·have e1:(decide (b=s) || !(g.l.getD b 0 == -1))=false:=by
   rw [decide_eq_false (by omega),none1.2];rfl
  rw [e1,Bool.false_and]
  refine ⟨m,?_,hm⟩
  rw [Z2 (by simpa using none1.1),hb,ZdL g (by omega),ZU,none1.2]
  rfl
 have e1:(decide (b=s) || !(g.l.getD b 0 == -1))=true:=by
  by_cases q:b=s
  ·simp [q]
  have:¬ g.l.getD b 0 = -1:=λe=>none1 ⟨by omega,e⟩
  rw [beq_eq_false_iff_ne.2 this];simp
 rw [e1,Zj]
 have e2:(if (a.By != (s:Int))=true then ((g.get a.By).bind λe2=>(some (e2==(-1)))) else (some false))=some false:=by
  by_cases q:a.By=s
  ·rw [Z1 (by simpa using q)]
  rw [Z2 (by simpa using q),hb,ZdL g (by omega),ZU]
  have:¬ g.l.getD b 0 = -1:=λe=>none1 ⟨q,e⟩
  rw [beq_eq_false_iff_ne.2 this]
 rw [e2,ZU,Z1 (by simp)]
 obtain ⟨n,hn⟩:∃ n,n=(a.To-a.From).toNat:=⟨_,rfl⟩
 rw [← hn]
 obtain ⟨o,ho,eo⟩:=Zb0 (body:=λx:Int×(List (Zan×Bool))=>ZbP N (λ(s:(List (Zan×Bool))) (x2578:Int) (x2579:Int) (x2580:Int) (x2581:Int)=>Zbt N (p,r) s x2578 x2579 x2580 x2581) (s:Int) g a x.1 x.2)
  (λx=>∃ k:Nat,x.1=a.From+k/\k<=n/\MOK p x.2/\allB k (λk=>Zb6 p s (a.From+k) b (othO g s b (a.From+k)))=true) (λx=>(a.To-x.1).toNat)
  (λo=>∃ m',MOK p m'/\((o=.inl m'/\allB n (λk=>Zb6 p s (a.From+k) b (othO g s b (a.From+k)))=true)∨(o=.inr (m',false)/\allB n (λk=>Zb6 p s (a.From+k) b (othO g s b (a.From+k)))=false))) (λx hx=>by
   obtain ⟨i,m1⟩:=x
   obtain ⟨k,k1,k2,k3,k4⟩:=hx
   simp only at k1 k3
   subst k1
   simp only [ZbP]
   by_cases c:k<n
   ·rw [Z2 (by simp;omega),hb,ZdL g (by omega),ZU]
    have hx:=Zj0 ha hs (k:=k) (by omega)
    have ej:(if ((b:Int)==(s:Int))=true then (some (a.From+(k:Int))) else (some (g.l.getD b 0)))=some (othO g s b (a.From+k)):=by
     unfold othO
     by_cases q:b=s
     ·rw [Z2 (by rw [beq_iff_eq];omega),Z2 q]
     rw [Z1 (by rw [beq_iff_eq];omega),Z1 q]
    rw [ej,ZU]
    have hy:offB p b (othO g s b (a.From+k))=true:=by
     unfold othO
     by_cases q:b=s
     ·rw [Z2 q,q];exact hx
     rw [Z1 q]
     rcases hg b (by omega) with e|e
     ·exact absurd ⟨by omega,e⟩ none1
     exact e
    obtain ⟨m2,hm2,hk2⟩:=ZoF (N:=N) hN hp (r:=r) k3 hx hy (λe=>by unfold othO;rw [Z2 e.symm])
    rw [hm2,ZU]
    cases hme:Zb6 p s (a.From+k) b (othO g s b (a.From+k)) with
    | true =>
     left
     refine ⟨(a.From+((k+1:Nat):Int),m2),?_,⟨k+1,rfl,by omega,hk2,by rw [Zlf,k4,hme];rfl⟩,by simp only;omega⟩
     rw [Z1 (by simp),Zbu (by omega) (by omega)]
     congr 3
     omega
    | false =>
     right
     refine ⟨_,by rw [Z2 (by simp)],m2,hk2,.inr ⟨rfl,?_⟩⟩
     cases hq:allB n (λk=>Zb6 p s (a.From+k) b (othO g s b (a.From+k))) with
     | false=>rfl
     | true=>have:=Zcv.1 hq k c;rw [hme] at this;cases this
   right
   obtain rfl:k=n:=by omega
   exact ⟨.inl m1,by rw [Z1 (by simp;omega)],m1,k3,.inl ⟨rfl,k4⟩⟩) N (a.From,m) ⟨0,by simp,by omega,hm,by simp [allB]⟩ (by simp only;omega)
 obtain ⟨m',hm',h1|h1⟩:=eo
 ·obtain ⟨rfl,h2⟩:=h1
  exact ⟨m',by rw [ho,ZU,h2],hm'⟩
 obtain ⟨rfl,h2⟩:=h1
 exact ⟨m',by rw [ho,ZU,h2],hm'⟩
end
end Go.Sh

namespace Go.Sh
open Go Go.Eng
section
variable {N:Nat} {p:Z6}
theorem ZjN (hN:2000<=N)(hp:ZdZ p=true){s:Nat}(hs:s<p.Periods.length){e1:Z7}(hst:e1.Stream=s){a:Zax}(ha:ZlX p s a)(b0:0<=a.By)(b1:a.By<(p.Periods.length:Int)){g:Zag}(hg:AOK p g) :
  ZaW (λx:Int=>Zcl N p g e1 a x) N a.From=some (if refB p s g a=true then .inl () else .inr false):=by
 have h:=VP.of hp
 have hP:=h.len
 obtain ⟨b,hb⟩:∃ b:Nat,a.By=b:=⟨a.By.toNat,by omega⟩
 have f0:=ha.f0;have lt:=ha.lt;have le:=ha.le
 have hps:p.Periods.getD s 0∈p.Periods:=by rw [ZaZ hs];exact List.getElem_mem _
 have ps:=h.per _ hps
 have hbn:a.By.toNat=b:=by omega
 obtain ⟨n,hn⟩:∃ n,n=(a.To-a.From).toNat:=⟨_,rfl⟩
 have hget:g.get a.By=some (g.l.getD b 0):=by rw [hb,ZdL g (by omega)]
 have ej:∀ i:Int,(if (a.By==e1.Stream)=true then (some i) else (some (g.l.getD b 0)))=some (othO g s b i):=λi=>by
  unfold othO
  by_cases q:b=s
  ·rw [Z2 (by rw [beq_iff_eq];omega),Z2 q]
  rw [Z1 (by rw [beq_iff_eq];omega),Z1 q]
 by_cases none1:a.By≠s/\g.l.getD b 0 = -1
 ·have e2:refB p s g a=false:=by
   unfold refB
   rw [hbn,decide_eq_false (by omega),none1.2];rfl
  rw [e2,Z1 (by simp)]
  obtain ⟨N',rfl⟩:∃ N',N=N'+1:=⟨N-1,by omega⟩
  refine Zbo ?_
  simp only [Zcl]
  have eo:othO g s b a.From = -1:=by unfold othO;rw [Z1 (by omega),none1.2]
  rw [Z2 (by simp only [Ze,ZZ];omega),hget,ZU,ej,ZU,eo,Z2 (by decide),ZU,Z2 rfl]
 have e1':(decide (b=s) || !(g.l.getD b 0 == -1))=true:=by
  by_cases q:b=s
  ·simp [q]
  have:¬ g.l.getD b 0 = -1:=λe=>none1 ⟨by omega,e⟩
  rw [beq_eq_false_iff_ne.2 this];simp
 have er:refB p s g a=allB n (λk=>Zb6 p s (a.From+k) b (othO g s b (a.From+k))):=by
  unfold refB
  rw [hbn,e1',Zj,hn]
 rw [er]
 obtain ⟨o,ho,eo⟩:=Zb0 (body:=λx:Int=>Zcl N p g e1 a x)
  (λx=>∃ k:Nat,x=a.From+k/\k<=n/\allB k (λk=>Zb6 p s (a.From+k) b (othO g s b (a.From+k)))=true) (λx=>(a.To-x).toNat)
  (λo=>o=if allB n (λk=>Zb6 p s (a.From+k) b (othO g s b (a.From+k)))=true then .inl () else .inr false) (λx hx=>by
   obtain ⟨k,rfl,k2,k4⟩:=hx
   simp only [Zcl]
   by_cases c:k<n
   ·rw [Z2 (by simp only [Ze,ZZ];omega),hget,ZU,ej,ZU]
    have hx:=Zj0 ha hs (k:=k) (by omega)
    have hy:offB p b (othO g s b (a.From+k))=true:=by
     unfold othO
     by_cases q:b=s
     ·rw [Z2 q,q];exact hx
     rw [Z1 q]
     rcases hg b (by omega) with e|e
     ·exact absurd ⟨by omega,e⟩ none1
     exact e
    have xl:=Zgl h hx;have yl:=Zgl h hy
    rw [Z1 (by rw [ZZ];omega),hst,hb,ZfP hN h (by omega) (by omega) (by omega) (by omega),ZU,ZU]
    cases hme:Zb6 p s (a.From+k) b (othO g s b (a.From+k)) with
    | true =>
     left
     refine ⟨a.From+((k+1:Nat):Int),?_,⟨k+1,rfl,by omega,by rw [Zlf,k4,hme];rfl⟩,by omega⟩
     rw [Z1 (by simp),Zbu (by omega) (by omega)]
     congr 2
     omega
    | false =>
     right
     refine ⟨_,by rw [Z2 (by simp)],?_⟩
     cases hq:allB n (λk=>Zb6 p s (a.From+k) b (othO g s b (a.From+k))) with
     | false=>rfl
     | true=>have:=Zcv.1 hq k c;rw [hme] at this;cases this
   right
   obtain rfl:k=n:=by omega
   exact ⟨.inl (),by rw [Z1 (by simp only [Ze,ZZ];omega)],by rw [k4,Z2 rfl]⟩) N a.From ⟨0,by simp,by omega,by simp [allB]⟩ (by omega)
 rw [ho,eo]
end
end Go.Sh

namespace Go.Sh
open Go Go.Eng
section
variable {N:Nat} {p:Z6} {f:List Z7}
theorem ZfR {nP len c per:Int}{l:List Zax}:∀ {k:Nat} {e:Int},upF (ZcZ nP len c per l) k 0=some e->0<=e
 | 0,e,h=>by simp only [upF,ZW] at h;omega
 | k+1,e,h=>by
  simp only [upF] at h
  obtain ⟨s,h1,h2⟩:=bind_some h
  have:=ZfR h1
  unfold ZcZ at h2
  obtain ⟨a,h3,h4⟩:=bind_some h2
  by_cases q:Zi0 nP len c per s a=true
  ·rw [Z2 q,ZW] at h4
   obtain ⟨a1,a2,_⟩:=ZeG q
   omega
  rw [Z1 q] at h4;cases h4
theorem ZiF {c:Nat}(h:Zbw p f c=true):∃ (hc:c<f.length) (s:Nat),f[c].Stream=s/\s<p.Periods.length/\∀ a∈f[c].Arms,ZlX p s a/\ZbV p.Periods.length f.length c a=true:=by
 obtain ⟨hc,h0,h1,h2⟩:=ZfD h
 refine ⟨hc,f[c].Stream.toNat,by omega,by omega,λa ha=>?_⟩
 have hr:=Zld h2 a ha
 refine ⟨?_,hr⟩
 obtain ⟨k,hk,rfl⟩:=List.getElem_of_mem ha
 unfold ZiE at h2
 cases hu:upF (ZcZ p.Periods.length f.length c (p.Periods.getD f[c].Stream.toNat 0) f[c].Arms) f[c].Arms.length 0 with
 | none=>rw [hu] at h2;cases h2
 | some s =>
  obtain ⟨s1,s2,h3,h4⟩:=Zlo hu k hk
  have:=ZfR h3
  unfold ZcZ at h4
  rw [Zy hk,ZU] at h4
  by_cases q:Zi0 p.Periods.length f.length c (p.Periods.getD f[c].Stream.toNat 0) s1 f[c].Arms[k]=true
  ·obtain ⟨a1,a2,a3,_⟩:=ZeG q
   exact ⟨by omega,a2,a3⟩
  rw [Z1 q] at h4;cases h4
def armH (p:Z6)(s:Nat)(g:Zag)(rec_:Nat->Zag->Bool)(a:Zax):Bool :=
 if a.By = -1 then rec_ a.Next.toNat (g.set s a.From) else if 0<=a.By then refB p s g a else true
def hB (p:Z6)(f:List Z7):Nat->Nat->Zag->Bool
 | 0,_,_=>false
 | n+1,c,g=>match f[c]? with
  | none=>false
  | some x=>(g.l.getD x.Stream.toNat 0 == -1)&&x.Arms.all (armH p x.Stream.toNat g (hB p f n))
theorem Zj7 (hp:ZdZ p=true)(hall:∀ c,c<f.length->Zbw p f c=true){M:Nat}(hM:2000<=M)(ha:∀ x∈f,x.Arms.length<1000000/\x.Arms.length<M) :
  ∀ (n N c:Nat) (g:Zag),c<f.length->f.length-c<=n->M+n<=N->AOK p g->ZfY N p f c g=some (hB p f n c g)
 | 0,_,c,_,h1,h2,_,_=>by omega
 | n+1,0,c,g,h1,h2,h3,hg=>by omega
 | n+1,N+1,c,g,h1,h2,h3,hg=>by
  have hP:=(VP.of hp).len
  obtain ⟨hc,s,hs,hsl,harm⟩:=ZiF (hall c h1)
  have hb:=ha _ (List.getElem_mem hc)
  have hst:f[c].Stream.toNat=s:=by omega
  show ZeO N (ZfY N) p f (c:Int) g=_
  unfold ZeO hB
  rw [Zy hc]
  simp only
  rw [ZbM hc,ZU,hs,ZdL g (by omega),ZU,Zl]
  by_cases hz:g.l.getD s 0 = -1
  ·rw [Z1 (by rw [ZZ];omega),beq_iff_eq.2 hz,Zj]
   rw [ZfC (l:=f[c].Arms) (p:=armH p s g (hB p f n)) (bad:=.inr false) (fin:=.inl ()) (λk hk=>?_) (by simp [Zer,ZbM hc]) (by omega),ZU]
   ·cases f[c].Arms.all (armH p s g (hB p f n))<;>rfl
   obtain ⟨hok,hre⟩:=harm _ (List.getElem_mem hk)
   have f0:=hok.f0;have lt:=hok.lt;have le:=hok.le
   simp only [Zer]
   rw [ZbM hc,ZU,Z2 (by simpa using hk),ZU,ZbM hk,ZU,Za5 (by omega)]
   unfold armH
   by_cases b:f[c].Arms[k].By = -1
   ·rw [Z2 (by simpa using b),Z2 b,hs,ZdL g (by omega),ZU]
    unfold ZbV at hre
    rw [Z2 b,ZZ] at hre
    have hset:AOK p (g.set s f[c].Arms[k].From):=hg.set hP hsl (by have:=Zj0 hok hsl (k:=0) (by omega);simpa using this)
    have hi:=Zj7 hp hall hM ha n N f[c].Arms[k].Next.toNat (g.set s f[c].Arms[k].From) (by omega) (by omega) (by omega) hset
    rw [Zm (by omega)] at hi
    rw [hi,ZU]
    cases hB p f n f[c].Arms[k].Next.toNat (g.set s f[c].Arms[k].From)<;>rfl
   rw [Z1 (by simpa using b),Z1 b]
   by_cases b2:0<=f[c].Arms[k].By
   ·have b3:f[c].Arms[k].By<(p.Periods.length:Int):=by
     unfold ZbV at hre
     rw [Z1 b] at hre
     by_cases q:f[c].Arms[k].Next=0
     ·rw [Z2 q,Z1 (by omega),ZZ] at hre;exact hre.2
     rw [Z1 q] at hre;cases hre
    rw [Z2 b2,ZjN (by omega) hp hsl hs hok b2 b3 hg,ZU]
    cases refB p s g f[c].Arms[k]<;>rfl
   rw [Z1 b2]
   obtain ⟨N',rfl⟩:∃ N',N=N'+1:=⟨N-1,by omega⟩
   rw [Zbo (r:=.inl ()) (by simp only [Zcl];rw [Z1 (by simp only [Ze,ZZ];omega)]),ZU]
   rfl
  rw [beq_eq_false_iff_ne.2 hz,Bool.false_and,Z2 ?_]
  rw [ZZ]
  rcases hg s hsl with e|e
  ·exact absurd e hz
  have:=Zgl (VP.of hp) e
  omega
end
end Go.Sh

namespace Go.Sh
open Go Go.Eng
section
variable {N:Nat} {p:Z6} {f:List Z7}
def rOK (p:Z6)(s:Nat)(g:Zag)(a:Zax):Bool:=if a.By = -1 then true else if 0<=a.By then refB p s g a else true
def kids (s:Nat)(g:Zag)(as:List Zax):List Zam:=(as.filter λa=>a.By == -1).map λa=>⟨a.Next,g.set s a.From⟩
theorem Zj5 (s:Nat)(g:Zag)(as:List Zax):(kids s g as).length<=as.length:=by
 unfold kids
 rw [ZG]
 exact List.length_filter_le _ _
theorem ZkW (s:Nat)(g:Zag)(as:List Zax)(a:Zax):kids s g (as++[a])=kids s g as++(if a.By = -1 then [⟨a.Next,g.set s a.From⟩] else []):=by
 unfold kids
 rw [List.filter_append,ZL]
 congr 1
 by_cases h:a.By = -1
 ·rw [Z2 h];simp [List.filter,h]
 rw [Z1 h];simp [List.filter,beq_eq_false_iff_ne.2 h]
theorem ZnZ (hN:2000<=N)(hp:ZdZ p=true){r m:List (Zan×Bool)}(hm:MOK p m){s:Nat}(hs:s<p.Periods.length){t:Zam}(hg:AOK p t.given){x:Z7}(hst:x.Stream=s){nP len c:Int}(hnP:nP=p.Periods.length)
  (harm:∀ a∈x.Arms,ZlX p s a/\ZbV nP len c a=true) {l:List Zam} (hl:l.length<=100000000) (hA:x.Arms.length<1000000) (hAN:x.Arms.length<N) :
  ∃ m',MOK p m'/\ZaW (λy:Int×(List Zam)×(List (Zan×Bool))=>ZbW N (p,r) t x x y.1 y.2.1 y.2.2) N (0,l,m)=some (if x.Arms.all (rOK p s t.given)=true then .inl (l++kids s t.given x.Arms,m') else .inr false):=by
 have hP:=(VP.of hp).len
 obtain ⟨o,ho,m',hm',eo⟩:=Zb0 (body:=λy:Int×(List Zam)×(List (Zan×Bool))=>ZbW N (p,r) t x x y.1 y.2.1 y.2.2)
  (λy=>∃ k:Nat,y.1=k/\k<=x.Arms.length/\y.2.1=l++kids s t.given (x.Arms.take k)/\MOK p y.2.2/\(x.Arms.take k).all (rOK p s t.given)=true) (λy=>(x.Arms.length-y.1).toNat)
  (λo=>∃ m',MOK p m'/\o=if x.Arms.all (rOK p s t.given)=true then .inl (l++kids s t.given x.Arms,m') else .inr false) (λy hy=>by
   obtain ⟨i,l1,m1⟩:=y
   obtain ⟨k,k1,k2,k3,k4,k5⟩:=hy
   simp only at k1 k3 k4
   subst k1 k3
   simp only [ZbW]
   by_cases c1:k<x.Arms.length
   ·obtain ⟨hok,hre⟩:=harm _ (List.getElem_mem c1)
    have hkl:=Zj5 s t.given (x.Arms.take k)
    rw [ZK] at hkl
    have etake:x.Arms.take (k+1)=x.Arms.take k++[x.Arms[k]]:=List.take_succ_eq_append_getElem c1
    rw [Z2 (by simpa using c1),ZbM c1,ZU,Za5 (by omega)]
    by_cases b:x.Arms[k].By = -1
    ·left
     refine ⟨(((k+1:Nat):Int),l++kids s t.given (x.Arms.take (k+1)),m1),?_,⟨k+1,rfl,by omega,rfl,k4,?_⟩,by simp;omega⟩
     ·rw [Z2 (by simpa using b),hst,ZdL _ (by omega),ZU]
      simp only [ZcN]
      have ha:appI 104 (l++kids s t.given (x.Arms.take k)) [Zam.mk x.Arms[k].Next (t.given.set s x.Arms[k].From)]=some (l++kids s t.given (x.Arms.take k)++[Zam.mk x.Arms[k].Next (t.given.set s x.Arms[k].From)]):=by
       unfold appI
       rw [Z2 (by simp only [ZE,ZF,ZH];omega)]
      rw [ha,ZU,ZU,etake,ZkW,Z2 b,Zo]
     rw [etake,List.all_append,k5,Zj]
     simp [rOK,b]
    have hre2:=hre
    unfold ZbV at hre2
    rw [Z1 b] at hre2
    rw [Z1 (by simpa using b)]
    have ek:kids s t.given (x.Arms.take (k+1))=kids s t.given (x.Arms.take k):=by rw [etake,ZkW,Z1 b,List.append_nil]
    by_cases b2:0<=x.Arms[k].By
    ·have b3:x.Arms[k].By<(p.Periods.length:Int):=by
      by_cases q:x.Arms[k].Next=0
      ·rw [Z2 q,Z1 (by omega),ZZ] at hre2;omega
      rw [Z1 q] at hre2;cases hre2
     obtain ⟨m2,hm2,hk2⟩:=Zhv (N:=N) hN hp (r:=r) k4 hs hok b2 b3 hg
     rw [Z2 (by simpa using b2),hst,hm2,ZU,ZU]
     have er:rOK p s t.given x.Arms[k]=refB p s t.given x.Arms[k]:=by unfold rOK;rw [Z1 b,Z2 b2]
     cases hr:refB p s t.given x.Arms[k] with
     | true =>
      left
      refine ⟨(((k+1:Nat):Int),l++kids s t.given (x.Arms.take (k+1)),m2),?_,⟨k+1,rfl,by omega,rfl,hk2,?_⟩,by simp;omega⟩
      ·rw [Z1 (by simp),ek]
      rw [etake,List.all_append,k5,Zj,List.all_cons,er,hr];rfl
     | false =>
      right
      refine ⟨_,by rw [Z2 (by simp)],m2,hk2,?_⟩
      rw [Z1]
      rw [Zn]
      intro hq
      have:=hq _ (List.getElem_mem c1)
      rw [er,hr] at this
      cases this
    rw [Z1 (by simpa using b2),ZU]
    left
    refine ⟨(((k+1:Nat):Int),l++kids s t.given (x.Arms.take (k+1)),m1),?_,⟨k+1,rfl,by omega,rfl,k4,?_⟩,by simp;omega⟩
    ·rw [Z1 (by simp),ek]
    rw [etake,List.all_append,k5,Zj]
    simp [rOK,b,b2]
   right
   obtain rfl:k=x.Arms.length:=by omega
   rw [List.take_length] at k5 ⊢
   exact ⟨_,by rw [Z1 (by simp)],m1,k4,by rw [Z2 k5]⟩) N (0,l,m) ⟨0,rfl,by omega,by simp [kids],hm,by simp⟩ (by simp;omega)
 exact ⟨m',hm',by rw [ho,eo]⟩
end
end Go.Sh

namespace Go.Sh
open Go Go.Eng
theorem Zjk {q q':Nat->Bool}{s:Nat}(h0:q s=false)(h1:q' s=true)(h:∀ k,k≠s->q' k=q k):∀ n,(List.range n).countP q'=(List.range n).countP q+(if s<n then 1 else 0)
 | 0=>by simp
 | n+1=>by
  rw [List.range_succ,List.countP_append,List.countP_append,Zjk h0 h1 h n]
  by_cases e:n=s
  ·subst e
   simp [h0,h1]
  have:q' n=q n:=h n e
  simp only [List.countP_cons,List.countP_nil,this]
  by_cases c:s<n
  ·have c2:s<n+1:=by omega
   simp only [c,c2,Z3];omega
  have c2:¬ s<n+1:=by omega
  simp only [c,c2,Z0];omega
section
variable {N:Nat} {p:Z6} {f:List Z7}
def dep (p:Z6)(g:Zag):Nat:=(List.range p.Periods.length).countP λk=>g.l.getD k 0 != -1
theorem ZoY (g:Zag):dep p g<=p.Periods.length:=by
 unfold dep
 have:=List.countP_le_length (p:=λk=>g.l.getD k 0 != -1) (l:=List.range p.Periods.length)
 simpa using this
theorem Zpr {g:Zag}(hP:p.Periods.length<=12){s:Nat}(hs:s<p.Periods.length)(h0:g.l.getD s 0 = -1){x:Int}(hx:x ≠ -1):dep p (g.set s x)=dep p g+1:=by
 unfold dep
 rw [Zjk (q:=λk=>g.l.getD k 0 != -1) (q':=λk=>(g.set s x).l.getD k 0 != -1) (s:=s) (by rw [h0];rfl) (by rw [Zgx g s s x (by omega),Z2 rfl,bne_iff_ne];exact hx) (λk hk=>by rw [Zgx g s k x (by omega),Z1 hk]),Z2 hs]
def SI (p:Z6)(A:Nat):Nat->List Zam->Prop
 | 0,l=>l.length<=A/\∀ t∈l,dep p t.given=0
 | d+1,l=>∃ l1 B,l=l1++B/\SI p A d l1/\B.length<=A/\∀ t∈B,dep p t.given=d+1
theorem SI.len {A:Nat}:∀ {d:Nat} {l:List Zam},SI p A d l->l.length<=A*(d+1)
 | 0,l,h=>by rw [Nat.mul_one];exact h.1
 | d+1,l,h=>by
  obtain ⟨l1,B,rfl,h1,h2,_⟩:=h
  have:=SI.len h1
  rw [ZE,Nat.mul_add A (d+1) 1]
  omega
theorem SI.pop {A:Nat}{t:Zam}:∀ {d:Nat} {l:List Zam},SI p A d (l++[t])->SI p A (dep p t.given) l
 | 0,l,h=>by
  obtain ⟨h1,h2⟩:=h
  rw [h2 t (by simp)]
  exact ⟨by rw [ZE] at h1;omega,λu hu=>h2 u (by simp [hu])⟩
 | d+1,l,h=>by
  obtain ⟨l1,B,e,h1,h2,h3⟩:=h
  rcases List.eq_nil_or_concat B with rfl|⟨B',u,rfl⟩
  ·rw [List.append_nil] at e
   subst e
   exact SI.pop h1
  rw [List.concat_eq_append,← Zo] at e
  obtain ⟨rfl,e2⟩:=List.append_inj' e rfl
  cases e2
  rw [h3 t (by simp)]
  exact ⟨l1,B',rfl,h1,by rw [List.concat_eq_append,ZE] at h2;omega,λu hu=>h3 u (by simp [hu])⟩
theorem Zpl (hp:ZdZ p=true)(hall:∀ c,c<f.length->Zbw p f c=true){A:Nat}(ha:∀ x∈f,x.Arms.length<=A)(hA:A<1000000){n m c:Nat}{g:Zag}(hc:c<f.length)(h1:f.length-c<=n)(h2:f.length-c<=m)(hg:AOK p g):hB p f n c g=hB p f m c g:=by
 have a1:=Zj7 hp hall (M:=2000+A+1) (by omega) (λx hx=>by have:=ha x hx;omega) n (2000+A+1+n+m) c g hc h1 (by omega) hg
 have a2:=Zj7 hp hall (M:=2000+A+1) (by omega) (λx hx=>by have:=ha x hx;omega) m (2000+A+1+n+m) c g hc h2 (by omega) hg
 rw [a1] at a2
 exact Option.some.inj a2
theorem Zmp (s:Nat)(g:Zag)(R:Nat->Zag->Bool):∀ as:List Zax,as.all (armH p s g R)=(as.all (rOK p s g)&&(kids s g as).all λt=>R t.choice.toNat t.given)
 | []=>rfl
 | a::as=>by
  rw [List.all_cons,List.all_cons,Zmp s g R as]
  unfold kids
  by_cases h:a.By = -1
  ·rw [List.filter_cons_of_pos (by simpa using h),ZM,List.all_cons]
   have e1:armH p s g R a=R a.Next.toNat (g.set s a.From):=by unfold armH;rw [Z2 h]
   have e2:rOK p s g a=true:=by unfold rOK;rw [Z2 h]
   rw [e1,e2,Zj]
   cases R a.Next.toNat (g.set s a.From)<;>simp
  rw [List.filter_cons_of_neg (by simpa using h)]
  have e1:armH p s g R a=rOK p s g a:=by unfold armH rOK;rw [Z1 h,Z1 h]
  rw [e1,Bool.and_assoc]
def wt (p:Z6)(A:Nat)(t:Zam):Nat:=(A+1) ^ (13-dep p t.given)
def wts (p:Z6)(A:Nat)(l:List Zam):Nat:=(l.map (wt p A)).sum
theorem Zm0 (A:Nat)(a b:List Zam):wts p A (a++b)=wts p A a+wts p A b:=by simp [wts]
theorem ZoP {A W:Nat}:∀ {l:List Zam},(∀ t∈l,wt p A t=W)->wts p A l=l.length*W
 | [],_=>by simp [wts]
 | t::l,h=>by
  have:=ZoP (l:=l) λu hu=>h u (by simp [hu])
  unfold wts at this ⊢
  rw [ZM,List.sum_cons,this,h t (by simp),ZF,ZS]
  omega
structure TOK (p:Z6) (f:List Z7) (t:Zam):Prop where
 c0:0<=t.choice
 c1:t.choice<(f.length:Int)
 g:AOK p t.given
def Zjy (p:Z6)(f:List Z7)(t:Zam):Bool:=hB p f f.length t.choice.toNat t.given
theorem Zmw (hp:ZdZ p=true)(hall:∀ c,c<f.length->Zbw p f c=true){A:Nat}(hA1:1<=A)(ha:∀ x∈f,x.Arms.length<=A)(hA:A<1000000){r:List (Zan×Bool)}{t0:Zam}(ht0:TOK p f t0)(hd0:dep p t0.given=0)
  (hN:2000+A<N) (hN2:(A+1) ^ 13<N) :
  ZaW (λx:(List Zam)×(List (Zan×Bool))=>ZbX N f (p,r) x.1 x.2) N ([t0],[])=some (if Zjy p f t0=true then .inl () else .inr false):=by
 have hP:=(VP.of hp).len
 obtain ⟨o,ho,eo⟩:=Zb0 (body:=λx:(List Zam)×(List (Zan×Bool))=>ZbX N f (p,r) x.1 x.2)
  (λx=>MOK p x.2/\(∀ t∈x.1,TOK p f t)/\(∃ d,d<=12/\SI p A d x.1)/\x.1.all (Zjy p f)=Zjy p f t0) (λx=>wts p A x.1)
  (λo=>o=if Zjy p f t0=true then .inl () else .inr false) (λx hx=>by
   obtain ⟨l,m⟩:=x
   obtain ⟨h1,h2,⟨d,hd,h3⟩,h4⟩:=hx
   simp only at h1 h2 h3 h4
   simp only [ZbX]
   rcases List.eq_nil_or_concat l with rfl|⟨l0,t,rfl⟩
   ·right
    exact ⟨_,by rw [Z1 (by simp)],by rw [← h4];rfl⟩
   ·rw [List.concat_eq_append] at h2 h3 h4 ⊢
    have ht:=h2 t (by simp)
    obtain ⟨c,hc⟩:∃ c:Nat,t.choice=c:=⟨t.choice.toNat,by have:=ht.c0;omega⟩
    have hcl:c<f.length:=by have:=ht.c1;omega
    obtain ⟨_,s,hs,hsl,harm⟩:=ZiF (hall c hcl)
    have hb:=ha _ (List.getElem_mem hcl)
    have hlen:=h3.len
    have hlen2:A*(d+1)<=A*13:=Nat.mul_le_mul_left A (by omega)
    rw [ZE,ZF,ZH] at hlen
    have e1:w64 (((List.length (l0++[t]):Nat):Int)-1)=(l0.length:Int):=by
     rw [ZE,ZF,ZH,Zbu (by omega) (by omega)];omega
    have e2:idx (l0++[t]) ((l0.length:Nat):Int)=some t:=by rw [ZeT];simp
    have e3:popI (l0++[t]) ((l0.length:Nat):Int)=some l0:=by
     unfold popI
     rw [Z2 (by simp;omega)]
     simp
    rw [Z2 (by simp),e1,e2,ZU,e3,ZU,hc,ZbM hcl,ZU,hs,ZdL t.given (by omega),ZU]
    have hstep:Zjy p f t=((t.given.l.getD s 0 == -1)&&f[c].Arms.all (armH p s t.given (hB p f f.length))):=by
     unfold Zjy
     rw [hc,Zl,Zpl hp hall ha hA hcl (n:=f.length) (m:=f.length+1) (by omega) (by omega) ht.g]
     show (match f[c]? with
      | none=>false
      | some x=>(t.given.l.getD x.Stream.toNat 0 == -1)&&x.Arms.all (armH p x.Stream.toNat t.given (hB p f f.length)))=_
     rw [Zy hcl]
     simp only [hs,Zl]
    have hbad:Zjy p f t=false->Zjy p f t0=false:=λhf=>by
     rw [← h4,List.all_append]
     simp [hf]
    by_cases hz:t.given.l.getD s 0 = -1
    ·rw [Z1 (by rw [hz];simp),ZU]
     obtain ⟨m',hm',hloop⟩:=ZnZ (N:=N) (by omega) hp (r:=r) h1 hsl ht.g hs rfl harm (l:=l0) (by omega) (by omega) (by omega)
     rw [hloop,ZU]
     rw [Zmp,beq_iff_eq.2 hz,Zj] at hstep
     cases hr:f[c].Arms.all (rOK p s t.given) with
     | false =>
      right
      rw [hr,Bool.false_and] at hstep
      exact ⟨_,by rw [Z1 (by simp)],by rw [hbad hstep,Z1 (by simp)]⟩
     | true =>
      left
      rw [hr,Zj] at hstep
      have hkid:∀ u∈kids s t.given f[c].Arms,TOK p f u/\dep p u.given=dep p t.given+1:=λu hu=>by
       unfold kids at hu
       obtain ⟨a,haf,rfl⟩:=List.mem_map.1 hu
       obtain ⟨ha1,ha2⟩:=List.mem_filter.1 haf
       rw [beq_iff_eq] at ha2
       obtain ⟨hok,hre⟩:=harm a ha1
       unfold ZbV at hre
       rw [Z2 ha2,ZZ] at hre
       have hf0:=hok.f0
       have hlt:=hok.lt
       have ho:=Zj0 hok hsl (k:=0) (by omega)
       exact ⟨⟨by simp only;omega,by simp only;omega,ht.g.set hP hsl (by simpa using ho)⟩,Zpr hP hsl hz (by omega)⟩
      have hpop:=SI.pop h3
      have hdl:=ZoY (p:=p) t.given
      refine ⟨(l0++kids s t.given f[c].Arms,m'),by rw [Z2 rfl],⟨hm',λu hu=>?_,?_,?_⟩,?_⟩
      ·rcases List.mem_append.1 hu with hu|hu
       ·exact h2 u (by simp [hu])
       exact (hkid u hu).1
      ·by_cases hk0:kids s t.given f[c].Arms=[]
       ·exact ⟨dep p t.given,by omega,by simp only;rw [hk0,List.append_nil];exact hpop⟩
       obtain ⟨u,hu⟩:=List.exists_mem_of_ne_nil _ hk0
       have:=ZoY (p:=p) u.given
       have:=(hkid u hu).2
       exact ⟨dep p t.given+1,by omega,l0,_,rfl,hpop,Nat.le_trans (Zj5 _ _ _) hb,λu hu=>(hkid u hu).2⟩
      ·rw [← h4]
       simp only [List.all_append,List.all_cons,List.all_nil,Bool.and_true]
       rw [hstep]
       rfl
      simp only
      rw [Zm0,Zm0]
      have w1:wts p A [t]=(A+1) ^ (13-dep p t.given):=by simp [wts,wt]
      have hdt:dep p t.given<=12:=by omega
      have w2:=ZoP (p:=p) (A:=A) (W:=(A+1) ^ (13-(dep p t.given+1))) (l:=kids s t.given f[c].Arms) (λu hu=>by unfold wt;rw [(hkid u hu).2])
      have w3:(A+1) ^ (13-dep p t.given)=(A+1) ^ (13-(dep p t.given+1))*(A+1):=by
       rw [← Nat.pow_succ]
       congr 1
       omega
      have w4:0<(A+1) ^ (13-(dep p t.given+1)):=Nat.pow_pos (by omega)
      have w5:=Nat.mul_le_mul_right ((A+1) ^ (13-(dep p t.given+1))) (Nat.le_trans (Zj5 s t.given f[c].Arms) hb)
      rw [w1,w2,w3,Nat.mul_add,Nat.mul_comm _ A]
      omega
    right
    rw [beq_eq_false_iff_ne.2 hz,Bool.false_and] at hstep
    exact ⟨_,by rw [Z2 (by simpa using hz)],by rw [hbad hstep,Z1 (by simp)]⟩) N ([t0],[]) ⟨MOK.nil,λt ht=>by simp only [ZP] at ht;subst ht;exact ht0,⟨0,by omega,by simp;omega,λt ht=>by simp only [ZP] at ht;subst ht;exact hd0⟩,by simp⟩ (by
   simp only [wts,wt,ZM,ZN,List.sum_cons,List.sum_nil,hd0]
   simpa using hN2)
 rw [ho,eo]
end
end Go.Sh

namespace Go.Sh
open Go Go.Eng
def g0:Zag:=⟨-1,-1,-1,-1,-1,-1,-1,-1,-1,-1,-1,-1⟩
theorem ZnM (k:Nat)(h:k<12):g0.l.getD k 0 = -1:=by
 rcases k with _|_|_|_|_|_|_|_|_|_|_|_|k<;>first|rfl|omega
theorem Zof (n M:Nat):ZaW (λx:Int×Zag=>ZcM M x.1 x.2) (n+13) (0,(Zag.mk 0 0 0 0 0 0 0 0 0 0 0 0))=some g0:=by kernel_rfl
section
variable {N:Nat} {p:Z6} {f:List Z7}
theorem Ziq (h:Zk6 p f=true):1<=f.length/\f.length<=2000/\∀ c,c<f.length->Zbw p f c=true:=by
 unfold Zk6 at h
 simp only [Ze,ZZ] at h
 exact ⟨h.1.1.1,h.1.1.2,Zcv.1 h.1.2⟩
theorem Zxs (hp:ZdZ p=true):AOK p g0:=λk hk=>.inl (ZnM k (by have:=(VP.of hp).len;omega))
theorem ZrC (hp:ZdZ p=true):dep p g0=0:=by
 unfold dep
 rw [List.countP_eq_zero]
 intro k hk
 rw [List.mem_range] at hk
 rw [ZnM k (by have:=(VP.of hp).len;omega)]
 simp
def ZhI (p:Z6)(f:List Z7):Bool:=hB p f f.length 0 g0
def Zfm (p:Z6)(f:List Z7):Int:=if ZdZ p=true then (if Zk6 p f=true then (if ZhI p f=true then 0 else 351) else 350) else 340
theorem ZiS (hp:ZdZ p=true)(hf:Zk6 p f=true){A:Nat}(hA1:1<=A)(ha:∀ x∈f,x.Arms.length<=A)(hA:A<1000000)(hN:2000+A<N)(hN2:(A+1) ^ 13<N):Zd9 N p f=some (ZhI p f):=by
 obtain ⟨h1,h2,hall⟩:=Ziq hf
 obtain ⟨n,rfl⟩:∃ n,N=n+13:=⟨N-13,by omega⟩
 unfold Zd9
 have e1:Zdj (n+13) p=some (p,[]):=rfl
 rw [e1,ZU,Zof,ZU]
 have e2:ZcO (n+13) [] 0 g0=some [⟨0,g0⟩]:=rfl
 simp only [e2,ZU]
 rw [Zmw hp hall hA1 ha hA (t0:=⟨0,g0⟩) ⟨by simp,by simp only;omega,Zxs hp⟩ (ZrC hp) hN hN2,ZU]
 have e3:Zjy p f ⟨0,g0⟩=ZhI p f:=rfl
 rw [e3]
 cases ZhI p f<;>rfl
theorem ZiV {A:Nat}(hA1:1<=A)(ha:∀ x∈f,x.Arms.length<=A)(hA:A<1000000)(hfl:f.length<N)(hN:2000+A<N)(hN2:(A+1) ^ 13<N):ZaK N p f=some (Zfm p f):=by
 unfold ZaK Zfm
 rw [ZeQ (by omega),ZU]
 cases hp:ZdZ p with
 | false=>rfl
 | true =>
  simp only [Z3]
  rw [Z1 (by simp),Zh4 hfl (by omega) (λx hx=>by have:=ha x hx;omega),ZU]
  cases hf:Zk6 p f with
  | false=>rfl
  | true =>
   simp only [Z3]
   rw [Z1 (by simp),ZiS hp hf hA1 ha hA hN hN2,ZU]
   cases ZhI p f<;>rfl
end
end Go.Sh

