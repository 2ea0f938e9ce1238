/- Part of the proof. -/
import Derived.Test.YthhhjjjbpcaadaaSolveLeastSh
import Derived.Test.YthhhjjjbpcaadaaSolveLeastRd
import Derived.KernelRfl
set_option linter.all false
namespace Go.Sh
open Go Go.Eng
theorem Zbn {x:Int}(h : -9223372036854775808<=x)(h2:x<=9223372036854775807):w64 x=x:=by
 unfold w64 IntKind.wrap
 simp only [IntKind.bits,IntKind.signed]
 by_cases h0:0<=x
 ·have:x%(2 ^ 64:Int)=x:=Int.emod_eq_of_lt h0 (by omega)
  simp only [this]
  rw [ZX]
  simp;omega
 have:x%(2 ^ 64:Int)=x+2 ^ 64:=by
  rw [← Int.add_emod_right]
  exact Int.emod_eq_of_lt (by omega) (by omega)
 simp only [this]
 rw [ZY]
 ·omega
 simp;omega
theorem Zh5 {σ ρ:Type}(body:σ->Option (σ⊕ρ))(m:Nat)(x:σ):Za9 body (m+1) x=match body x with
  | none=>none
  | some (.inl y)=>Za9 body m y
  | some (.inr r)=>some r:=rfl
theorem ZcF {σ ρ:Type}{body:σ->Option (σ⊕ρ)}{m:Nat}{x y:σ}(h:body x=some (.inl y)):Za9 body (m+1) x=Za9 body m y:=by rw [Zh5,h]
theorem ZbA {σ ρ:Type}{body:σ->Option (σ⊕ρ)}{m:Nat}{x:σ}{r:ρ}(h:body x=some (.inr r)):Za9 body (m+1) x=some r:=by rw [Zh5,h]
theorem Zdp {σ ρ:Type}{body:σ->Option (σ⊕ρ)}(I:σ->Prop)(μ:σ->Nat)(Post:ρ->Prop)
  (step:∀ x,I x->(∃ y,body x=some (.inl y)/\I y/\μ y<μ x)∨(∃ r,body x=some (.inr r)/\Post r)):∀ (N:Nat) (x:σ),I x->μ x<N->∃ r,Za9 body N x=some r/\Post r
 | 0,x,_,h=>by omega
 | N+1,x,hI,h=>by
  rcases step x hI with ⟨y,h1,h2,h3⟩|⟨r,h1,h2⟩
  ·rw [ZcF h1]
   exact Zdp I μ Post step N y h2 (by omega)
  exact ⟨r,by rw [ZbA h1],h2⟩
theorem Zeu {α:Type}(l:List α)(k:Nat):idx l (k:Int)=l[k]?:=by
 unfold idx
 rw [ZY (by omega)]
 rfl
theorem Zmo {α:Type}{l:List α}{i:Int}(h0:0<=i)(h:i.toNat<l.length):idx l i=some l[i.toNat]:=by
 unfold idx
 rw [ZY h0]
 exact Zs h
theorem Zb5 {a b:Int}(h:b≠0):remI a b=some (a.tmod b):=by unfold remI;rw [ZX h]
theorem Zm2 {k:IntKind}{a b:Int}(h:b≠0):quoI k a b=some (k.wrap (a.tdiv b)):=by unfold quoI;rw [ZX h]
theorem Zhu {α:Type}{l:List α}{k:Nat}(h:k<l.length):l.drop k=l[k]::l.drop (k+1):=List.drop_eq_getElem_cons h
theorem ZkE {a b:Int}(hb:0<b):(a.tmod b+b).tmod b=a%b:=by
 have h1:0<=a.tmod b+b:=by have:=Int.lt_tmod_of_pos a hb;omega
 rw [Zi h1,Int.add_emod_right]
 rw [Int.tmod_eq_emod]
 split
 ·simp
 have:(b.natAbs:Int)=b:=by omega
 rw [this]
 simp
theorem ZjE {α ρ:Type}{l:List α}{p:α->Bool}{body:Int->Option (Int⊕ρ)}{bad fin:ρ}(hstep:∀ (k:Nat) (h:k<l.length),body (k:Int)=if p l[k]=true then some (.inl ((k+1:Nat):Int)) else some (.inr bad))
  (hend:body (l.length:Int)=some (.inr fin)):∀ (n N k:Nat),l.length-k=n->k<=l.length->n<N->Za9 body N (k:Int)=some (if (l.drop k).all p then fin else bad):=by
 intro n
 induction n with
 | zero =>
  intro N k hn hk hN
  have:k=l.length:=by omega
  subst this
  cases N with
  | zero=>omega
  | succ N=>rw [ZbA hend];simp
 | succ n ih =>
  intro N k hn hk hN
  cases N with
  | zero=>omega
  | succ N =>
   have hlt:k<l.length:=by omega
   rw [Zhu hlt,List.all_cons]
   by_cases hp:p l[k]=true
   ·rw [ZcF (by rw [hstep k hlt,ZY hp]),ih N (k+1) (by omega) (by omega) (by omega)]
    simp [hp]
   rw [ZbA (by rw [hstep k hlt,ZX hp])]
   simp [hp]
end Go.Sh

namespace Go.Sh
open Go Go.Eng
def VSpan (s:Z4):Prop:=1<=s.Period/\s.Period<=960/\0<=s.From/\s.From<s.Period/\1<=s.Long/\s.Long<=s.Period
instance (s:Z4):Decidable (VSpan s):=by unfold VSpan;infer_instance
theorem ZcM (N:Nat)(s:Z4):Zbv N s=some (if VSpan s then 0 else 330):=by
 unfold Zbv
 by_cases h:VSpan s
 ·rw [ZY h]
  unfold VSpan at h
  rw [ZX (by simp;omega),ZX (by simp;omega)]
 rw [ZX h]
 unfold VSpan at h
 by_cases h1:((decide (s.Period<1))||((decide (s.Period>960))||((decide (s.From<0))||(decide (s.From≥s.Period)))))=true
 ·rw [ZY h1]
 rw [ZX h1,ZY]
 simp at h1 ⊢
 omega
theorem ZhI (N:Nat){a b:Int}(hb:0<b)(hb2:b<=1000000):Zc8 N a b=some (a%b):=by
 unfold Zc8
 have h1:=Int.lt_tmod_of_pos a hb
 have h2:=Int.tmod_lt_of_pos a hb
 rw [Zb5 (by omega),ZO,Zbn (by omega) (by omega),Zb5 (by omega),ZO,ZkE hb]
theorem Zgj (M:Nat):∀ (b N a:Nat),b<N->Za9 (λx:Int×Int=>Zbl M x.1 x.2) N ((a:Int),(b:Int))=some (Nat.gcd a b:Int):=by
 intro b
 induction b using Nat.strongRecOn with
 | _ b ih =>
  intro N a hN
  cases N with
  | zero=>omega
  | succ N =>
   by_cases hb:b=0
   ·subst hb
    rw [ZbA (r:=(a:Int))]
    ·simp
    simp [Zbl]
   have hlt:=Nat.mod_lt a (Nat.pos_of_ne_zero hb)
   rw [ZcF (y:=((b:Int),((a%b:Nat):Int)))]
   ·rw [ih (a%b) hlt N b (by omega)]
    rw [Nat.gcd_comm a b,Nat.gcd_rec b a,Nat.gcd_comm (a%b) b]
   simp only [Zbl]
   rw [ZY (by simp;omega),Zb5 (by omega),ZO,Zi (by omega)]
   rfl
theorem ZeU {N:Nat}{a b:Int}(ha:0<=a)(hb:0<=b)(hN:b.toNat<N):Zcu N a b=some (Nat.gcd a.toNat b.toNat:Int):=by
 unfold Zcu
 have:=Zgj N b.toNat N a.toNat hN
 rw [Int.toNat_of_nonneg ha,Int.toNat_of_nonneg hb] at this
 rw [this]
 rfl
def gP (a b:Z4):Int:=(Nat.gcd a.Period.toNat b.Period.toNat:Int)
theorem Zmr {a b:Z4}(ha:1<=a.Period):0<gP a b:=by
 have:0<Nat.gcd a.Period.toNat b.Period.toNat:=Nat.gcd_pos_of_pos_left _ (by omega)
 unfold gP;omega
theorem Zpa {a b:Z4}(ha:1<=a.Period):gP a b<=a.Period:=by
 have:=Nat.le_of_dvd (by omega:0<a.Period.toNat) (Nat.gcd_dvd_left a.Period.toNat b.Period.toNat)
 unfold gP;omega
theorem Zkk {a b:Z4}(ha:1<=a.Period):gP a b∣a.Period:=by
 have:=Int.natCast_dvd_natCast.2 (Nat.gcd_dvd_left a.Period.toNat b.Period.toNat)
 rwa [Int.toNat_of_nonneg (by omega)] at this
theorem ZjH {a b:Z4}(hb:1<=b.Period):gP a b∣b.Period:=by
 have:=Int.natCast_dvd_natCast.2 (Nat.gcd_dvd_right a.Period.toNat b.Period.toNat)
 rwa [Int.toNat_of_nonneg (by omega)] at this
def SepD (a b:Z4)(d:Int):Prop:=a.Long<=d%gP a b/\d%gP a b<=gP a b-b.Long
instance (a b:Z4) (d:Int):Decidable (SepD a b d):=by unfold SepD;infer_instance
end Go.Sh

namespace Go.Sh
open Go Go.Eng
theorem VSpan.bounds {s:Z4}(h:VSpan s):1<=s.Period/\s.Period<=960/\0<=s.From/\s.From<s.Period/\1<=s.Long/\s.Long<=s.Period:=h
theorem ZnW (a b:Z4):gP a b=gP b a:=by unfold gP;rw [Nat.gcd_comm]
theorem Zg0 {N:Nat}(hN:2000<=N){a b:Z4}(ha:VSpan a)(hb:VSpan b):ZcC N a b=some (a.Long,gP a b-b.Long,gP a b):=by
 obtain ⟨a1,a2,a3,a4,a5,a6⟩:=ha
 obtain ⟨b1,b2,b3,b4,b5,b6⟩:=hb
 have hg0:0<gP a b:=Zmr a1
 have hg1:gP a b<=a.Period:=Zpa a1
 unfold ZcC
 rw [ZeU (by omega) (by omega) (by omega),ZO]
 show some (a.Long,w64 (gP a b-b.Long),gP a b)=_
 rw [Zbn (by omega) (by omega)]
theorem Zgl {N:Nat}(hN:2000<=N){a b:Z4}(ha:VSpan a)(hb:VSpan b):Zcg N a b=some (decide (SepD a b (b.From-a.From))):=by
 have hr:=Zg0 hN ha hb
 obtain ⟨a1,a2,a3,a4,a5,a6⟩:=ha
 obtain ⟨b1,b2,b3,b4,b5,b6⟩:=hb
 have hg0:0<gP a b:=Zmr a1
 have hg1:gP a b<=a.Period:=Zpa a1
 unfold Zcg
 by_cases h:((a.Period==b.Period)&&((a.From==b.From)&&((a.Long==b.Long)&&true)))=true
 ·rw [ZY h]
  simp only [Ze,beq_iff_eq,ZT] at h
  symm
  simp only [ZR,decide_eq_false_iff_not]
  unfold SepD
  rw [h.2.1,Int.sub_self,Int.zero_emod]
  omega
 rw [ZX h,hr]
 simp only [ZO]
 rw [Zbn (by omega) (by omega),ZhI N hg0 (by omega)]
 simp only [ZO,ZR]
 rw [Bool.eq_iff_iff,decide_eq_true_iff]
 simp only [Ze,ZV,SepD]
theorem Zgp {N:Nat}(hN:2000<=N)(a b:Z4):Zci N a b=some (if VSpan a/\VSpan b then (decide (SepD a b (b.From-a.From)),0) else (false,330)):=by
 unfold Zci
 rw [ZcM,ZcM]
 simp only [ZO]
 by_cases ha:VSpan a
 ·by_cases hb:VSpan b
  ·simp only [ha,hb,ZZ,and_self,ZU,Zf,ZW,Zgl hN ha hb,ZO]
  simp [ha,hb]
 simp [ha]
end Go.Sh
namespace Go.Sh
open Go Go.Eng
theorem ZeL {α:Type}{b:Nat}{l m:List α}(h:l.length+m.length<=100000)(hb:b<=100000):appI b l m=some (l++m):=by
 unfold appI
 rw [ZY]
 have:(l.length+m.length)*b<=100000*100000:=Nat.mul_le_mul h hb
 omega
def allV (l:List Z4):Bool:=l.all λs=>decide (VSpan s)
theorem Ze4 {N:Nat}(hN:100<=N)(l:List Z4):Zbz N l=some (if 32<l.length then 3 else if allV l then 0 else 330):=by
 unfold Zbz
 by_cases h:32<l.length
 ·rw [ZY (by simp;omega),ZY h]
 rw [ZX (by simp;omega),ZX h]
 have:=ZjE (l:=l) (p:=λs=>decide (VSpan s)) (body:=λx:Int=>ZaR N l x) (bad:=.inr 330) (fin:=.inl ()) (λk hk=>by
  simp only [ZaR]
  rw [ZY (by simpa using hk),Zeu,Zs hk,ZO,ZcM,ZO]
  by_cases hv:VSpan l[k]
  ·simp only [hv,ZZ,ZU,Zf,ZW,decide_true]
   rw [Zbn (by omega) (by omega)];simp
  simp [hv]) (by simp [ZaR]) l.length N 0 (by omega) (by omega) (by omega)
 rw [show ((0:Nat):Int)=0 from rfl] at this
 rw [this,ZO,List.drop_zero]
 have e:(l.all λs=>decide (VSpan s))=allV l:=rfl
 rw [e]
 cases allV l<;>rfl
def shift (b:Z4)(k:Int):Z4:=⟨b.Period,(b.From+k)%b.Period,b.Long⟩
end Go.Sh
namespace Go.Sh
open Go Go.Eng
def lcmP:List Z4->Nat
 | []=>1
 | s::l=>Nat.lcm s.Period.toNat (lcmP l)
theorem ZkV:∀ {l:List Z4},(∀ s∈l,VSpan s)->0<lcmP l
 | [],_=>by decide
 | s::l,h=>by
  have h1:=(h s (by simp)).bounds
  exact Nat.lcm_pos (by omega) (ZkV λt ht=>h t (by simp [ht]))
theorem Zgb:∀ {l:List Z4} {n:Nat},lcmP l∣n↔∀ s∈l,s.Period.toNat∣n
 | [],n=>by simp [lcmP]
 | s::l,n=>by
  simp only [lcmP,List.mem_cons,forall_eq_or_imp]
  rw [Nat.lcm_dvd_iff,Zgb]
theorem ZfH {N:Nat}(hN:2000<=N){ps:List Int}(hps:∀ p∈ps,1<=p/\p<=960):∀ (n M k:Nat) (m:Nat),ps.length-k=n->k<=ps.length->n<M->1<=m->m<=960->ps.length<=1000 →
  ∃ r,Za9 (λx:Int×Int=>ZaV N 960 ps x.1 x.2) M ((m:Int),(k:Int))=some r ∧
   (r<=960->r=((ps.drop k).foldl (λa p=>Nat.lcm a p.toNat) m:Nat))/\(960<r->960<(ps.drop k).foldl (λa p=>Nat.lcm a p.toNat) m):=by
 have mono:∀ (l:List Int) (a:Nat),(∀ p∈l,1<=p)->0<a->a<=l.foldl (λa p=>Nat.lcm a p.toNat) a:=by
  intro l
  induction l with
  | nil=>intro a _ _;exact Nat.le_refl _
  | cons p l ih =>
   intro a hp ha
   simp only [List.foldl_cons]
   have h1:=hp p (by simp)
   have hpos:0<Nat.lcm a p.toNat:=Nat.lcm_pos ha (by omega)
   exact Nat.le_trans (Nat.le_of_dvd hpos (Nat.dvd_lcm_left _ _)) (ih _ (λq hq=>hp q (by simp [hq])) hpos)
 intro n
 induction n with
 | zero =>
  intro M k m hn hk hM hm hm2 hl
  have:k=ps.length:=by omega
  subst this
  cases M with
  | zero=>omega
  | succ M =>
   refine ⟨(m:Int),ZbA (by simp only [ZaV];rw [ZX (by simp)]),λ_=>?_,λh=>?_⟩
   ·simp
   omega
 | succ n ih =>
  intro M k m hn hk hM hm hm2 hl
  cases M with
  | zero=>omega
  | succ M =>
   have hlt:k<ps.length:=by omega
   obtain ⟨p1,p2⟩:=hps ps[k] (List.getElem_mem hlt)
   have hg:0<Nat.gcd m ps[k].toNat:=Nat.gcd_pos_of_pos_left _ (by omega)
   have hq:(m:Int).tdiv (Nat.gcd m ps[k].toNat:Int)=((m/Nat.gcd m ps[k].toNat:Nat):Int):=by
    rw [Int.tdiv_eq_ediv_of_nonneg (by omega)];rfl
   have hqle:m/Nat.gcd m ps[k].toNat<=m:=Nat.div_le_self _ _
   have hmul:((m/Nat.gcd m ps[k].toNat:Nat):Int)*ps[k]=(Nat.lcm m ps[k].toNat:Int):=by
    have e1:ps[k]=(ps[k].toNat:Int):=by omega
    have e2:Nat.lcm m ps[k].toNat=m/Nat.gcd m ps[k].toNat*ps[k].toNat:=by
     rw [Nat.lcm,Nat.mul_comm m,Nat.mul_div_assoc _ (Nat.gcd_dvd_left _ _),Nat.mul_comm]
    rw [e2,Int.natCast_mul,← e1]
   have hlcm:Nat.lcm m ps[k].toNat<=960*960:=by
    have h1:m/Nat.gcd m ps[k].toNat*ps[k].toNat<=960*960:=Nat.mul_le_mul (by omega) (by omega)
    have e2:Nat.lcm m ps[k].toNat=m/Nat.gcd m ps[k].toNat*ps[k].toNat:=by
     rw [Nat.lcm,Nat.mul_comm m,Nat.mul_div_assoc _ (Nat.gcd_dvd_left _ _),Nat.mul_comm]
    omega
   have hlpos:0<Nat.lcm m ps[k].toNat:=Nat.lcm_pos (by omega) (by omega)
   have hbody:ZaV N 960 ps (m:Int) (k:Int)=if 960<Nat.lcm m ps[k].toNat then some (.inr (Nat.lcm m ps[k].toNat:Int)) else some (.inl ((Nat.lcm m ps[k].toNat:Int),((k+1:Nat):Int))):=by
    simp only [ZaV]
    rw [ZY (by simpa using hlt),Zeu,Zs hlt,ZO,ZeU (by omega) (by omega) (by omega),ZO,Zj,Zm2 (by omega),ZO,hq]
    have hq0:(0:Int)<=((m/Nat.gcd m ps[k].toNat:Nat):Int):=Int.natCast_nonneg _
    have hq1:((m/Nat.gcd m ps[k].toNat:Nat):Int)<=960:=Int.ofNat_le.2 (Nat.le_trans hqle hm2)
    have e3:IntKind.i64.wrap ((m/Nat.gcd m ps[k].toNat:Nat):Int)=((m/Nat.gcd m ps[k].toNat:Nat):Int):=Zbn (Int.le_trans (by decide) hq0) (Int.le_trans hq1 (by decide))
    rw [e3,hmul,Zbn (by omega) (by omega),Zbn (by omega) (by omega)]
    by_cases hc:960<Nat.lcm m ps[k].toNat
    ·rw [ZY (by simp;omega),ZY hc]
    rw [ZX (by simp;omega),ZX hc];simp
   rw [Zhu hlt,List.foldl_cons]
   by_cases hc:960<Nat.lcm m ps[k].toNat
   ·refine ⟨(Nat.lcm m ps[k].toNat:Int),ZbA (by rw [hbody,ZY hc]),λh=>?_,λ_=>?_⟩
    ·omega
    exact Nat.lt_of_lt_of_le hc (mono _ _ (λq hq=>(hps q (List.mem_of_mem_drop hq)).1) hlpos)
   rw [ZcF (by rw [hbody,ZX hc])]
   exact ih M (k+1) _ (by omega) (by omega) (by omega) (by omega) (by omega) hl
theorem Zh8:∀ (l:List Z4) (m:Nat),(l.map Z4.Period).foldl (λa p=>Nat.lcm a p.toNat) m=Nat.lcm m (lcmP l)
 | [],m=>by simp [lcmP,Nat.lcm_one_right]
 | s::l,m=>by simp only [ZF,List.foldl_cons,lcmP];rw [Zh8 l,Nat.lcm_assoc]
def ZkY (l:List Z4):Int×Int:=if 32<l.length then (0,3) else if allV l=true then (if lcmP l<=960 then ((lcmP l:Int),0) else (0,6)) else (0,330)
theorem Zk2 {l:List Z4}(h:allV l=true):∀ s∈l,VSpan s:=by
 unfold allV at h
 rw [List.all_eq_true] at h
 exact λs hs=>by simpa using h s hs
theorem Zgn {N:Nat}(hN:2000<=N)(l:List Z4):Zch N l=some (ZkY l):=by
 unfold Zch ZkY
 rw [Ze4 (by omega)]
 simp only [ZO]
 by_cases h:32<l.length
 ·simp [h]
 by_cases hv:allV l=true
 ·simp only [h,hv,ZZ,ZW,ZU,Zf]
  have hmk:ZjA 8 (l.length:Int) (l.length:Int) (0:Int)=some (List.replicate l.length 0):=by
   unfold ZjA;rw [ZY (by omega)];simp
  rw [hmk,ZO]
  have hloop:∀ (n M k:Nat),l.length-k=n->k<=l.length->n<M->Za9 (λx:Int×List Int=>Za6 N l x.1 x.2) M ((k:Int),(l.map Z4.Period).take k++List.replicate (l.length-k) 0)=some (l.map Z4.Period):=by
   intro n
   induction n with
   | zero =>
    intro M k hn hk hM
    have:k=l.length:=by omega
    subst this
    cases M with
    | zero=>omega
    | succ M =>
     refine ZbA ?_
     simp only [Za6]
     rw [ZX (by simp)]
     simp [List.take_of_length_le]
   | succ n ih =>
    intro M k hn hk hM
    cases M with
    | zero=>omega
    | succ M =>
     have hlt:k<l.length:=by omega
     have hc:=ih M (k+1) (by omega) (by omega) (by omega)
     rw [ZcF (y:=(((k+1:Nat):Int),(l.map Z4.Period).take (k+1)++List.replicate (l.length-(k+1)) 0)),hc]
     simp only [Za6]
     have hlen:((l.map Z4.Period).take k++List.replicate (l.length-k) 0).length=l.length:=by simp;omega
     rw [ZY (by simpa using hlt),Zeu,Zs hlt,ZO,Zeu,Zs (by omega),ZO,Zbn (by omega) (by omega)]
     have hset:List.set ((l.map Z4.Period).take k++List.replicate (l.length-k) 0) k l[k].Period=(l.map Z4.Period).take (k+1)++List.replicate (l.length-(k+1)) 0:=by
      rw [List.set_append_right _ _ (by simp;omega)]
      have e1:k-((l.map Z4.Period).take k).length=0:=by simp;omega
      rw [e1,show l.length-k=(l.length-(k+1))+1 by omega,List.replicate_succ,List.set_cons_zero,List.take_succ_eq_append_getElem (by simpa using hlt)]
      simp
     simp only [Zj,hset]
     rfl
  have hc:=hloop l.length N 0 (by omega) (by omega) (by omega)
  simp only [List.take_zero,ZI,Nat.sub_zero] at hc
  rw [show ((0:Nat):Int)=0 from rfl] at hc
  rw [hc,ZO]
  have hVl:=Zk2 hv
  obtain ⟨r,h1,h2,h3⟩:=ZfH hN (ps:=l.map Z4.Period) (λp hp=>by
   obtain ⟨s,hs,rfl⟩:=List.mem_map.1 hp
   have:=(hVl s hs).bounds;omega) l.length N 0 1 (by simp) (by omega) (by omega) (by omega) (by omega) (by simp;omega)
  rw [List.drop_zero,Zh8,Nat.lcm_one_left] at h2 h3
  have hf:ZcD N 960 (l.map Z4.Period)=some r:=by
   unfold ZcD
   have h1':Za9 (λx:Int×Int=>ZaV N 960 (l.map Z4.Period) x.1 x.2) N (1,0)=some r:=h1
   rw [h1',ZO]
  rw [hf,ZO]
  by_cases hc2:960<r
  ·rw [ZY (by simpa using hc2),ZX (by have:=h3 hc2;omega)]
  have:=h2 (by omega)
  rw [ZX (by simpa using hc2),ZY (by omega),this]
 simp [h,hv]
end Go.Sh
namespace Go.Sh
open Go Go.Eng
theorem Zm7 {d g:Int}(hg:0<g):(-d)%g=if d%g=0 then 0 else g-d%g:=by
 have h0:=Int.emod_nonneg d (show g≠0 by omega)
 have h1:=Int.emod_lt_of_pos d hg
 have hd:=Int.mul_ediv_add_emod d g
 split
 ·rename_i h
  have : -d=g*(-(d/g)):=by rw [Int.mul_neg];omega
  rw [this];exact Int.mul_emod_right _ _
 rename_i h
 have : -d=(g-d%g)+g*(-(d/g)-1):=by rw [Int.mul_sub,Int.mul_neg];omega
 rw [this,Int.add_mul_emod_self_left]
 exact Int.emod_eq_of_lt (by omega) (by omega)
theorem ZmY {a b:Z4}(ha:VSpan a)(hb:VSpan b):SepD b a (a.From-b.From)↔SepD a b (b.From-a.From):=by
 obtain ⟨a1,a2,a3,a4,a5,a6⟩:=ha.bounds
 obtain ⟨b1,b2,b3,b4,b5,b6⟩:=hb.bounds
 have hg0:0<gP a b:=Zmr a1
 have h0:=Int.emod_nonneg (b.From-a.From) (show gP a b≠0 by omega)
 have h1:=Int.emod_lt_of_pos (b.From-a.From) hg0
 unfold SepD
 rw [ZnW b a,show a.From-b.From = -(b.From-a.From) by omega,Zm7 hg0]
 split<;>omega
theorem ZlX {a b:Z4}(ha:VSpan a)(hb:VSpan b)(k:Int):SepD (shift a k) (shift b k) ((shift b k).From-(shift a k).From)↔SepD a b (b.From-a.From):=by
 obtain ⟨a1,a2,a3,a4,a5,a6⟩:=ha.bounds
 obtain ⟨b1,b2,b3,b4,b5,b6⟩:=hb.bounds
 have hga:gP a b∣a.Period:=Zkk a1
 have hgb:gP a b∣b.Period:=ZjH b1
 have hg:gP (shift a k) (shift b k)=gP a b:=rfl
 have hd:((shift b k).From-(shift a k).From)%gP a b=(b.From-a.From)%gP a b:=by
  show ((b.From+k)%b.Period-(a.From+k)%a.Period)%gP a b=_
  rw [Int.sub_emod,Int.emod_emod_of_dvd _ hgb,Int.emod_emod_of_dvd _ hga,← Int.sub_emod]
  congr 1;omega
 unfold SepD
 rw [hg,hd]
 rfl
end Go.Sh
namespace Go.Sh
open Go Go.Eng
def allB (n:Nat)(p:Nat->Bool):Bool:=(List.range n).all p
theorem ZcB {n:Nat}{p:Nat->Bool}:allB n p=true↔∀ k,k<n->p k=true:=by simp [allB]
theorem Zc1 {n:Nat}{p q:Nat->Bool}(h:∀ k,k<n->p k=q k):allB n p=allB n q:=by
 rw [Bool.eq_iff_iff,ZcB,ZcB]
 exact ⟨λhp k hk=>by rw [← h k hk];exact hp k hk,λhp k hk=>by rw [h k hk];exact hp k hk⟩
theorem ZfP {ρ:Type}{n:Nat}{p:Nat->Bool}{body:Int->Option (Int⊕ρ)}{bad fin:ρ}(hstep:∀ k:Nat,k<n->body (k:Int)=if p k=true then some (.inl ((k+1:Nat):Int)) else some (.inr bad))
  (hend:body (n:Int)=some (.inr fin)) {N:Nat} (hN:n<N):Za9 body N 0=some (if allB n p then fin else bad):=by
 have key:∀ (m N k:Nat),n-k=m->k<=n->m<N->Za9 body N (k:Int)=some (if (List.range' k m).all p then fin else bad):=by
  intro m
  induction m with
  | zero =>
   intro N k h1 h2 h3
   obtain rfl:k=n:=by omega
   cases N with
   | zero=>omega
   | succ N=>rw [ZbA hend];rfl
  | succ m ih =>
   intro N k h1 h2 h3
   cases N with
   | zero=>omega
   | succ N =>
    rw [ZJ,List.all_cons]
    by_cases hp:p k=true
    ·rw [ZcF (by rw [hstep k (by omega),ZY hp]),ih N (k+1) (by omega) (by omega) (by omega),hp,Bool.true_and]
    rw [ZbA (by rw [hstep k (by omega),ZX hp])]
    simp [hp]
 have:=key n N 0 (by omega) (by omega) hN
 rw [← List.range_eq_range'] at this
 exact this
theorem Zhn {β ρ:Type}{n:Nat}{p:Nat->Bool}{f:β->Nat->β}{body:Int×β->Option ((Int×β)⊕ρ)}{bad:ρ}{fin:β->ρ}(I:Nat->β->Prop)
  (hstep:∀ k b,k<n->I k b->body ((k:Int),b)=if p k=true then some (.inl (((k+1:Nat):Int),f b k)) else some (.inr bad)) (hI:∀ k b,k<n->I k b->p k=true->I (k+1) (f b k))
  (hend:∀ b,I n b->body ((n:Int),b)=some (.inr (fin b))) {N:Nat} (hN:n<N) {b0:β} (h0:I 0 b0):Za9 body N (0,b0)=some (if allB n p then fin ((List.range n).foldl f b0) else bad)/\(allB n p=true->I n ((List.range n).foldl f b0)):=by
 have key:∀ (m N k:Nat) (b:β),n-k=m->k<=n->m<N->I k b->Za9 body N ((k:Int),b)=some (if (List.range' k m).all p then fin ((List.range' k m).foldl f b) else bad)/\((List.range' k m).all p=true->I n ((List.range' k m).foldl f b)):=by
  intro m
  induction m with
  | zero =>
   intro N k b h1 h2 h3 hb
   obtain rfl:k=n:=by omega
   cases N with
   | zero=>omega
   | succ N=>exact ⟨by rw [ZbA (hend b hb)];rfl,λ_=>hb⟩
  | succ m ih =>
   intro N k b h1 h2 h3 hb
   cases N with
   | zero=>omega
   | succ N =>
    rw [ZJ,List.all_cons,List.foldl_cons]
    by_cases hp:p k=true
    ·obtain ⟨i1,i2⟩:=ih N (k+1) (f b k) (by omega) (by omega) (by omega) (hI k b (by omega) hb hp)
     rw [hp,Bool.true_and]
     exact ⟨by rw [ZcF (by rw [hstep k b (by omega) hb,ZY hp]),i1],i2⟩
    refine ⟨?_,λh=>?_⟩
    ·rw [ZbA (by rw [hstep k b (by omega) hb,ZX hp])];simp [hp]
    simp [hp] at h
 obtain ⟨h1,h2⟩:=key n N 0 b0 (by omega) (by omega) hN h0
 rw [← List.range_eq_range'] at h1 h2
 exact ⟨h1,h2⟩
theorem ZbF {n:Nat}(h:n<1000000):w64 ((n:Int)+1)=((n+1:Nat):Int):=by rw [Zbn (by omega) (by omega)];omega
theorem Zd0 {α:Type}{l:List α}{k:Nat}(h:k<l.length):idx l (k:Int)=some l[k]:=by rw [Zeu,Zs h]
theorem ZgA {α:Type}{l:List α}{i:Int}(d:α)(h0:0<=i)(h:i<l.length):idx l i=some (l.getD i.toNat d):=by
 rw [Zmo h0 (by omega)]
 simp [Zm,Zs (show i.toNat<l.length by omega)]
theorem ZaW {α:Type}{l:List α}{k:Nat}(h:k<l.length)(d:α):l.getD k d=l[k]:=by simp [Zm,h]
end Go.Sh

namespace Go.Sh
open Go Go.Eng
def mkS (p:Int):Z4:=⟨p,0,1⟩
def perB (p:Int):Bool:=decide (1<=p)&&decide (p<=240)
def lcmL (P:List Int):Nat:=lcmP (P.map mkS)
def perU (P:List Int)(u:Zam):Int:=P.getD u.Stream.toNat 0
def useB (P:List Int)(u:Zam):Bool:=decide (0<=u.Stream/\u.Stream<(P.length:Int)/\0<=u.Port/\u.Port<48/\0<=u.From/\u.From<perU P u/\1<=u.Long/\u.Long<=perU P u)
def ZdS (p:Z1):Bool:=decide (p.Periods.length<=12)&&decide (p.Uses.length<=192)&&p.Periods.all perB&&p.Uses.all (useB p.Periods)&&decide (lcmL p.Periods<=960)
theorem Zgy {p:Int}:perB p=true↔1<=p/\p<=240:=by simp [perB]
theorem Zk1 {P:List Int}(h:P.all perB=true):allV (P.map mkS)=true:=by
 unfold allV
 rw [List.all_eq_true] at h ⊢
 intro s hs
 obtain ⟨p,hp,rfl⟩:=List.mem_map.1 hs
 have:=Zgy.1 (h p hp)
 rw [ZV]
 show 1<=p/\p<=960/\(0:Int)<=0/\(0:Int)<p/\(1:Int)<=1/\(1:Int)<=p
 omega
theorem ZiE {N:Nat}(hN:2000<=N){P:List Int}(hl:P.length<=1000):ZcX N P=some (ZkY (P.map mkS)):=by
 unfold ZcX
 have hmk:ZjA 24 (P.length:Int) (P.length:Int) (Z4.mk 0 0 0)=some (List.replicate P.length (Z4.mk 0 0 0)):=by
  unfold ZjA;rw [ZY (by omega)];simp
 rw [hmk,ZO]
 have hloop:∀ (n M k:Nat),P.length-k=n->k<=P.length->n<M->Za9 (λx:Int×List Z4=>Zbw N P x.1 x.2) M ((k:Int),(P.map mkS).take k++List.replicate (P.length-k) (Z4.mk 0 0 0))=some (P.map mkS):=by
  intro n
  induction n with
  | zero =>
   intro M k hn hk hM
   have:k=P.length:=by omega
   subst this
   cases M with
   | zero=>omega
   | succ M =>
    refine ZbA ?_
    simp only [Zbw]
    rw [ZX (by simp)]
    simp [List.take_of_length_le]
  | succ n ih =>
   intro M k hn hk hM
   cases M with
   | zero=>omega
   | succ M =>
    have hlt:k<P.length:=by omega
    have hc:=ih M (k+1) (by omega) (by omega) (by omega)
    rw [ZcF (y:=(((k+1:Nat):Int),(P.map mkS).take (k+1)++List.replicate (P.length-(k+1)) (Z4.mk 0 0 0))),hc]
    simp only [Zbw]
    have hlen:((P.map mkS).take k++List.replicate (P.length-k) (Z4.mk 0 0 0)).length=P.length:=by simp;omega
    rw [ZY (by simpa using hlt),Zeu,Zs hlt,ZO,Zeu,Zs (by omega),ZO,Zbn (by omega) (by omega)]
    have hset:List.set ((P.map mkS).take k++List.replicate (P.length-k) (Z4.mk 0 0 0)) k (mkS P[k])=(P.map mkS).take (k+1)++List.replicate (P.length-(k+1)) (Z4.mk 0 0 0):=by
     rw [List.set_append_right _ _ (by simp;omega)]
     have e1:k-((P.map mkS).take k).length=0:=by simp;omega
     rw [e1,show P.length-k=(P.length-(k+1))+1 by omega,List.replicate_succ,List.set_cons_zero,List.take_succ_eq_append_getElem (by simpa using hlt)]
     simp
    simp only [Zj]
    rw [show (Z4.mk P[k] 0 1)=mkS P[k] from rfl,hset]
    rfl
 have hc:=hloop P.length N 0 (by omega) (by omega) (by omega)
 simp only [List.take_zero,ZI,Nat.sub_zero] at hc
 rw [show ((0:Nat):Int)=0 from rfl] at hc
 rw [hc,ZO,Zgn hN,ZO]
theorem Znf {P:List Int}(h:P.all perB=true):0<lcmL P:=ZkV (Zk2 (Zk1 h))
theorem ZjD {P:List Int}{n:Nat}:lcmL P∣n↔∀ p∈P,p.toNat∣n:=by
 unfold lcmL
 rw [Zgb]
 simp [mkS]
theorem Zg8 {N:Nat}(hN:2000<=N){P:List Int}(hl:P.length<=12)(h:P.all perB=true):ZcX N P=some (if lcmL P<=960 then ((lcmL P:Int),0) else (0,6)):=by
 rw [ZiE hN (by omega)]
 unfold ZkY
 rw [ZX (by simp;omega),ZY (Zk1 h)]
 rfl
theorem Zh6 {α ρ:Type}{l:List α}{p:α->Bool}{body:Int->Option (Int⊕ρ)}{bad fin:ρ}(hstep:∀ (k:Nat) (h:k<l.length),body (k:Int)=if p l[k]=true then some (.inl ((k+1:Nat):Int)) else some (.inr bad))
  (hend:body (l.length:Int)=some (.inr fin)) {N:Nat} (hN:l.length<N):Za9 body N 0=some (if l.all p=true then fin else bad):=by
 have:=ZjE hstep hend l.length N 0 (by omega) (by omega) hN
 rw [show ((0:Nat):Int)=0 from rfl] at this
 rw [this,List.drop_zero]
theorem Zmn {P:List Int}{u:Zam}(h0:0<=u.Stream)(h1:u.Stream<(P.length:Int)):idx P u.Stream=some (perU P u):=ZgA 0 h0 h1
theorem Zfd {P:List Int}{u:Zam}:useB P u=true↔0<=u.Stream/\u.Stream<(P.length:Int)/\0<=u.Port/\u.Port<48/\0<=u.From/\u.From<perU P u/\1<=u.Long/\u.Long<=perU P u:=by simp [useB]
theorem ZdU {N:Nat}(hN:2000<=N)(p:Z1):Zcv N p=some (if ZdS p=true then 0 else 340):=by
 unfold Zcv ZdS
 by_cases h1:p.Periods.length<=12
 ·by_cases h2:p.Uses.length<=192
  ·rw [ZX (by simp;omega)]
   simp only [h1,h2,decide_true,Bool.true_and]
   rw [Zh6 (l:=p.Periods) (p:=perB) (bad:=.inr 340) (fin:=.inl ()) (λk hk=>?_) (by simp [ZbV]) (by omega)]
   ·cases hP:p.Periods.all perB with
    | false=>simp
    | true =>
     simp only [ZZ,ZO,Bool.true_and]
     rw [Zg8 hN h1 hP,ZO]
     by_cases hc:lcmL p.Periods<=960
     ·rw [ZY hc]
      simp only [ZU,Zf,ZW]
      rw [Zh6 (l:=p.Uses) (p:=useB p.Periods) (bad:=.inr 340) (fin:=.inl ()) (λk hk=>?_) (by simp [ZbU]) (by omega)]
      ·cases hU:p.Uses.all (useB p.Periods) with
       | false=>simp
       | true=>simp [hc]
      simp only [ZbU]
      rw [ZY (by simpa using hk),Zd0 hk,ZO]
      have hw:w64 ((k:Int)+1)=((k+1:Nat):Int):=ZbF (by omega)
      rw [hw]
      by_cases hc:0<=p.Uses[k].Stream/\p.Uses[k].Stream<(p.Periods.length:Int)/\0<=p.Uses[k].Port/\p.Uses[k].Port<48
      ·obtain ⟨c1,c2,c3,c4⟩:=hc
       rw [ZX (by simp;omega),Zmn c1 c2]
       simp only [ZO]
       by_cases hu:useB p.Periods p.Uses[k]=true
       ·obtain ⟨_,_,_,_,u1,u2,u3,u4⟩:=Zfd.1 hu
        rw [ZX (by simp;omega),ZY hu]
       have hn:¬ (0<=p.Uses[k].From/\p.Uses[k].From<perU p.Periods p.Uses[k]/\1<=p.Uses[k].Long/\p.Uses[k].Long<=perU p.Periods p.Uses[k]):=λq=>hu (Zfd.2 ⟨c1,c2,c3,c4,q⟩)
       rw [ZX hu,ZY (by simp;omega)]
      have hu:¬ useB p.Periods p.Uses[k]=true:=λq=>hc (by obtain ⟨a,b,c,d,_⟩:=Zfd.1 q;exact ⟨a,b,c,d⟩)
      rw [ZY (by simp;omega),ZX hu]
     rw [ZX hc];simp [hc]
   simp only [ZbV]
   rw [ZY (by simpa using hk),Zd0 hk]
   simp only [ZO]
   rw [ZbF (by omega)]
   by_cases c:perB p.Periods[k]=true
   ·have:=Zgy.1 c
    rw [ZX (by simp;omega),ZY c]
   rw [ZY,ZX c]
   simp [perB] at c ⊢;omega
  rw [ZY (by simp;omega)];simp [h2]
 rw [ZY (by simp;omega)];simp [h1]
theorem Zji {p:Z1}:ZdS p=true↔p.Periods.length<=12/\p.Uses.length<=192/\p.Periods.all perB=true/\p.Uses.all (useB p.Periods)=true/\lcmL p.Periods<=960:=by
 unfold ZdS
 simp only [Ze,ZV]
 constructor
 ·rintro ⟨⟨⟨⟨a,b⟩,c⟩,d⟩,e⟩;exact ⟨a,b,c,d,e⟩
 rintro ⟨a,b,c,d,e⟩;exact ⟨⟨⟨⟨a,b⟩,c⟩,d⟩,e⟩
end Go.Sh
namespace Go.Sh
open Go Go.Eng
structure VP (p:Z1):Prop where
 len:p.Periods.length<=12
 uses:p.Uses.length<=192
 per:∀ q∈p.Periods,1<=q/\q<=240
 use:∀ u∈p.Uses,0<=u.Stream/\u.Stream<(p.Periods.length:Int)/\0<=u.Port/\u.Port<48/\0<=u.From/\u.From<perU p.Periods u/\1<=u.Long/\u.Long<=perU p.Periods u
 lcm:lcmL p.Periods<=960
 lpos:0<lcmL p.Periods
theorem VP.of {p:Z1}(h:ZdS p=true):VP p:=by
 obtain ⟨h1,h2,h3,h4,h5⟩:=Zji.1 h
 exact ⟨h1,h2,λq hq=>Zgy.1 (List.all_eq_true.1 h3 q hq),λu hu=>Zfd.1 (List.all_eq_true.1 h4 u hu),h5,Znf h3⟩
theorem ZnN {P:List Int}{u:Zam}(h0:0<=u.Stream)(h1:u.Stream<(P.length:Int)):perU P u∈P:=by
 unfold perU
 rw [ZaW (by omega)]
 exact List.getElem_mem _
theorem VP.peru {p:Z1}(h:VP p){u:Zam}(hu:u∈p.Uses):1<=perU p.Periods u/\perU p.Periods u<=240:=by
 obtain ⟨a,b,_⟩:=h.use u hu
 exact h.per _ (ZnN a b)
def Zc3 (p:Z1)(u:Zam)(x:Int):Z4:=⟨perU p.Periods u,(u.From+x)%perU p.Periods u,u.Long⟩
def u0:Zam:=⟨0,0,0,0⟩
theorem VP.vspan {p:Z1}(h:VP p){u:Zam}(hu:u∈p.Uses)(x:Int):VSpan (Zc3 p u x):=by
 obtain ⟨_,_,_,_,_,_,h1,h2⟩:=h.use u hu
 obtain ⟨h3,h4⟩:=h.peru hu
 have h5:=Int.emod_nonneg (u.From+x) (show perU p.Periods u≠0 by omega)
 have h6:=Int.emod_lt_of_pos (u.From+x) (show 0<perU p.Periods u by omega)
 show 1<=perU p.Periods u/\perU p.Periods u<=960/\0<=(u.From+x)%perU p.Periods u/\(u.From+x)%perU p.Periods u<perU p.Periods u/\1<=u.Long/\u.Long<=perU p.Periods u
 omega
theorem VP.rem {p:Z1}(h:VP p){u:Zam}(hu:u∈p.Uses){x:Int}(h0:0<=x)(h1:x<=1000000):remI (w64 (u.From+x)) (perU p.Periods u)=some ((u.From+x)%perU p.Periods u):=by
 obtain ⟨_,_,_,_,h5,h6,h7,h8⟩:=h.use u hu
 obtain ⟨h3,h4⟩:=h.peru hu
 rw [Zbn (by omega) (by omega),Zb5 (by omega),Zi (by omega)]
theorem Zd8 (N:Nat){p:Z1}(h:VP p){u:Zam}(hu:u∈p.Uses){x:Int}(h0:0<=x)(h1:x<=1000000):ZbS N p u x=some (Zc3 p u x):=by
 obtain ⟨a,b,_⟩:=h.use u hu
 unfold ZbS
 rw [Zmn a b,ZO,h.rem hu h0 h1,ZO]
 rfl
def offB (p:Z1)(i x:Int):Bool:=decide (0<=i/\i<(p.Periods.length:Int)/\0<=x/\x<p.Periods.getD i.toNat 0)
theorem Zbe {p:Z1}{i x:Int}:offB p i x=true↔0<=i/\i<(p.Periods.length:Int)/\0<=x/\x<p.Periods.getD i.toNat 0:=by simp [offB]
theorem Zdw (N:Nat){p:Z1}{i x:Int}(h0:0<=i)(h1:i<(p.Periods.length:Int)):Zb9 N p i x=some (offB p i x):=by
 unfold Zb9
 by_cases hx:x≥0
 ·rw [ZY (by simpa using hx),ZgA 0 h0 h1]
  simp only [ZO]
  congr 1
  rw [Bool.eq_iff_iff,Zbe]
  simp
  omega
 rw [ZX (by simpa using hx),ZO]
 congr 1
 symm
 rw [Bool.eq_false_iff]
 intro q
 have:=Zbe.1 q
 omega
def hitB (p:Z1)(i a j b:Int)(k m:Nat):Bool :=
 decide (k≠m)&&(((p.Uses.getD k u0).Stream==i)&&(((p.Uses.getD m u0).Stream==j)&&(((p.Uses.getD k u0).Port==(p.Uses.getD m u0).Port) &&
  !(decide (SepD (Zc3 p (p.Uses.getD k u0) a) (Zc3 p (p.Uses.getD m u0) b) ((Zc3 p (p.Uses.getD m u0) b).From-(Zc3 p (p.Uses.getD k u0) a).From))))))
def Zb0 (p:Z1)(i a j b:Int):Bool := !(allB p.Uses.length λk=>allB p.Uses.length λm => !(hitB p i a j b k m))
theorem ZmZ {s:Z4}(hs:VSpan s):¬ SepD s s (s.From-s.From):=by
 have:=hs.bounds
 unfold SepD
 simp
 omega
theorem Znz {u v:Zam}(h:(((u.Stream==v.Stream)&&((u.Port==v.Port)&&((u.From==v.From)&&((u.Long==v.Long)&&true))))=true)):u=v:=by
 obtain ⟨a,b,c,d⟩:=u
 obtain ⟨a',b',c',d'⟩:=v
 simp at h
 obtain ⟨rfl,rfl,rfl,rfl⟩:=h
 rfl
theorem ZcN {N:Nat}(hN:2000<=N){p:Z1}(h:VP p){i a j b:Int}(ha:0<=a)(ha2:a<=1000)(hb:0<=b)(hb2:b<=1000)(hij:i=j->a=b):ZbT N p i a j b=some (Zb0 p i a j b):=by
 have hl:=h.uses
 unfold ZbT ZeA
 simp only [ZO]
 have round:∀ k m:Nat,∀ (hk:k<p.Uses.length) (hm:m<p.Uses.length),p.Uses[k].Stream=i->p.Uses[m].Stream=j →
   ZaZ N p a b false p.Uses[k] p.Uses[m]=some (if SepD (Zc3 p p.Uses[k] a) (Zc3 p p.Uses[m] b) ((Zc3 p p.Uses[m] b).From-(Zc3 p p.Uses[k] a).From) then (false,0) else (true,1)):=by
  intro k m hk hm e1 e2
  unfold ZaZ
  have hv1:=h.vspan (List.getElem_mem hk) a
  have hv2:=h.vspan (List.getElem_mem hm) b
  by_cases c:((p.Uses[k].Stream==p.Uses[m].Stream)&&((p.Uses[k].Port==p.Uses[m].Port)&&((p.Uses[k].From==p.Uses[m].From)&&((p.Uses[k].Long==p.Uses[m].Long)&&true))))=true
  ·rw [ZY c]
   have e:=Znz c
   have hab:a=b:=hij (by rw [← e1,← e2,e])
   subst hab
   rw [← e,ZX (ZmZ hv1)]
  have hA:=Zgp hN (Zc3 p p.Uses[k] a) (Zc3 p p.Uses[m] b)
  rw [ZY ⟨hv1,hv2⟩] at hA
  rw [ZX c,Zd8 N h (List.getElem_mem hk) ha (by omega),ZO,Zd8 N h (List.getElem_mem hm) hb (by omega),ZO,hA,ZO]
  by_cases s:SepD (Zc3 p p.Uses[k] a) (Zc3 p p.Uses[m] b) ((Zc3 p p.Uses[m] b).From-(Zc3 p p.Uses[k] a).From)
  ·simp [s]
  simp [s]
 have loop:ZcE N (λ(s:Bool×Nat) (x16:Zam) (x17:Zam)=>ZgK (λv:Bool=>ZaZ N p a b v x16 x17) s) p i j (false,0)=some (if Zb0 p i a j b=true then (true,1) else (false,0)):=by
  unfold ZcE
  rw [(Zhn (n:=p.Uses.length) (p:=λk=>allB p.Uses.length λm => !(hitB p i a j b k m)) (f:=λs _=>s) (bad:=.inr (true,1)) (fin:=λs=>.inl s) (λ_ s=>s=(false,0)) (λk s hk hs=>?_) (λ_ s _ hs _=>hs) (λs _=>by simp [Zbq]) (N:=N) (by omega) rfl).1]
  ·unfold Zb0
   have hf:∀ (l:List Nat),l.foldl (λ(s:Bool×Nat) _=>s) (false,0)=(false,0):=by
    intro l;induction l with
    | nil=>rfl
    | cons x l ih=>simpa using ih
   rw [hf]
   cases allB p.Uses.length λk=>allB p.Uses.length λm => !(hitB p i a j b k m)<;>rfl
  subst hs
  simp only [Zbq]
  have hw:w64 ((k:Int)+1)=((k+1:Nat):Int):=ZbF (by omega)
  rw [ZY (by simpa using hk),Zd0 hk,ZO,hw]
  by_cases c1:p.Uses[k].Stream=i
  ·rw [ZX (by simpa using c1)]
   rw [(Zhn (n:=p.Uses.length) (p:=λm => !(hitB p i a j b k m)) (f:=λs _=>s) (bad:=.inr (true,1)) (fin:=λs=>.inl s) (λ_ s=>s=(false,0)) (λm s hm hs=>?_) (λ_ s _ hs _=>hs) (λs _=>by simp [Zbp]) (N:=N) (by omega) rfl).1]
   ·have hf:∀ (l:List Nat),l.foldl (λ(s:Bool×Nat) _=>s) (false,0)=(false,0):=by
     intro l;induction l with
     | nil=>rfl
     | cons x l ih=>simpa using ih
    rw [hf]
    cases allB p.Uses.length λm => !(hitB p i a j b k m)<;>rfl
   subst hs
   simp only [Zbp]
   have hw2:w64 ((m:Int)+1)=((m+1:Nat):Int):=ZbF (by omega)
   rw [ZY (by simpa using hm),Zd0 hm,ZO,hw2]
   unfold hitB
   rw [ZaW hk,ZaW hm]
   by_cases c0:k=m
   ·subst c0;simp
   have c0':((m:Int)==(k:Int))=false:=by simp;omega
   rw [c0']
   simp only [Zf,ZW]
   by_cases c2:p.Uses[m].Stream=j
   ·rw [ZX (by simpa using c2),ZO]
    by_cases c3:p.Uses[k].Port=p.Uses[m].Port
    ·rw [ZX (by simp [c3])]
     unfold ZgK
     simp only [ZZ]
     rw [round k m hk hm c1 c2]
     simp only [c0,c1,c2,c3,ne_eq,not_false_eq_true,decide_true,Bool.true_and,beq_self_eq_true,Bool.not_not]
     by_cases s:SepD (Zc3 p p.Uses[k] a) (Zc3 p p.Uses[m] b) ((Zc3 p p.Uses[m] b).From-(Zc3 p p.Uses[k] a).From)
     ·simp [s]
     simp [s]
    rw [ZY (by simp;exact λq=>c3 q.symm)]
    simp [c3]
   rw [ZY (by simpa using c2),ZO]
   simp [c2]
  rw [ZY (by simpa using c1)]
  have:(allB p.Uses.length λm => !(hitB p i a j b k m))=true:=by
   rw [ZcB]
   intro m hm
   unfold hitB
   rw [ZaW hk]
   simp [c1]
  rw [this,ZY rfl]
 rw [loop,ZO]
 cases Zb0 p i a j b<;>rfl
def argB (p:Z1)(i a j b:Int):Bool:=offB p i a&&offB p j b && !(decide (i=j)&&decide (a≠b))
def Zde (p:Z1)(i a j b:Int):Bool×Int:=if ZdS p=true then (if argB p i a j b=true then (Zb0 p i a j b,0) else (false,2)) else (false,340)
theorem Zhg {p:Z1}(h:VP p){i x:Int}(ho:offB p i x=true):0<=x/\x<240:=by
 obtain ⟨a,b,c,d⟩:=Zbe.1 ho
 rw [ZaW (by omega)] at d
 have:=h.per _ (List.getElem_mem (show i.toNat<p.Periods.length by omega))
 omega
theorem Zgt {N:Nat}(hN:2000<=N)(p:Z1)(i a j b:Int):Zcj N p i a j b=some (Zde p i a j b):=by
 unfold Zcj Zde
 rw [ZdU hN,ZO]
 cases hp:ZdS p with
 | false=>rfl
 | true =>
  have h:=VP.of hp
  simp only [ZZ,ZU,Zf,ZW]
  by_cases c1:0<=i/\i<(p.Periods.length:Int)/\0<=j/\j<(p.Periods.length:Int)
  ·obtain ⟨i1,i2,j1,j2⟩:=c1
   rw [ZX (by simp;omega),Zdw N i1 i2,Zdw N j1 j2]
   simp only [ZO]
   unfold argB
   cases o1:offB p i a with
   | false=>rfl
   | true =>
    cases o2:offB p j b with
    | false=>rfl
    | true =>
     simp only [Bool.not_true,Zf,ZW,Bool.true_and]
     have b1:=Zhg h o1
     have b2:=Zhg h o2
     by_cases c:i=j
     ·by_cases d:a=b
      ·rw [ZcN hN h b1.1 (by omega) b2.1 (by omega) (λ_=>d)]
       simp [c,d]
      simp [c,d]
     rw [ZcN hN h b1.1 (by omega) b2.1 (by omega) (λq=>absurd q c)]
     simp [c]
  rw [ZY (by simp;omega)]
  have:argB p i a j b=false:=by
   unfold argB
   rw [Bool.eq_false_iff]
   intro q
   simp only [Ze] at q
   have q1:=Zbe.1 q.1.1
   have q2:=Zbe.1 q.1.2
   omega
  rw [this];rfl
end Go.Sh

namespace Go.Sh
open Go Go.Eng
def upF {σ:Type}(step:Nat->σ->Option σ):Nat->σ->Option σ
 | 0,s=>some s
 | n+1,s=>(upF step n s).bind (step n)
section
variable {N:Nat} {p:Z1} {f:List Z3}
def ZnL (nP len c:Int)(a:Zan):Bool :=
 if a.By = -1 then decide (a.To=w64 (a.From+1)/\c<a.Next/\a.Next<len)
 else if a.Next=0 then (if a.By = -2 then decide (c=0/\a.From≠0) else decide (0<=a.By/\a.By<nP)) else false
def ZtU (nP len c per at_:Int)(a:Zan):Bool:=decide (a.From=at_/\a.From<a.To/\a.To<=per)&&ZnL nP len c a
def Zn2 (nP len c per:Int)(l:List Zan)(k:Nat)(at_:Int):Option Int:=(l[k]?).bind λa=>if ZtU nP len c per at_ a=true then some a.To else none
def ZtT (nP len c per:Int)(l:List Zan):Bool:=match upF (Zn2 nP len c per l) l.length 0 with
 | some e=>e==per
 | none=>false
def ZnY (p:Z1)(f:List Z3)(c:Nat):Bool:=match f[c]? with
 | some x=>decide (0<=x.Stream/\x.Stream<(p.Periods.length:Int))&&ZtT p.Periods.length f.length c (p.Periods.getD x.Stream.toNat 0) x.Arms
 | none=>false
end
end Go.Sh

namespace Go.Sh
open Go Go.Eng
section
variable {N:Nat} {p:Z1} {f:List Z3}
def bump (l:List Int)(a:Zan):List Int:=if a.By = -1 then l.set a.Next.toNat (w64 (l.getD a.Next.toNat 0+1)) else l
def ZtS (f:List Z3)(k:Nat)(l:List Int):List Int:=match f[k]? with
 | some x=>x.Arms.foldl bump l
 | none=>l
end
end Go.Sh

namespace Go.Sh
open Go Go.Eng
section
variable {N:Nat} {p:Z1} {f:List Z3}
def ZhC (p:Z1)(f:List Z3)(k:Nat)(l:List Int):Option (List Int):=if ZnY p f k=true then some (ZtS f k l) else none
end
end Go.Sh

namespace Go.Sh
open Go Go.Eng
theorem ZmE {n:Nat}{q:Nat->Nat->Bool}:(allB n λk=>allB n λm=>q k m)=allB n λm=>allB n λk=>q k m:=by
 rw [Bool.eq_iff_iff]
 simp only [ZcB]
 exact ⟨λh m hm k hk=>h k hk m hm,λh k hk m hm=>h m hm k hk⟩
theorem Zmp {p:Z1}(h:VP p){i a j b:Int}{k m:Nat}(hk:k<p.Uses.length)(hm:m<p.Uses.length):hitB p i a j b k m=hitB p j b i a m k:=by
 have e:=ZmY (h.vspan (List.getElem_mem hk) a) (h.vspan (List.getElem_mem hm) b)
 unfold hitB
 rw [ZaW hk,ZaW hm,Bool.eq_iff_iff]
 simp only [Ze,ZV,beq_iff_eq,Zg,decide_eq_false_iff_not]
 rw [e]
 constructor
 ·rintro ⟨a,b,c,d,e⟩;exact ⟨λq=>a q.symm,c,b,d.symm,e⟩
 rintro ⟨a,b,c,d,e⟩;exact ⟨λq=>a q.symm,c,b,d.symm,e⟩
theorem Zh2 {p:Z1}(h:VP p)(i a j b:Int):Zb0 p i a j b=Zb0 p j b i a:=by
 unfold Zb0
 rw [ZmE]
 congr 1
 exact Zc1 λk hk=>Zc1 λm hm=>by rw [Zmp h hm hk]
def Zem (p:Z1)(l:List Int):Bool:=decide (l.length=p.Periods.length)&&allB l.length λk=>offB p k (l.getD k 0)
def ZcK (p:Z1)(l:List Int):Bool:=allB l.length λi=>allB (i+1) λj => !(Zb0 p i (l.getD i 0) j (l.getD j 0))
def Zni (p:Z1)(l:List Int):Bool×Int:=if ZdS p=true then (if Zem p l=true then (ZcK p l,0) else (false,2)) else (false,340)
theorem ZeC {p:Z1}{l:List Int}(h:Zem p l=true):l.length=p.Periods.length/\∀ k,k<l.length->offB p k (l.getD k 0)=true:=by
 unfold Zem at h
 rw [Ze,ZV,ZcB] at h
 exact h
theorem Zjk {N:Nat}(hN:2000<=N)(p:Z1)(l:List Int):Zej N p l=some (Zni p l):=by
 unfold Zej Zni
 rw [ZdU hN,ZO]
 cases hp:ZdS p with
 | false=>rfl
 | true =>
  have h:=VP.of hp
  have hl:=h.len
  simp only [ZZ,ZU,Zf,ZW]
  by_cases hc:l.length=p.Periods.length
  ·rw [ZX (by simp [hc])]
   rw [ZfP (n:=l.length) (p:=λk=>offB p k (l.getD k 0)) (bad:=.inr (false,2)) (fin:=.inl ()) (λk hk=>?_) (by simp [Zcd]) (by omega)]
   ·have e:Zem p l=allB l.length λk=>offB p k (l.getD k 0):=by unfold Zem;simp [hc]
    cases ho:allB l.length λk=>offB p k (l.getD k 0) with
    | false=>rw [e,ho];rfl
    | true =>
     rw [e,ho]
     simp only [ZZ,ZO]
     rw [ho] at e
     obtain ⟨h1,h2⟩:=ZeC e
     unfold ZcK
     rw [ZfP (n:=l.length) (p:=λi=>allB (i+1) λj => !(Zb0 p i (l.getD i 0) j (l.getD j 0))) (bad:=.inr (false,0)) (fin:=.inl ()) (λi hi=>?_) (by simp [Zcc]) (by omega)]
     ·cases allB l.length λi=>allB (i+1) λj => !(Zb0 p i (l.getD i 0) j (l.getD j 0))<;>rfl
     simp only [Zcc]
     have hw:w64 ((i:Int)+1)=((i+1:Nat):Int):=ZbF (by omega)
     have hs:subI l 0 ((i+1:Nat):Int)=some (l.take (i+1)):=by
      unfold subI
      rw [ZY (by omega)]
      simp
     have hlt:(l.take (i+1)).length=i+1:=by simp;omega
     rw [ZY (by simpa using hi),Zd0 hi,ZO,hw,hs,ZO,ZfP (n:=i+1) (p:=λj => !(Zb0 p i (l.getD i 0) j (l.getD j 0))) (bad:=.inr (false,0)) (fin:=.inl ()) (λj hj=>?_) (by simp [Zcb,hlt]) (by omega)]
     ·cases allB (i+1) λj => !(Zb0 p i (l.getD i 0) j (l.getD j 0))<;>rfl
     simp only [Zcb]
     have hj':j<l.length:=by omega
     have hw:w64 ((j:Int)+1)=((j+1:Nat):Int):=ZbF (by omega)
     have b1:=Zhg h (h2 i hi)
     have b2:=Zhg h (h2 j hj')
     rw [ZaW hi] at b1
     rw [ZaW hj'] at b2
     have ei:idx (l.take (i+1)) (j:Int)=some l[j]:=by
      rw [Zd0 (by omega),List.getElem_take]
     rw [ZY (by simp [hlt];omega),ei,ZO,ZcN hN h b2.1 (by omega) b1.1 (by omega) (λq=>by
      have:j=i:=by omega
      subst this;rfl),ZO,hw,ZaW hi,ZaW hj',Zh2 h]
     cases Zb0 p i l[i] j l[j]<;>rfl
   simp only [Zcd]
   have hw:w64 ((k:Int)+1)=((k+1:Nat):Int):=ZbF (by omega)
   rw [ZY (by simpa using hk),Zd0 hk,ZO,Zdw N (by omega) (by omega),ZO,hw,ZaW hk]
   cases offB p k l[k]<;>rfl
  rw [ZY (by simp;omega)]
  have:Zem p l=false:=by unfold Zem;simp [hc]
  rw [this];rfl
def Zi3:List Int:=[4,6,8,12,3,5,10,24]
theorem Zit:∀ x∈Zi3,3<=x/\x<=24/\x.toNat∣120:=by decide
structure GP (p:Z1):Prop where
 prob:ZdS p=true
 len:p.Periods.length<=5
 uses:p.Uses.length<=12
 tab:∀ x∈p.Periods,x∈Zi3
 port:∀ u∈p.Uses,u.Port<4
theorem ZhA {α:Type}{b:Nat}{l:List α}{x:α}(hl:l.length<=1000)(hb:b<=1000):appI b l [x]=some (l++[x]):=by
 refine ZeL ?_ (by omega)
 simp;omega
theorem Zed {N:Nat}(hN:2000<=N){d:Zbc}(hd:Zdx d):∃ p,Zbb N d=some p/\GP p:=by
 obtain ⟨⟨_,d1⟩,⟨_,d2⟩⟩:=hd
 unfold Zbb
 obtain ⟨P,hP,P1,P2⟩:=Zdp (body:=λx:Int×(List Int)=>ZaN N d x.1 x.2) (λx=>0<=x.1/\x.1<=5/\(x.2.length:Int)=x.1/\∀ q∈x.2,q∈Zi3) (λx=>(5-x.1).toNat) (λl=>l.length<=5/\∀ q∈l,q∈Zi3) (λx hx=>by
  obtain ⟨i,l⟩:=x
  obtain ⟨i0,i1,i2,i3⟩:=hx
  simp only at i0 i1 i2 i3
  simp only [ZaN]
  by_cases c:i<(d.Periods.length:Int)/\i<5
  ·left
   obtain ⟨k,rfl⟩:∃ k:Nat,i=k:=⟨i.toNat,by omega⟩
   have hk:k<d.Periods.length:=by omega
   have hb:0<=d.Periods[k]/\d.Periods[k]<=255:=(d1 _ (List.getElem_mem hk)).u8
   have hm0:=Int.emod_nonneg d.Periods[k] (show (8:Int)≠0 by decide)
   have hm1:=Int.emod_lt_of_pos d.Periods[k] (show (0:Int)<8 by decide)
   have ht:(d.Periods[k]%8).toNat<Zi3.length:=by simp [Zi3];omega
   refine ⟨(((k+1:Nat):Int),l++[Zi3[(d.Periods[k]%8).toNat]]),?_,⟨by omega,by omega,by simp;omega,λq hq=>?_⟩,by omega⟩
   ·rw [ZY (by simp;omega),Zd0 hk,ZO,Zi hb.1,show ([4,6,8,12,3,5,10,24]:List Int)=Zi3 from rfl,Zmo hm0 ht,ZO,ZhA (by omega) (by omega),ZO,ZbF (by omega)]
   rcases List.mem_append.1 hq with q1|q1
   ·exact i3 q q1
   simp only [ZH] at q1
   subst q1
   exact List.getElem_mem ht
  right
  refine ⟨l,?_,by omega,i3⟩
  rw [ZX (by simp;omega)]) N (0,[]) ⟨by omega,by omega,rfl,by simp⟩ (by simp;omega)
 rw [hP,ZO]
 have hper:P.all perB=true:=List.all_eq_true.2 λq hq=>by
  have:=Zit q (P2 q hq)
  exact Zgy.2 (by omega)
 obtain ⟨U,hU,U1,U2⟩:=Zdp (body:=λx:Int×(List Zam)=>ZaM N d P x.1 x.2) (λx=>0<=x.1/\x.1<=12/\(x.2.length:Int)=x.1/\∀ u∈x.2,useB P u=true/\u.Port<4) (λx=>(12-x.1).toNat) (λl=>l.length<=12/\∀ u∈l,useB P u=true/\u.Port<4) (λx hx=>by
  obtain ⟨i,l⟩:=x
  obtain ⟨i0,i1,i2,i3⟩:=hx
  simp only at i0 i1 i2 i3
  simp only [ZaM]
  by_cases c:i<(d.Uses.length:Int)/\i<12/\0<P.length
  ·left
   obtain ⟨c1,c2,c3⟩:=c
   obtain ⟨k,rfl⟩:∃ k:Nat,i=k:=⟨i.toNat,by omega⟩
   have hk:k<d.Uses.length:=by omega
   obtain ⟨b0,b1,b2,b3⟩:=d2 _ (List.getElem_mem hk)
   have b0:0<=d.Uses[k].x0/\d.Uses[k].x0<=255:=b0.u8
   have b1:0<=d.Uses[k].x1/\d.Uses[k].x1<=255:=b1.u8
   have b2:0<=d.Uses[k].x2/\d.Uses[k].x2<=255:=b2.u8
   have b3:0<=d.Uses[k].x3/\d.Uses[k].x3<=255:=b3.u8
   have s0:=Int.emod_nonneg d.Uses[k].x0 (show (P.length:Int)≠0 by omega)
   have s1:=Int.emod_lt_of_pos d.Uses[k].x0 (show 0<(P.length:Int) by omega)
   have hn:(d.Uses[k].x0%(P.length:Int)).toNat<P.length:=by omega
   obtain ⟨n,en⟩:∃ n,n=P[(d.Uses[k].x0%(P.length:Int)).toNat]:=⟨_,rfl⟩
   have hn3:=Zit n (P2 n (by rw [en];exact List.getElem_mem hn))
   have f0:=Int.emod_nonneg d.Uses[k].x2 (show n≠0 by omega)
   have f1:=Int.emod_lt_of_pos d.Uses[k].x2 (show 0<n by omega)
   have g0:=Int.emod_nonneg d.Uses[k].x3 (show n≠0 by omega)
   have g1:=Int.emod_lt_of_pos d.Uses[k].x3 (show 0<n by omega)
   have g2:=Int.emod_nonneg (d.Uses[k].x3%n) (show (4:Int)≠0 by decide)
   have g3:=Int.emod_lt_of_pos (d.Uses[k].x3%n) (show (0:Int)<4 by decide)
   have g4:=Int.emod_nonneg (d.Uses[k].x3%n%4) (show n≠0 by omega)
   have g5:=Int.emod_lt_of_pos (d.Uses[k].x3%n%4) (show 0<n by omega)
   have p0:=Int.emod_nonneg d.Uses[k].x1 (show (4:Int)≠0 by decide)
   have p1:=Int.emod_lt_of_pos d.Uses[k].x1 (show (0:Int)<4 by decide)
   refine ⟨(((k+1:Nat):Int),l++[⟨d.Uses[k].x0%P.length,d.Uses[k].x1%4,d.Uses[k].x2%n,1+d.Uses[k].x3%n%4%n⟩]),?_,⟨by omega,by omega,by simp;omega,λu hu=>?_⟩,by omega⟩
   ·rw [ZY (by simp;omega),ZY (by simp;omega)]
    simp only [ZO]
    rw [ZY (by simp;omega),Zd0 hk,ZO,Zbn (by omega) (by omega),Zb5 (by omega),ZO,Zi b0.1,Zmo s0 hn,ZO,← en,
     Zbn (x:=d.Uses[k].x2) (by omega) (by omega),Zb5 (by omega),ZO,Zbn (x:=d.Uses[k].x3) (by omega) (by omega),Zb5 (by omega),ZO,Zb5 (by omega),ZO,
     Zi b1.1,Zi b2.1,Zi b3.1,Zi g0,Zi g2,Zbn (x:=d.Uses[k].x1%4) (by omega) (by omega),Zbn (x:=1+_) (by omega) (by omega),ZhA (by omega) (by omega),ZO,ZbF (by omega)]
   rcases List.mem_append.1 hu with q1|q1
   ·exact i3 u q1
   simp only [ZH] at q1
   subst q1
   refine ⟨Zfd.2 ?_,p1⟩
   unfold perU
   simp only
   rw [ZaW hn,← en]
   omega
  right
  refine ⟨l,?_,by omega,i3⟩
  by_cases c1:i<(d.Uses.length:Int)
  ·rw [ZY (by simpa using c1)]
   by_cases c2:i<12
   ·rw [ZY (by simpa using c2),ZO,ZX (by rw [ZV];omega)]
   rw [ZX (by simpa using c2),ZO,ZX (by simp)]
  rw [ZX (by simpa using c1),ZO,ZX (by simp)]) N (0,[]) ⟨by omega,by omega,rfl,by simp⟩ (by simp;omega)
 rw [hU,ZO]
 refine ⟨_,rfl,?_,P1,U1,P2,λu hu=>(U2 u hu).2⟩
 rw [Zji]
 refine ⟨by show P.length<=12;omega,by show U.length<=192;omega,hper,List.all_eq_true.2 λu hu=>(U2 u hu).1,?_⟩
 have hdv:lcmL P∣120:=ZjD.2 λq hq=>(Zit q (P2 q hq)).2.2
 have:=Nat.le_of_dvd (by decide) hdv
 show lcmL P<=960
 omega
theorem ZiB {N:Nat}(hN:2000<=N){p:Z1}(h:VP p){a:List Int}(ha:∀ x∈a,InK .u8 x):∃ l,ZfJ N p a=some l/\Zem p l=true:=by
 have hlen:=h.len
 unfold ZfJ
 obtain ⟨l,hl,l1,l2⟩:=Zdp (body:=λx:Int×(List Int)=>ZdR N p a x.1 x.2) (λx=>0<=x.1/\x.1<=p.Periods.length/\(x.2.length:Int)=x.1/\∀ k,k<x.2.length->offB p k (x.2.getD k 0)=true) (λx=>(p.Periods.length-x.1).toNat) (λl=>l.length=p.Periods.length/\∀ k,k<l.length->offB p k (l.getD k 0)=true) (λx hx=>by
  obtain ⟨i,l⟩:=x
  obtain ⟨i0,i1,i2,i3⟩:=hx
  simp only at i0 i1 i2 i3
  simp only [ZdR]
  by_cases c:i<(p.Periods.length:Int)
  ·left
   obtain ⟨k,rfl⟩:∃ k:Nat,i=k:=⟨i.toNat,by omega⟩
   have hk:k<p.Periods.length:=by omega
   have hq:=h.per _ (List.getElem_mem hk)
   have key:∃ x,(if (decide ((k:Int)<((List.length a:Nat):Int))) then ((idx a k).bind λe1010=>((idx p.Periods k).bind λe1011=>((remI (w64 (e1010)) e1011).bind λm1012=>(some m1012)))) else (some 0))=some x/\0<=x/\x<p.Periods[k]:=by
    by_cases c2:k<a.length
    ·have hb:0<=a[k]/\a[k]<=255:=(ha _ (List.getElem_mem c2)).u8
     refine ⟨a[k]%p.Periods[k],?_,Int.emod_nonneg _ (by omega),Int.emod_lt_of_pos _ (by omega)⟩
     rw [ZY (by simpa using c2),Zd0 c2,ZO,Zd0 hk,ZO,Zbn (by omega) (by omega),Zb5 (by omega),ZO,Zi hb.1]
    exact ⟨0,by rw [ZX (by simpa using c2)],by omega,by omega⟩
   obtain ⟨x,hx,x0,x1⟩:=key
   refine ⟨(((k+1:Nat):Int),l++[x]),?_,⟨by omega,by omega,by simp;omega,λm hm=>?_⟩,by omega⟩
   ·rw [ZY (by simpa using c),hx,ZO,ZhA (by omega) (by omega),ZO,ZbF (by omega)]
   simp only [Zz,ZA,List.length_nil] at hm
   by_cases e:m<l.length
   ·have:=i3 m e
    rw [ZaW e] at this
    rw [ZaW (by simp;omega),List.getElem_append_left e]
    exact this
   obtain rfl:m=k:=by omega
   rw [ZaW (by simp;omega),List.getElem_append_right (by omega)]
   simp only [show m-l.length=0 by omega,List.getElem_cons_zero]
   rw [Zbe]
   simp only [Zj]
   rw [ZaW hk]
   omega
  right
  refine ⟨l,?_,by omega,i3⟩
  rw [ZX (by simpa using c)]) N (0,[]) ⟨by omega,by simp,rfl,by simp⟩ (by simp;omega)
 rw [hl,ZO]
 refine ⟨l,rfl,?_⟩
 unfold Zem
 rw [Ze,ZV,ZcB]
 exact ⟨l1,l2⟩
end Go.Sh
namespace Go.Sh
open Go Go.Eng
def ZjP (p:Z1)(l:List Int):Bool:=allB l.length λi=>allB l.length λj => !(Zb0 p i (l.getD i 0) j (l.getD j 0))
theorem ZcS {p:Z1}(h:VP p)(l:List Int):ZcK p l=ZjP p l:=by
 unfold ZcK ZjP
 rw [Bool.eq_iff_iff]
 simp only [ZcB]
 constructor
 ·intro q i hi j hj
  rcases Nat.le_total j i with c|c
  ·exact q i hi j (by omega)
  have:=q j hj i (by omega)
  rwa [Zh2 h] at this
 intro q i hi j hj
 exact q i hi j (by omega)
def Zbs (p:Z1)(l:List Int)(by_:Int)(n:Nat):List Int:=(List.range n).map λk=>(l.getD k 0+by_)%(p.Periods.getD k 0)
theorem ZeF {p:Z1}{l:List Int}{by_:Int}{n k:Nat}(hk:k<n):(Zbs p l by_ n).getD k 0=(l.getD k 0+by_)%(p.Periods.getD k 0):=by
 rw [ZaW (by simpa [Zbs] using hk)]
 simp [Zbs]
theorem Zjz {p:Z1}(h:VP p){l:List Int}(ho:Zem p l=true)(by_:Int):Zem p (Zbs p l by_ l.length)=true:=by
 obtain ⟨h1,h2⟩:=ZeC ho
 unfold Zem
 rw [Ze,ZV,ZcB]
 have hl:(Zbs p l by_ l.length).length=l.length:=by simp [Zbs]
 refine ⟨by omega,λk hk=>?_⟩
 rw [hl] at hk
 rw [ZeF hk,Zbe]
 simp only [Zj]
 rw [ZaW (show k<p.Periods.length by omega)]
 have:=h.per _ (List.getElem_mem (show k<p.Periods.length by omega))
 have a:=Int.emod_nonneg (l.getD k 0+by_) (show p.Periods[k]≠0 by omega)
 have b:=Int.emod_lt_of_pos (l.getD k 0+by_) (show 0<p.Periods[k] by omega)
 omega
theorem ZgR {p:Z1}(h:VP p){u:Zam}(hu:u∈p.Uses){i:Nat}(hi:u.Stream=(i:Int))(x by_:Int):Zc3 p u ((x+by_)%p.Periods.getD i 0)=shift (Zc3 p u x) by_:=by
 have e:perU p.Periods u=p.Periods.getD i 0:=by unfold perU;rw [hi];simp
 unfold Zc3 shift
 simp only [← e]
 congr 1
 rw [Int.emod_add_emod,Int.add_emod_emod,Int.add_assoc]
theorem Zhl {p:Z1}(h:VP p)(i j:Nat)(a b by_:Int):Zb0 p i ((a+by_)%p.Periods.getD i 0) j ((b+by_)%p.Periods.getD j 0)=Zb0 p i a j b:=by
 unfold Zb0
 congr 1
 refine Zc1 λk hk=>Zc1 λm hm=>?_
 congr 1
 unfold hitB
 rw [ZaW hk,ZaW hm,Bool.eq_iff_iff]
 simp only [Ze,ZV,beq_iff_eq,Zg,decide_eq_false_iff_not]
 refine and_congr_right λ_=>and_congr_right λc=>and_congr_right λd=>and_congr_right λ_=>?_
 rw [ZgR h (List.getElem_mem hk) c,ZgR h (List.getElem_mem hm) d,ZlX (h.vspan (List.getElem_mem hk) a) (h.vspan (List.getElem_mem hm) b)]
theorem Zgf {p:Z1}(h:VP p)(l:List Int)(by_:Int):ZjP p (Zbs p l by_ l.length)=ZjP p l:=by
 have hl:(Zbs p l by_ l.length).length=l.length:=by simp [Zbs]
 unfold ZjP
 rw [hl]
 refine Zc1 λi hi=>Zc1 λj hj=>?_
 rw [ZeF hi,ZeF hj,Zhl h]
end Go.Sh
namespace Go.Sh
open Go Go.Eng
theorem Zme {κ υ:Type}[DecidableEq κ](m:List (κ×υ))(x y:κ)(v:υ):ZdW (Zfp m x v) y=if x=y then some v else ZdW m y:=by
 induction m with
 | nil =>
  unfold Zfp ZdW
  by_cases h:x=y<;>simp [h]
 | cons q m ih =>
  unfold Zfp
  by_cases h:q.1=x
  ·rw [ZY h]
   unfold ZdW
   rw [List.find?_cons,List.find?_cons]
   by_cases e:x=y
   ·simp [e]
   simp [e,h]
  rw [ZX h]
  have e1:ZdW (q::Zfp m x v) y=if q.1=y then some q.2 else ZdW (Zfp m x v) y:=by
   unfold ZdW
   rw [List.find?_cons]
   by_cases e:q.1=y<;>simp [e]
  have e2:ZdW (q::m) y=if q.1=y then some q.2 else ZdW m y:=by
   unfold ZdW
   rw [List.find?_cons]
   by_cases e:q.1=y<;>simp [e]
  rw [e1,e2,ih]
  by_cases e:q.1=y
  ·rw [ZY e,ZY e,ZX (λe3=>h (by rw [e,e3]))]
  rw [ZX e,ZX e]
section
variable {N:Nat} {p:Z1}
end
end Go.Sh

namespace Go.Sh
open Go Go.Eng
section
variable {N:Nat} {p:Z1}
def othO (g:ZaB)(s b:Nat)(x:Int):Int:=if b=s then x else g.l.getD b 0
def refB (p:Z1)(s:Nat)(g:ZaB)(a:Zan):Bool :=
 (decide (a.By.toNat=s) || !(g.l.getD a.By.toNat 0 == -1))&&allB (a.To-a.From).toNat λk=>Zb0 p s (a.From+k) a.By.toNat (othO g s a.By.toNat (a.From+k))
end
end Go.Sh

namespace Go.Sh
open Go Go.Eng
section
variable {N:Nat} {p:Z1} {f:List Z3}
def armH (p:Z1)(s:Nat)(g:ZaB)(rec_:Nat->ZaB->Bool)(a:Zan):Bool :=
 if a.By = -1 then rec_ a.Next.toNat (g.set s a.From) else if 0<=a.By then refB p s g a else true
def hB (p:Z1)(f:List Z3):Nat->Nat->ZaB->Bool
 | 0,_,_=>false
 | n+1,c,g=>match f[c]? with
  | none=>false
  | some x=>(g.l.getD x.Stream.toNat 0 == -1)&&x.Arms.all (armH p x.Stream.toNat g (hB p f n))
end
end Go.Sh
namespace Go.Sh
open Go Go.Eng
def g0:ZaB:=⟨-1,-1,-1,-1,-1,-1,-1,-1,-1,-1,-1,-1⟩
section
variable {N:Nat} {p:Z1} {f:List Z3}
end
end Go.Sh
namespace Go.Sh
open Go Go.Eng
def Zev (q:Nat->Bool):Nat->Option Nat
 | 0=>none
 | n+1=>match Zev q n with
  | some j=>some j
  | none=>if q n=true then some n else none
theorem Zd2 {q:Nat->Bool}:∀ {n:Nat},Zev q n=none↔∀ k,k<n->q k=false
 | 0=>by simp [Zev]
 | n+1=>by
  have ih:=Zd2 (q:=q) (n:=n)
  simp only [Zev]
  cases h:Zev q n with
  | some j =>
   simp only [reduceCtorEq,false_iff]
   intro h2
   rw [ih.2 λk hk=>h2 k (by omega)] at h
   cases h
  | none =>
   simp only
   have h3:=ih.1 h
   constructor
   ·intro h2 k hk
    by_cases e:k=n
    ·subst e
     cases hq:q k with
     | false=>rfl
     | true=>rw [hq,ZY rfl] at h2;cases h2
    exact h3 k (by omega)
   intro h2
   rw [h2 n (by omega),ZX (by simp)]
theorem Zdd {q:Nat->Bool}{j:Nat}:∀ {n:Nat},Zev q n=some j↔j<n/\q j=true/\∀ k,k<j->q k=false
 | 0=>by simp [Zev]
 | n+1=>by
  have ih:=Zdd (q:=q) (j:=j) (n:=n)
  simp only [Zev]
  cases h:Zev q n with
  | some j' =>
   simp only [ZR]
   rw [h] at ih
   simp only [ZR] at ih
   constructor
   ·intro e
    obtain ⟨a,b,c⟩:=ih.1 e
    exact ⟨by omega,b,c⟩
   rintro ⟨a,b,c⟩
   by_cases e:j=n
   ·subst e
    obtain ⟨a',b',_⟩:=Zdd.1 h
    rw [c j' a'] at b'
    cases b'
   exact ih.2 ⟨by omega,b,c⟩
  | none =>
   simp only
   have h3:=Zd2.1 h
   constructor
   ·intro h2
    split at h2
    ·rename_i hq
     cases h2
     exact ⟨by omega,hq,h3⟩
    cases h2
   rintro ⟨a,b,c⟩
   by_cases e:j=n
   ·subst e;rw [ZY b]
   rw [h3 j (by omega)] at b;cases b
section
variable {N:Nat} {p:Z1}
def byS (p:Z1)(i:Nat)(x:Int)(all:List Int):Int:=match Zev (λj=>Zb0 p i x j (all.getD j 0)) (i+1) with
 | some j=>j
 | none => -1
def c00:Z3:=⟨0,[]⟩
def a00:Zan:=⟨0,0,0,0⟩
def ZfO (l:List Zan)(b:Int):Bool:=decide (b ≠ -1)&&decide (l≠[])&&decide ((l.getD (l.length-1) a00).By=b)
def Zlv (l:List Zan)(t:Int):List Zan:=l.set (l.length-1) { l.getD (l.length-1) a00 with To:=t }
def bS (p:Z1)(given:List Int)(c x:Nat):Int:=if c=0/\0<x then -2 else byS p given.length x (given++[(x:Int)])
def Zdy (p:Z1)(given:List Int)(c:Nat)(R:List Z3->List Int->Option (List Z3))(x:Nat)(s:List Z3):Option (List Z3):=
 if ZfO (s.getD c c00).Arms (bS p given c x)=true then some (s.set c ⟨(s.getD c c00).Stream,Zlv (s.getD c c00).Arms ((x:Int)+1)⟩)
 else if bS p given c x = -1 then (R s (given++[(x:Int)])).map λr=>r.set c ⟨(r.getD c c00).Stream,(r.getD c c00).Arms++[⟨x,(x:Int)+1,-1,s.length⟩]⟩
 else some (s.set c ⟨(s.getD c c00).Stream,(s.getD c c00).Arms++[⟨x,(x:Int)+1,bS p given c x,0⟩]⟩)
def Zgu (p:Z1):Nat->List Z3->List Int->Option (List Z3)
 | 0,_,_=>none
 | n+1,f,given=>if 2000<=f.length then none else upF (Zdy p given f.length (Zgu p n)) (p.Periods.getD given.length 0).toNat (f++[⟨given.length,[]⟩])
def ZdA (s:List Z3):Prop:=∀ y∈s,y.Arms.length<=240
structure GI (f:List Z3) (i x:Nat) (s:List Z3):Prop where
 pre:f <+: s
 lt:f.length<s.length
 le:s.length<=2000
 st:(s.getD f.length c00).Stream=i
 ar:(s.getD f.length c00).Arms.length<=x
 sm:ZdA s
def RK (R:List Z3->List Int->Option (List Z3)):Prop:=∀ s g r,s.length<=2000->ZdA s->R s g=some r->s <+: r/\r.length<=2000/\ZdA r
theorem ZdA.set {s:List Z3}(h:ZdA s){c:Nat}{y:Z3}(hy:y.Arms.length<=240):ZdA (s.set c y):=λz hz=>by
 rcases List.mem_or_eq_of_mem_set hz with hz|rfl
 ·exact h z hz
 exact hy
theorem Zm3 {α:Type}{l m:List α}{i:Nat}(x:α)(h:l <+: m)(hi:l.length<=i):l <+: m.set i x:=by
 obtain ⟨t,rfl⟩:=h
 rw [List.set_append_right _ _ hi]
 exact ⟨_,rfl⟩
theorem Zdn {α:Type}{l m:List α}{i:Nat}(d:α)(h:l <+: m)(hi:i<l.length):m.getD i d=l.getD i d:=by
 obtain ⟨t,rfl⟩:=h
 simp [Zm,Zn hi]
theorem Zcm {α:Type}{l:List α}{i:Nat}(d x:α)(hi:i<l.length):(l.set i x).getD i d=x:=by
 simp [Zm,hi]
theorem Zmw (l:List Zan)(t:Int):(Zlv l t).length=l.length:=by simp [Zlv]
theorem GI.set {f:List Z3}{i x x':Nat}{s:List Z3}(h:GI f i x s){l:List Zan}(hl:l.length<=x')(hx:x'<=240):GI f i x' (s.set f.length ⟨(s.getD f.length c00).Stream,l⟩):=
 {pre:=Zm3 _ h.pre (Nat.le_refl _)
  lt:=by rw [ZC];exact h.lt
  le:=by rw [ZC];exact h.le
  st:=by rw [Zcm _ _ h.lt];exact h.st
  ar:=by rw [Zcm _ _ h.lt];exact hl
  sm:=h.sm.set (by simp only;omega) }
theorem GI.step {f:List Z3}{given:List Int}{R:List Z3->List Int->Option (List Z3)}(hR:RK R){i x:Nat}{s s':List Z3}(h:GI f i x s)(hx:x<240)(hs:Zdy p given f.length R x s=some s'):GI f i (x+1) s':=by
 unfold Zdy at hs
 split at hs
 ·cases hs
  exact h.set (by rw [Zmw];have:=h.ar;omega) (by omega)
 split at hs
 ·cases hr:R s (given++[(x:Int)]) with
  | none=>rw [hr] at hs;cases hs
  | some r =>
   rw [hr] at hs
   cases hs
   obtain ⟨h1,h2,h3⟩:=hR s _ r h.le h.sm hr
   have h4:GI f i x r :=
    {pre:=h.pre.trans h1
     lt:=Nat.lt_of_lt_of_le h.lt h1.length_le
     le:=h2
     st:=by rw [Zdn _ h1 h.lt];exact h.st
     ar:=by rw [Zdn _ h1 h.lt];exact h.ar
     sm:=h3 }
   exact h4.set (by have:=h4.ar;rw [Zz,ZD];omega) (by omega)
 cases hs
 exact h.set (by have:=h.ar;rw [Zz,ZD];omega) (by omega)
theorem GI.start {f:List Z3}(i:Nat)(hf:f.length<2000)(hs:ZdA f):GI f i 0 (f++[⟨i,[]⟩]):=
 {pre:=List.prefix_append _ _
  lt:=by simp
  le:=by simp;omega
  st:=by simp [Zm]
  ar:=by simp [Zm]
  sm:=λy hy=>by
   rcases List.mem_append.1 hy with hy|hy
   ·exact hs y hy
   simp only [ZH] at hy;subst hy;simp }
theorem GI.loop {f:List Z3}{given:List Int}{R:List Z3->List Int->Option (List Z3)}(hR:RK R){i:Nat}{s0:List Z3}(h0:GI f i 0 s0) :
  ∀ {n:Nat} {s:List Z3},n<=240->upF (Zdy p given f.length R) n s0=some s->GI f i n s
 | 0,s,_,h=>by simp only [upF,ZR] at h;subst h;exact h0
 | n+1,s,hn,h=>by
  simp only [upF] at h
  cases hu:upF (Zdy p given f.length R) n s0 with
  | none=>rw [hu] at h;cases h
  | some s1 =>
   rw [hu] at h
   exact (GI.loop hR h0 (by omega) hu).step hR (by omega) h
theorem Zd1 (hp:VP p):∀ n,RK (Zgu p n)
 | 0=>λs g r _ _ h=>by cases h
 | n+1=>λs g r h1 h2 h=>by
  simp only [Zgu] at h
  split at h
  ·cases h
  rename_i hc
  have hper:(p.Periods.getD g.length 0).toNat<=240:=by
   by_cases e:g.length<p.Periods.length
   ·rw [ZaW e]
    have:=hp.per _ (List.getElem_mem e)
    omega
   rw [Zm,Zt (by omega)];simp
  have hG:=GI.loop (Zd1 hp n) (GI.start g.length (by omega) h2) hper h
  exact ⟨hG.pre,hG.le,hG.sm⟩
end
end Go.Sh
namespace Go.Sh
open Go Go.Eng
section
variable {N:Nat} {p:Z1}
def Znc (p:Z1):Option (List Z3):=if p.Periods.length=0 then none else Zgu p p.Periods.length [] []
theorem u8 {x:Int}(h:InK .u8 x):0<=x/\x<=255:=h.u8
end
end Go.Sh
namespace Go.Sh
open Go Go.Eng
section
variable {N:Nat} {p:Z1}
def KOK (p:Z1)(m:slvK):Prop:=∀ k b,ZdW m k=some b->b=(Zde p k.i k.x_ k.j 0).1
theorem KOK.nil:KOK p []:=λk b h=>by simp [ZdW] at h
theorem KOK.set {m:slvK}(h:KOK p m)(k:ZaI):KOK p (Zfp m k (Zde p k.i k.x_ k.j 0).1):=λk' b hb=>by
 rw [Zme] at hb
 by_cases e:k=k'
 ·rw [ZY e,ZR] at hb
  rw [← hb,e]
 rw [ZX e] at hb
 exact h k' b hb
theorem ZiQ (hp:ZdS p=true){i j:Nat}{x y:Int}(hi:offB p i x=true)(hj:offB p j y=true)(hij:i=j->x=y) :
  Zde p i ((x-y)%p.Periods.getD i 0) j 0=(Zb0 p i x j y,0):=by
 have h:=VP.of hp
 obtain ⟨i0,i1,x0,x1⟩:=Zbe.1 hi
 obtain ⟨j0,j1,y0,y1⟩:=Zbe.1 hj
 have hpi:p.Periods.getD i 0∈p.Periods:=by rw [ZaW (by omega)];exact List.getElem_mem _
 have pi:=h.per _ hpi
 simp only [Zj] at x1 y1
 obtain ⟨q,hq⟩:∃ q,q=(x-y)%p.Periods.getD i 0:=⟨_,rfl⟩
 have q0:0<=q:=by rw [hq];exact Int.emod_nonneg _ (by omega)
 have q1:q<p.Periods.getD i 0:=by rw [hq];exact Int.emod_lt_of_pos _ (by omega)
 rw [← hq]
 unfold Zde
 have ea:argB p i q j 0=true:=by
  unfold argB
  have o1:offB p i q=true:=Zbe.2 ⟨by omega,by omega,q0,by rw [Zj];exact q1⟩
  have o2:offB p j 0=true:=Zbe.2 ⟨by omega,by omega,by omega,by rw [Zj];omega⟩
  rw [o1,o2]
  by_cases e:i=j
  ·have:=hij e
   have hz:q=0:=by rw [hq,this];simp
   simp [hz]
  have:¬ ((i:Int)=(j:Int)):=by omega
  simp [this]
 rw [ZY hp,ZY ea]
 congr 1
 have:=Zhl h i j x y (-y)
 rw [show y + -y=0 by omega,Int.zero_emod,show x + -y=x-y by omega,← hq] at this
 exact this
theorem Zf2 (hN:2000<=N)(hp:ZdS p=true){m:slvK}(hm:KOK p m){i j:Nat}{x y:Int}(hi:offB p i x=true)(hj:offB p j y=true)(hij:i=j->x=y) :
  ∃ m',ZdC N p m i x j y=some (Zb0 p i x j y,m')/\KOK p m':=by
 have h:=VP.of hp
 obtain ⟨i0,i1,x0,x1⟩:=Zbe.1 hi
 obtain ⟨j0,j1,y0,y1⟩:=Zbe.1 hj
 have xl:=Zhg h hi;have yl:=Zhg h hj
 have hpi:p.Periods.getD i 0∈p.Periods:=by rw [ZaW (by omega)];exact List.getElem_mem _
 have pi:=h.per _ hpi
 have ec:=ZiQ hp hi hj hij
 have h1:=Int.lt_tmod_of_pos (x-y) (show 0<p.Periods.getD i 0 by omega)
 have h2:=Int.tmod_lt_of_pos (x-y) (show 0<p.Periods.getD i 0 by omega)
 unfold ZdC
 rw [show idx p.Periods ((i:Nat):Int)=some (p.Periods.getD i 0) by rw [Zd0 (by omega),ZaW (by omega)],ZO,Zbn (x:=x-y) (by omega) (by omega),Zb5 (by omega),ZO,Zbn (by omega) (by omega),Zb5 (by omega),ZO,ZkE (by omega)]
 obtain ⟨q,hq⟩:∃ q,q=(x-y)%p.Periods.getD i 0:=⟨_,rfl⟩
 rw [← hq] at ec ⊢
 cases hg:ZdW m (ZaI.mk i q j) with
 | some b =>
  have hb:=hm _ _ hg
  simp only [ec] at hb
  refine ⟨m,?_,hm⟩
  unfold mhas Zkc
  rw [hg]
  simp [hb]
 | none =>
  refine ⟨Zfp m (ZaI.mk i q j) (Zde p i q j 0).1,?_,hm.set (ZaI.mk i q j)⟩
  unfold mhas
  rw [hg,ZY (by simp),Zgt hN,ec]
  rfl
theorem Zc4 {given:List Int}{x:Int}{j:Nat}(h:j<given.length):(given++[x]).getD j 0=given.getD j 0:=by
 rw [Zm,Zn h,Zm]
theorem Zcs {given:List Int}{x:Int}:(given++[x]).getD given.length 0=x:=by
 rw [Zm];simp
def preB (p:Z1)(given:List Int):Prop:=∀ k,k<given.length->offB p k (given.getD k 0)=true
theorem preB.snoc {given:List Int}(h:preB p given){x:Int}(hx:offB p given.length x=true):preB p (given++[x]):=λk hk=>by
 rw [Zz,ZD] at hk
 by_cases e:k=given.length
 ·subst e;rw [Zcs];exact hx
 rw [Zc4 (by omega)];exact h k (by omega)
theorem Ziw (hN:2000<=N)(hp:ZdS p=true){m:slvK}(hm:KOK p m){given:List Int}(hg:preB p given){x:Int}(hx:offB p given.length x=true) :
  ∃ m',ZdB N p given m given.length x=some (byS p given.length x (given++[x]),m')/\KOK p m':=by
 have h:=VP.of hp
 obtain ⟨i0,i1,x0,x1⟩:=Zbe.1 hx
 have hl:=h.len
 obtain ⟨r,hr,e⟩:=Zdp (body:=λy:Int×slvK=>ZbR N p given given.length x y.1 y.2)
  (λy=>∃ k:Nat,y.1=k/\k<=given.length/\KOK p y.2/\∀ m,m<k->Zb0 p given.length x m ((given++[x]).getD m 0)=false)
  (λy=>((given.length:Int)+1-y.1).toNat)
  (λo=>(∃ m',o=.inl m'/\KOK p m'/\∀ m,m<given.length->Zb0 p given.length x m ((given++[x]).getD m 0)=false)∨(∃ (j:Nat) (m':slvK),o=.inr ((j:Int),m')/\KOK p m'/\j<given.length/\Zb0 p given.length x j ((given++[x]).getD j 0)=true/\∀ m,m<j->Zb0 p given.length x m ((given++[x]).getD m 0)=false)) (λy hy=>by
   obtain ⟨j,m1⟩:=y
   obtain ⟨k,rfl,k1,k2,k3⟩:=hy
   simp only at k2 ⊢
   simp only [ZbR]
   by_cases c:k<given.length
   ·rw [ZY (by simpa using c),Zd0 c,ZO]
    have eg:given[k]'c=(given++[x]).getD k 0:=by rw [Zc4 c];exact (ZaW c 0).symm
    obtain ⟨m',h1,h2⟩:=Zf2 hN hp k2 hx (hg k c) (λe=>by omega)
    rw [eg,show (given++[x]).getD k 0=given.getD k 0 from Zc4 c,h1,ZO]
    cases hmt:Zb0 p given.length x k (given.getD k 0) with
    | true=>exact .inr ⟨_,by rw [ZY rfl],.inr ⟨k,m',rfl,h2,c,by rw [Zc4 c];exact hmt,k3⟩⟩
    | false=>exact .inl ⟨_,by rw [ZX (by simp)],⟨k+1,by simp only;rw [ZbF (by omega)],by omega,h2,λm hm'=>by
       by_cases e:m=k
       ·subst e;rw [Zc4 c];exact hmt
       exact k3 m (by omega)⟩,by simp only;rw [ZbF (by omega)];omega⟩
   exact .inr ⟨_,by rw [ZX (by simp;omega)],.inl ⟨m1,rfl,k2,λm hm'=>k3 m (by omega)⟩⟩) N (0,m) ⟨0,rfl,by omega,hm,λm hm=>by omega⟩ (by simp only;omega)
 unfold ZdB
 rw [hr,ZO]
 unfold byS
 rcases e with ⟨m',rfl,e2,e3⟩|⟨j,m',rfl,e2,e3,e4,e5⟩
 ·simp only
  obtain ⟨m2,h1,h2⟩:=Zf2 hN hp e2 hx hx (λ_=>rfl)
  rw [h1,ZO]
  cases hmt:Zb0 p given.length x given.length x with
  | true =>
   rw [Zdd.2 ⟨show given.length<given.length+1 by omega,by rw [Zcs];exact hmt,e3⟩]
   exact ⟨m2,by rw [ZY rfl],h2⟩
  | false =>
   rw [Zd2.2 λk hk=>by
    by_cases e:k=given.length
    ·subst e;rw [Zcs];exact hmt
    exact e3 k (by omega)]
   exact ⟨m2,by rw [ZX (by simp)],h2⟩
 rw [Zdd.2 ⟨by omega,e4,e5⟩]
 exact ⟨m',rfl,e2⟩
end
end Go.Sh

namespace Go.Sh
open Go Go.Eng
section
variable {σ ρ:Type}
def upS (step:Nat->σ->Option (σ⊕ρ)):Nat->σ->Option (σ⊕ρ)
 | 0,s=>some (.inl s)
 | n+1,s=>match upS step n s with
  | some (.inl s1)=>step n s1
  | q=>q
theorem Zis {step:Nat->σ->Option (σ⊕ρ)}{n:Nat}{s s1:σ}(h:upS step n s=some (.inl s1)):upS step (n+1) s=step n s1:=by
 simp only [upS,h]
theorem Zfe {step:Nat->σ->Option (σ⊕ρ)}{n:Nat}{s:σ}{q:Option (σ⊕ρ)}(h:upS step n s=q)(hq:∀ s1,q≠some (.inl s1)):upS step (n+1) s=q:=by
 simp only [upS,h]
theorem Zir {step:Nat->σ->Option (σ⊕ρ)}{k:Nat}{s:σ}{q:Option (σ⊕ρ)}(h:upS step k s=q)(hq:∀ s1,q≠some (.inl s1)):∀ n,k<=n->upS step n s=q:=by
 intro n hn
 induction n with
 | zero =>
  obtain rfl:k=0:=by omega
  exact h
 | succ n ih =>
  by_cases e:k=n+1
  ·subst e;exact h
  exact Zfe (ih (by omega)) hq
theorem Zgv {step:Nat->σ->Option (σ⊕ρ)}{n:Nat}{s0 s:σ}(h:upS step (n+1) s0=some (.inl s)):∃ s1,upS step n s0=some (.inl s1)/\step n s1=some (.inl s):=by
 cases hu:upS step n s0 with
 | none=>rw [Zfe hu (λs1 h=>by cases h)] at h;cases h
 | some r =>
  cases r with
  | inl s1=>rw [Zis hu] at h;exact ⟨s1,rfl,h⟩
  | inr r=>rw [Zfe hu (λs1 h=>by cases h)] at h;cases h
theorem Zj0 {step:Nat->σ->Option (σ⊕ρ)}:∀ {n:Nat} {s0 s:σ},upS step n s0=some (.inl s)->∀ k,k<n->∃ s1 s2,upS step k s0=some (.inl s1)/\step k s1=some (.inl s2)
 | 0,s0,s,h,k,hk=>by omega
 | n+1,s0,s,h,k,hk=>by
  obtain ⟨s1,h1,h2⟩:=Zgv h
  by_cases e:k=n
  ·subst e;exact ⟨s1,s,h1,h2⟩
  exact Zj0 h1 k (by omega)
theorem Zi2 {step:Nat->σ->Option (σ⊕ρ)}:∀ {n:Nat} {s0:σ} {r:ρ},upS step n s0=some (.inr r)->∃ k s1,k<n/\upS step k s0=some (.inl s1)/\step k s1=some (.inr r)
 | 0,s0,r,h=>by cases h
 | n+1,s0,r,h=>by
  cases hu:upS step n s0 with
  | none=>rw [Zfe hu (λs1 h=>by cases h)] at h;cases h
  | some q =>
   cases q with
   | inl s1=>rw [Zis hu] at h;exact ⟨n,s1,by omega,hu,h⟩
   | inr r' =>
    rw [Zfe hu (λs1 h=>by cases h)] at h
    cases h
    obtain ⟨k,s1,h1,h2,h3⟩:=Zi2 hu
    exact ⟨k,s1,by omega,h2,h3⟩
end
abbrev SR:=Option (List Z3⊕List Int)
section
variable {p:Z1}
def addA (f:List Z3)(c:Nat)(z:Zan):List Z3 :=
 f.set c ⟨(f.getD c c00).Stream,if (decide (0<=z.By)&&ZfO (f.getD c c00).Arms z.By)=true then Zlv (f.getD c c00).Arms z.To else (f.getD c c00).Arms++[z]⟩
theorem ZiW (f:List Z3)(c:Nat)(z:Zan):(addA f c z).length=f.length:=by simp [addA]
def ZdP (p:Z1)(given:List Int)(c:Nat)(last:Bool)(R:List Z3->List Int->SR)(x:Nat)(s:List Z3):SR :=
 if byS p given.length x (given++[(x:Int)]) = -1 then
  (if last=true then some (.inr (given++[(x:Int)])) else match R s (given++[(x:Int)]) with
   | some (.inl r)=>some (.inl (addA r c ⟨x,(x:Int)+1,-1,s.length⟩))
   | q=>q)
 else some (.inl (addA s c ⟨x,(x:Int)+1,byS p given.length x (given++[(x:Int)]),0⟩))
def Zc9 (p:Z1)(i:Nat):Nat:=if i=0 then 1 else (p.Periods.getD i 0).toNat
def endS (p:Z1)(c i:Nat)(s:List Z3):List Z3:=if i=0/\1<p.Periods.getD i 0 then addA s c ⟨1,p.Periods.getD i 0,-2,0⟩ else s
def ZdZ (p:Z1)(given:List Int):Bool:=decide (given.length+1=p.Periods.length)
def srch (p:Z1)(fuel:Int):Nat->List Z3->List Int->SR
 | 0,_,_=>none
 | n+1,f,given=>if fuel<(f.length:Int) then none else
  match upS (ZdP p given f.length (ZdZ p given) (srch p fuel n)) (Zc9 p given.length) (f++[⟨given.length,[]⟩]) with
  | some (.inl s)=>some (.inl (endS p f.length given.length s))
  | q=>q
theorem Zfz (i:Nat)(x:Int)(all:List Int):(byS p i x all = -1/\∀ j,j<=i->Zb0 p i x j (all.getD j 0)=false)∨∃ j:Nat,byS p i x all=j/\j<=i/\Zb0 p i x j (all.getD j 0)=true:=by
 unfold byS
 cases h:Zev (λj=>Zb0 p i x j (all.getD j 0)) (i+1) with
 | none=>exact .inl ⟨rfl,λj hj=>Zd2.1 h j (by omega)⟩
 | some j =>
  obtain ⟨h1,h2,_⟩:=Zdd.1 h
  exact .inr ⟨j,rfl,by omega,h2⟩
theorem Zmj (l:List Zan):ZfO l (-1)=false:=by simp [ZfO]
theorem ZhU {given:List Int}{c:Nat}{last:Bool}{R:List Z3->List Int->SR}{R':List Z3->List Int->Option (List Z3)}{x:Nat}{s s':List Z3}
  (hR:∀ r,R s (given++[(x:Int)])=some (.inl r)->R' s (given++[(x:Int)])=some r) (hc:c=0->x=0) (h:ZdP p given c last R x s=some (.inl s')):Zdy p given c R' x s=some s':=by
 have hb:bS p given c x=byS p given.length x (given++[(x:Int)]):=by
  unfold bS
  rw [ZX (by omega)]
 unfold Zdy
 unfold ZdP at h
 rw [hb]
 rcases Zfz (p:=p) given.length x (given++[(x:Int)]) with ⟨e,_⟩|⟨j,e,_⟩
 ·rw [ZY e] at h
  rw [e,Zmj,ZX (by simp),ZY rfl]
  cases last with
  | true=>rw [ZY rfl] at h;cases h
  | false =>
   rw [ZX (by simp)] at h
   cases hr:R s (given++[(x:Int)]) with
   | none=>rw [hr] at h;cases h
   | some q =>
    cases q with
    | inr o=>rw [hr] at h;cases h
    | inl r =>
     rw [hr] at h
     simp only [ZR,Sum.inl.injEq] at h
     rw [hR r hr,ZQ,← h]
     unfold addA
     rw [ZX (by simp)]
 rw [ZX (by omega),ZR,Sum.inl.injEq] at h
 rw [e] at h ⊢
 rw [← h]
 unfold addA
 rw [decide_eq_true (show (0:Int)<=(j:Int) by omega),Bool.true_and]
 by_cases hl:ZfO (s.getD c c00).Arms (j:Int)=true
 ·rw [ZY hl,ZY hl]
 rw [ZX hl,ZX hl,ZX (by omega)]
theorem Zlu (l:List Zan)(a:Zan)(t:Int):Zlv (l++[a]) t=l++[{ a with To:=t }]:=by
 unfold Zlv
 simp [Zm]
theorem ZeX (l:List Zan)(a:Zan)(b:Int):ZfO (l++[a]) b=true↔b ≠ -1/\a.By=b:=by
 unfold ZfO
 simp [Zm]
theorem Zmt {R:List Z3->List Int->Option (List Z3)}(hR:∀ r,R [⟨0,[]⟩] ([]++[((0:Nat):Int)])=some r->[⟨0,[]⟩] <+: r){s:List Z3}(h:Zdy p [] 0 R 0 [⟨0,[]⟩]=some s) :
  0<s.length/\∃ l a,(s.getD 0 c00).Arms=l++[a]/\a.By ≠ -2:=by
 have hb:bS p [] 0 0=byS p 0 0 [0]:=by
  unfold bS
  rw [ZX (by omega)]
  rfl
 unfold Zdy at h
 rw [hb] at h
 have e0:(([⟨0,[]⟩]:List Z3).getD 0 c00).Arms=[]:=rfl
 rw [e0,show ZfO [] (byS p 0 0 [0])=false by simp [ZfO],ZX (by simp)] at h
 rcases Zfz (p:=p) 0 0 [0] with ⟨e,_⟩|⟨j,e,_⟩
 ·rw [ZY e] at h
  cases hr:R [⟨0,[]⟩] ([]++[((0:Nat):Int)]) with
  | none=>rw [hr] at h;cases h
  | some r =>
   rw [hr] at h
   have hl:0<r.length:=Nat.lt_of_lt_of_le (by simp) (hR _ hr).length_le
   cases h
   refine ⟨by rw [ZC];exact hl,_,_,by rw [Zcm _ _ hl],by simp⟩
 rw [ZX (by omega)] at h
 cases h
 exact ⟨by simp,_,_,by rw [Zcm _ _ (by simp)],by simp only [e];omega⟩
theorem ZhT {R:List Z3->List Int->Option (List Z3)}{s0 s:List Z3}(h1:upF (Zdy p [] 0 R) 1 s0=some s)(hl:0<s.length){l:List Zan}{a:Zan}(ha:(s.getD 0 c00).Arms=l++[a])(hb:a.By ≠ -2) :
  ∀ k:Nat,upF (Zdy p [] 0 R) (k+2) s0=some (s.set 0 ⟨(s.getD 0 c00).Stream,(s.getD 0 c00).Arms++[⟨1,(k:Int)+2,-2,0⟩]⟩)
 | 0=>by
  show (upF (Zdy p [] 0 R) 1 s0).bind _=_
  rw [h1,ZO]
  unfold Zdy
  have e:bS p [] 0 1 = -2:=rfl
  rw [e,ZX (by rw [ha,ZeX];omega),ZX (by omega)]
  rfl
 | k+1=>by
  show (upF (Zdy p [] 0 R) (k+2) s0).bind _=_
  rw [ZhT h1 hl ha hb k,ZO]
  unfold Zdy
  have e:bS p [] 0 (k+2) = -2:=by unfold bS;rw [ZY (by omega)]
  rw [e,Zcm _ _ hl,ZY (by rw [ZeX];exact ⟨by omega,rfl⟩),Zlu,List.set_set]
  simp only
  congr 6
theorem Zfh {fuel:Int}(hp:VP p)(hf:fuel<=1999):∀ (n:Nat) (f:List Z3) (given:List Int) (r:List Z3),given.length+n=p.Periods.length->(given.length=0↔f.length=0)->f.length<=2000->ZdA f →
  srch p fuel n f given=some (.inl r)->Zgu p n f given=some r
 | 0,f,given,r,_,_,_,_,h=>by cases h
 | n+1,f,given,r,hl,h0,hf2,hs,h=>by
  simp only [srch] at h
  simp only [Zgu]
  by_cases hc:fuel<(f.length:Int)
  ·rw [ZY hc] at h;cases h
  rw [ZX hc] at h
  rw [ZX (by omega)]
  have hin:given.length<p.Periods.length:=by omega
  have hpe:=hp.per _ (List.getElem_mem hin)
  have hpg:p.Periods.getD given.length 0=p.Periods[given.length]:=ZaW hin 0
  obtain ⟨s0,hs0⟩:∃ s0,s0=f++[(⟨given.length,[]⟩:Z3)]:=⟨_,rfl⟩
  rw [← hs0] at h ⊢
  have hloop:∀ (k:Nat) (s:List Z3),(given.length=0->k<=1)->k<=240->upS (ZdP p given f.length (ZdZ p given) (srch p fuel n)) k s0=some (.inl s)->upF (Zdy p given f.length (Zgu p n)) k s0=some s:=by
   intro k
   induction k with
   | zero=>intro s _ _ h;simp only [upS,ZR,Sum.inl.injEq] at h;simp only [upF,h]
   | succ k ih =>
    intro s hk hk2 h
    obtain ⟨s1,h1,h2⟩:=Zgv h
    have h3:=ih s1 (λe=>by have:=hk e;omega) (by omega) h1
    show (upF _ k s0).bind _=_
    rw [h3,ZO]
    have hG:=GI.loop (Zd1 hp n) (hs0 ▸ GI.start given.length (by omega) hs:GI f given.length 0 s0) (by omega) h3
    have hlt:=hG.lt
    exact ZhU (λr hr=>Zfh hp hf n s1 _ r (by simp;omega) ⟨λh=>by simp at h,λh=>by omega⟩ hG.le hG.sm hr) (λe=>by have:=hk (h0.2 e);omega) h2
  cases hu:upS (ZdP p given f.length (ZdZ p given) (srch p fuel n)) (Zc9 p given.length) s0 with
  | none=>rw [hu] at h;cases h
  | some q =>
   cases q with
   | inr o=>rw [hu] at h;cases h
   | inl s =>
    rw [hu] at h
    simp only [ZR,Sum.inl.injEq] at h
    have h3:=hloop _ s (λe=>by unfold Zc9;rw [ZY e];omega) (by unfold Zc9;split<;>omega) hu
    by_cases e:given.length=0
    ·obtain rfl:given=[]:=List.eq_nil_of_length_eq_zero e
     obtain rfl:f=[]:=List.eq_nil_of_length_eq_zero (h0.1 e)
     simp only [List.length_nil,ZI] at *
     unfold Zc9 at h3
     rw [ZY rfl] at h3
     unfold endS at h
     by_cases c:1<p.Periods.getD 0 0
     ·rw [ZY ⟨rfl,c⟩] at h
      obtain ⟨k,hk⟩:∃ k,(p.Periods.getD 0 0).toNat=k+2:=⟨(p.Periods.getD 0 0).toNat-2,by omega⟩
      have h4:Zdy p [] 0 (Zgu p n) 0 [⟨0,[]⟩]=some s:=by
       have:(upF (Zdy p [] 0 (Zgu p n)) 0 s0).bind (Zdy p [] 0 (Zgu p n) 0)=some s:=h3
       rw [hs0] at this
       exact this
      obtain ⟨hl1,l,a,ha,hb⟩:=Zmt (R:=Zgu p n) (λr hr=>(Zd1 hp n _ _ r (by simp) (λy hy=>by rw [List.mem_singleton.1 hy];simp) hr).1) h4
      rw [hk,ZhT h3 hl1 ha hb k,← h]
      unfold addA
      rw [ZX (by simp)]
      congr 6
      omega
     rw [ZX (by omega)] at h
     rw [show (p.Periods.getD 0 0).toNat=1 by omega,h3,h]
    unfold endS at h
    rw [ZX (by omega)] at h
    unfold Zc9 at h3
    rw [ZX e] at h3
    rw [h3,h]
theorem Zl0 {fuel:Int}{n:Nat}(ih:∀ (f:List Z3) (given:List Int) (r:List Z3),(f.length:Int)<=fuel+1->srch p fuel n f given=some (.inl r)->(r.length:Int)<=fuel+1){given:List Int}{c:Nat}{last:Bool}{x:Nat}{s s':List Z3}
  (hs:(s.length:Int)<=fuel+1) (h:ZdP p given c last (srch p fuel n) x s=some (.inl s')):(s'.length:Int)<=fuel+1:=by
 unfold ZdP at h
 by_cases e:byS p given.length x (given++[(x:Int)]) = -1
 ·rw [ZY e] at h
  cases last with
  | true=>rw [ZY rfl] at h;cases h
  | false =>
   rw [ZX (by simp)] at h
   cases hr:srch p fuel n s (given++[(x:Int)]) with
   | none=>rw [hr] at h;cases h
   | some q =>
    cases q with
    | inr o=>rw [hr] at h;cases h
    | inl r =>
     rw [hr] at h
     simp only [ZR,Sum.inl.injEq] at h
     rw [← h,ZiW]
     exact ih _ _ _ hs hr
 rw [ZX e] at h
 simp only [ZR,Sum.inl.injEq] at h
 rw [← h,ZiW]
 exact hs
theorem ZkH {fuel:Int}:∀ (n:Nat) (f:List Z3) (given:List Int) (r:List Z3),(f.length:Int)<=fuel+1->srch p fuel n f given=some (.inl r)->(r.length:Int)<=fuel+1
 | 0,f,given,r,_,h=>by cases h
 | n+1,f,given,r,hf,h=>by
  simp only [srch] at h
  by_cases hc:fuel<(f.length:Int)
  ·rw [ZY hc] at h;cases h
  rw [ZX hc] at h
  obtain ⟨s0,hs0⟩:∃ s0,s0=f++[(⟨given.length,[]⟩:Z3)]:=⟨_,rfl⟩
  rw [← hs0] at h
  have hloop:∀ (k:Nat) (s:List Z3),upS (ZdP p given f.length (ZdZ p given) (srch p fuel n)) k s0=some (.inl s)->(s.length:Int)<=fuel+1:=by
   intro k
   induction k with
   | zero=>intro s h;simp only [upS,ZR,Sum.inl.injEq] at h;rw [← h,hs0];simp;omega
   | succ k ih =>
    intro s h
    obtain ⟨s1,h1,h2⟩:=Zgv h
    exact Zl0 (ZkH n) (ih s1 h1) h2
  cases hu:upS (ZdP p given f.length (ZdZ p given) (srch p fuel n)) (Zc9 p given.length) s0 with
  | none=>rw [hu] at h;cases h
  | some q =>
   cases q with
   | inr o=>rw [hu] at h;cases h
   | inl s =>
    rw [hu] at h
    simp only [ZR,Sum.inl.injEq] at h
    have:=hloop _ s hu
    rw [← h]
    unfold endS
    split
    ·rw [ZiW];exact this
    exact this
end
end Go.Sh

namespace Go.Sh
open Go Go.Eng
section
variable {N:Nat} {p:Z1}
theorem ZgT {l:List Zan}(hl:l.length<=1000)(b:Int):Zdk l b=some (decide (0<=b)&&ZfO l b):=by
 unfold Zdk ZfO
 by_cases hn:l=[]
 ·subst hn;simp
 have h0:0<l.length:=List.length_pos_iff.2 hn
 rw [ZY (by simp;omega),decide_eq_true hn]
 by_cases hb:0<=b
 ·rw [ZY (by simpa using hb),decide_eq_true hb,decide_eq_true (show b ≠ -1 by omega),Bool.true_and,Bool.true_and,Bool.true_and]
  have e:w64 (((List.length l:Nat):Int)-1)=((l.length-1:Nat):Int):=by rw [Zbn (by omega) (by omega)];omega
  rw [e,Zd0 (by omega),ZO,ZaW (by omega)]
  rfl
 rw [ZX (by simpa using hb),decide_eq_false hb,Bool.false_and]
theorem ZfF {f:List Z3}{c:Nat}(hc:c<f.length)(hl:(f.getD c c00).Arms.length<=1000)(z:Zan):ZdO f c z=some (addA f c z):=by
 unfold ZdO addA
 rw [Zd0 hc,ZO,← ZaW hc c00,ZgT hl,ZO]
 cases hlb:(decide (0<=z.By)&&ZfO (f.getD c c00).Arms z.By) with
 | true =>
  rw [ZY rfl,ZY rfl]
  have hne:(f.getD c c00).Arms≠[]:=by
   unfold ZfO at hlb
   simp only [Ze,ZV] at hlb
   exact hlb.2.1.2
  have h0:0<(f.getD c c00).Arms.length:=List.length_pos_iff.2 hne
  have e:w64 (((List.length (f.getD c c00).Arms:Nat):Int)-1)=(((f.getD c c00).Arms.length-1:Nat):Int):=by rw [Zbn (by omega) (by omega)];omega
  rw [e,ZgA a00 (by omega) (by omega),ZO]
  simp only [Zj]
  rfl
 | false =>
  rw [ZX (by simp),ZX (by simp),ZeL (by rw [ZD];omega) (by omega),ZO]
  simp only [Zj]
def ZhJ (p:Z1)(given:List Int)(r:SR)(o:Option (Bool×Zbh)):Prop:=match r with
 | none=>o=none
 | some (.inl f)=>∃ m,o=some (false,(f,given,m))/\KOK p m
 | some (.inr g)=>∃ f m,o=some (true,(f,g,m))
theorem ZnG {fuel:Int}(hp:VP p)(hf:fuel<=1999){n:Nat}{f:List Z3}{given:List Int}(hl:given.length+(n+1)=p.Periods.length)(h0:given.length=0↔f.length=0)(hf2:f.length<2000)(hs:ZdA f) :
  ∀ (k:Nat) (s:List Z3),(given.length=0->k<=1)->k<=240->upS (ZdP p given f.length (ZdZ p given) (srch p fuel n)) k (f++[⟨given.length,[]⟩])=some (.inl s)->GI f given.length k s:=by
 have hloop:∀ (k:Nat) (s:List Z3),(given.length=0->k<=1)->k<=240->upS (ZdP p given f.length (ZdZ p given) (srch p fuel n)) k (f++[⟨given.length,[]⟩])=some (.inl s)->upF (Zdy p given f.length (Zgu p n)) k (f++[⟨given.length,[]⟩])=some s:=by
  intro k
  induction k with
  | zero=>intro s _ _ h;simp only [upS,ZR,Sum.inl.injEq] at h;simp only [upF,h]
  | succ k ih =>
   intro s hk hk2 h
   obtain ⟨s1,h1,h2⟩:=Zgv h
   have h3:=ih s1 (λe=>by have:=hk e;omega) (by omega) h1
   show (upF _ k _).bind _=_
   rw [h3,ZO]
   have hG:=GI.loop (Zd1 hp n) (GI.start given.length (by omega) hs:GI f given.length 0 _) (by omega) h3
   have hlt:=hG.lt
   exact ZhU (λr hr=>Zfh hp hf n s1 _ r (by simp;omega) ⟨λh=>by simp at h,λh=>by omega⟩ hG.le hG.sm hr) (λe=>by have:=hk (h0.2 e);omega) h2
 exact λk s h1 h2 h3=>GI.loop (Zd1 hp n) (GI.start given.length (by omega) hs:GI f given.length 0 _) h2 (hloop k s h1 h2 h3)
theorem ZhF {fuel:Int}(hp:ZdS p=true)(hf:fuel<=1999)(hN:2000<=N){R:Zbh->Int->Option (Option (Bool×Zbh))}{n:Nat}{f:List Z3}{given:List Int}{m:slvK}(hl:given.length+(n+1)=p.Periods.length)(hpre:preB p given)(hf2:f.length<=2000)(hs:ZdA f)(h0:given.length=0↔f.length=0)(hm:KOK p m)
  (hR:n≠0->∀ (s:List Z3) (m:slvK) (x:Int),s.length<=2000->ZdA s->s.length≠0->KOK p m->offB p given.length x=true->∃ o,R (s,given++[x],m) ((given.length+1:Nat):Int)=some o/\ZhJ p (given++[x]) (srch p fuel n s (given++[x])) o) :
  ∃ o,Zct N R p fuel (f,given,m) given.length=some o/\ZhJ p given (srch p fuel (n+1) f given) o:=by
 unfold Zct
 simp only [srch]
 by_cases hc:fuel<(f.length:Int)
 ·rw [ZY (by simpa using hc),ZY hc]
  exact ⟨none,rfl,rfl⟩
 rw [ZX (by simpa using hc),ZX hc,ZeL (by simp;omega) (by omega),ZO]
 have h:=VP.of hp
 have hP:=h.len
 have hin:given.length<p.Periods.length:=by omega
 have hpe:=h.per _ (List.getElem_mem hin)
 have hpg:p.Periods.getD given.length 0=p.Periods[given.length]:=ZaW hin 0
 rw [Zd0 hin,ZO,← hpg]
 have hmost:(if ((given.length:Int)==0)=true then some 1 else some (p.Periods.getD given.length 0))=some (Zc9 p given.length:Int):=by
  unfold Zc9
  by_cases e:given.length=0
  ·rw [ZY (by simpa using e),ZY e];rfl
  rw [ZX (by simpa using e),ZX e,Int.toNat_of_nonneg (by omega)]
 have hmp:Zc9 p given.length<=240/\(Zc9 p given.length:Int)<=p.Periods.getD given.length 0/\(given.length=0->Zc9 p given.length=1)/\(given.length≠0->(Zc9 p given.length:Int)=p.Periods.getD given.length 0):=by
  unfold Zc9
  split<;>omega
 obtain ⟨m1,m2,m3,m4⟩:=hmp
 rw [hmost,ZO]
 obtain ⟨most,hmo⟩:∃ k,k=Zc9 p given.length:=⟨_,rfl⟩
 obtain ⟨per,hper⟩:∃ k,k=p.Periods.getD given.length 0:=⟨_,rfl⟩
 have hG:=λk s (hk:k<=most) hu=>ZnG h hf hl h0 (by omega) hs k s (λe=>by have:=m3 e;omega) (by omega) hu
 rw [← hmo] at m1 m2 m3 m4 ⊢
 rw [← hper] at m2 m4 ⊢
 obtain ⟨s0,hs0⟩:∃ s0,s0=f++[(⟨given.length,[]⟩:Z3)]:=⟨_,rfl⟩
 rw [← hs0] at hG ⊢
 obtain ⟨step,hst⟩:∃ st,st=ZdP p given f.length (ZdZ p given) (srch p fuel n):=⟨_,rfl⟩
 rw [← hst] at hG ⊢
 obtain ⟨r,hr,e⟩:=Zdp (body:=λy:Int×Zbh=>Zca N R p given.length f.length most y.1 y.2)
  (λy=>∃ (k:Nat) (s:List Z3) (m:slvK),y=((k:Int),(s,given,m))/\k<=most/\KOK p m/\upS step k s0=some (.inl s))
  (λy=>((most:Int)+1-y.1).toNat)
  (λr=>(∃ s m,r=.inl (s,given,m)/\KOK p m/\upS step most s0=some (.inl s))∨(r=.inr none/\upS step most s0=none)∨(∃ f g m,r=.inr (some (f,g,m))/\upS step most s0=some (.inr g))) (λy hy=>by
   obtain ⟨k,s,m,rfl,k1,k2,k3⟩:=hy
   simp only [Zca]
   by_cases c:k<most
   ·rw [ZY (by simpa using c)]
    have hx:offB p given.length (k:Int)=true:=Zbe.2 ⟨by omega,by omega,by omega,by rw [Zj,← hper];omega⟩
    obtain ⟨m',h1,h2⟩:=Ziw hN hp k2 hpre hx
    rw [h1,ZO]
    have hg:=hG k s k1 k3
    have hlt:=hg.lt;have hle:=hg.le;have har:=hg.ar
    have hw:w64 ((k:Int)+1)=(k:Int)+1:=Zbn (by omega) (by omega)
    have hk1:((k+1:Nat):Int)=(k:Int)+1:=by omega
    have hnext:=Zis k3
    have hss:step k s=ZdP p given f.length (ZdZ p given) (srch p fuel n) k s:=by rw [hst]
    unfold ZdP at hss
    by_cases hb:byS p given.length k (given++[(k:Int)]) = -1
    ·rw [ZY (by simpa using hb),ZeL (by simp;omega) (by omega),ZO]
     rw [ZY hb] at hss
     have hw2:w64 (((List.length p.Periods:Nat):Int)-1)=((p.Periods.length-1:Nat):Int):=by rw [Zbn (by omega) (by omega)];omega
     by_cases hla:n=0
     ·rw [hw2,ZY (by simp;omega)]
      rw [ZY (by unfold ZdZ;rw [ZV];omega)] at hss
      rw [hss] at hnext
      exact .inr ⟨_,rfl,.inr (.inr ⟨s,_,m',rfl,Zir hnext (λs1 h=>by cases h) _ (by omega)⟩)⟩
     rw [hw2,ZX (by simp;omega)]
     rw [ZX (by unfold ZdZ;rw [ZV];omega)] at hss
     obtain ⟨o,ho1,ho2⟩:=hR hla s m' k hle hg.sm (by omega) h2 hx
     rw [show w64 ((given.length:Int)+1)=((given.length+1:Nat):Int) by rw [Zbn (by omega) (by omega)];omega,ho1,ZO]
     cases hq:srch p fuel n s (given++[(k:Int)]) with
     | none =>
      rw [hq] at ho2 hss
      simp only [ZhJ] at ho2
      subst ho2
      simp only at hss
      rw [hss] at hnext
      exact .inr ⟨_,rfl,.inr (.inl ⟨rfl,Zir hnext (λs1 h=>by cases h) _ (by omega)⟩)⟩
     | some q =>
      cases q with
      | inr g =>
       rw [hq] at ho2 hss
       simp only [ZhJ] at ho2
       obtain ⟨f2,m2,rfl⟩:=ho2
       simp only at hss
       rw [hss] at hnext
       exact .inr ⟨_,rfl,.inr (.inr ⟨f2,g,m2,rfl,Zir hnext (λs1 h=>by cases h) _ (by omega)⟩)⟩
      | inl f2 =>
       rw [hq] at ho2 hss
       simp only [ZhJ] at ho2
       obtain ⟨m2,rfl,hm2⟩:=ho2
       simp only at hss
       have hrk:=Zd1 h n _ _ _ hle hg.sm (Zfh h hf n s _ f2 (by simp;omega) ⟨λh=>by simp at h,λh=>by omega⟩ hle hg.sm hq)
       have hlen2:=hrk.1.length_le
       have hpop:popI (given++[(k:Int)]) (given.length:Int)=some given:=by
        unfold popI
        rw [ZY (by simp;omega),Zj,List.take_left']
        rfl
       have hadd:ZdO f2 (f.length:Int) ⟨(k:Int),(k:Int)+1,-1,s.length⟩=some (addA f2 f.length ⟨(k:Int),(k:Int)+1,-1,s.length⟩):=ZfF (by omega) (by rw [Zdn _ hrk.1 hlt];omega) _
       simp only [Zf,ZW]
       rw [hpop,ZO,ZO]
       simp only
       rw [hb,hw,hadd,ZO]
       rw [hss] at hnext
       exact .inl ⟨_,rfl,⟨k+1,_,m2,by rw [hk1],by omega,hm2,hnext⟩,by simp only;omega⟩
    rw [ZX (by simpa using hb),ZO]
    rw [ZX hb] at hss
    simp only
    have hadd:∀ z,ZdO s (f.length:Int) z=some (addA s f.length z):=λz=>ZfF hlt (by omega) _
    rw [hw,hadd,ZO]
    rw [hss] at hnext
    exact .inl ⟨_,rfl,⟨k+1,_,m',by rw [hk1],by omega,h2,hnext⟩,by simp only;omega⟩
   obtain rfl:k=most:=by omega
   rw [ZX (by simp)]
   exact .inr ⟨_,rfl,.inl ⟨s,m,rfl,k2,k3⟩⟩) N (0,(s0,(given,m))) ⟨0,s0,m,rfl,by omega,hm,rfl⟩ (by simp only;omega)
 rw [hr,ZO]
 rcases e with ⟨s,m',rfl,e2,e3⟩|⟨rfl,e3⟩|⟨f',g,m',rfl,e3⟩
 ·simp only
  rw [e3]
  simp only [ZhJ]
  have hg:=hG most s (Nat.le_refl _) e3
  have hlt:=hg.lt;have har:=hg.ar
  unfold endS
  rw [← hper]
  by_cases c:(most:Int)<per
  ·rw [ZY (by simpa using c)]
   have hz:given.length=0:=Classical.byContradiction λhz=>by have:=m4 hz;omega
   have hmo1:=m3 hz
   rw [ZY ⟨hz,by omega⟩,ZfF hlt (by omega),ZO,hmo1]
   exact ⟨_,rfl,m',rfl,e2⟩
  rw [ZX (by simpa using c),ZX (λhh=>by have:=m3 hh.1;omega)]
  exact ⟨_,rfl,m',rfl,e2⟩
 ·simp only
  rw [e3]
  exact ⟨_,rfl,rfl⟩
 simp only
 rw [e3]
 exact ⟨_,rfl,f',m',rfl⟩
theorem Zf0 {fuel:Int}(hp:ZdS p=true)(hf:fuel<=1999){M:Nat}(hM:2000<=M):∀ (n:Nat) (f:List Z3) (given:List Int) (m:slvK),given.length+n=p.Periods.length->n≠0->preB p given->f.length<=2000->ZdA f->(given.length=0↔f.length=0)->KOK p m →
  ∃ o,Zc5 (M+n) p fuel (f,given,m) given.length=some o/\ZhJ p given (srch p fuel n f given) o
 | 0,f,given,m,_,h,_,_,_,_,_=>absurd rfl h
 | n+1,f,given,m,hl,_,hpre,hf2,hs,h0,hm=>by
  show ∃ o,Zct (M+n) (Zc5 (M+n) p fuel) p fuel (f,given,m) given.length=some o/\_
  refine ZhF hp hf (by omega) hl hpre hf2 hs h0 hm (λhn s m x h1 h2 h3 h4 h5=>?_)
  have:=Zf0 hp hf hM n s (given++[x]) m (by simp;omega) hn (hpre.snoc h5) h1 h2 ⟨λh=>by simp at h,λh=>absurd h h3⟩ h4
  rw [Zz,ZD] at this
  exact this
def ZhR (p:Z1)(fuel:Int):List Int×List Z3×Int :=
 if ZdS p=true then
  if fuel<0∨fuel>1999 then ([],[],2) else
  if p.Periods.length=0 then ([],[],0) else
  match srch p fuel p.Periods.length [] [] with
  | none=>([],[],8)
  | some (.inl f)=>([],f,4)
  | some (.inr g)=>(g,[],0)
 else ([],[],340)
theorem ZhD (hN:3000<=N)(p:Z1)(fuel:Int):ZbI N p fuel=some (ZhR p fuel):=by
 unfold ZbI ZhR
 rw [ZdU (by omega),ZO]
 by_cases hp:ZdS p=true
 ·rw [ZY hp,ZY hp,ZX (by simp)]
  by_cases c:fuel<0∨fuel>1999
  ·rw [ZY (by simpa using c),ZY c]
  rw [ZX (by simpa using c),ZX c]
  by_cases z:p.Periods.length=0
  ·rw [ZY (by simpa using z),ZY z]
  rw [ZX (by simpa using z),ZX z]
  have hP:=(VP.of hp).len
  obtain ⟨M,hM⟩:∃ M,N=M+p.Periods.length:=⟨N-p.Periods.length,by omega⟩
  obtain ⟨o,h1,h2⟩:=Zf0 hp (show fuel<=1999 by omega) (show 2000<=M by omega) p.Periods.length [] [] [] (by simp) z (λk hk=>by simp at hk) (by simp) (λy hy=>by simp at hy) (by simp) KOK.nil
  rw [← hM] at h1
  have h1':Zc5 N p fuel ([],[],[]) 0=some o:=h1
  rw [h1',ZO]
  cases hq:srch p fuel p.Periods.length [] [] with
  | none=>rw [hq] at h2;simp only [ZhJ] at h2;subst h2;rfl
  | some q =>
   cases q with
   | inl f=>rw [hq] at h2;simp only [ZhJ] at h2;obtain ⟨m,rfl,_⟩:=h2;rfl
   | inr g=>rw [hq] at h2;simp only [ZhJ] at h2;obtain ⟨f,m,rfl⟩:=h2;rfl
 rw [ZX hp,ZX hp,ZY (by simp)]
end
end Go.Sh

namespace Go.Sh
open Go Go.Eng
theorem ZkR {given l:List Int}{k:Int}(h:given <+: l)(hl:given.length<l.length)(hk:l.getD given.length 0=k):given++[k] <+: l:=by
 obtain ⟨t,rfl⟩:=h
 cases t with
 | nil=>simp at hl
 | cons a t =>
  have:a=k:=by rw [← hk];simp [Zm]
  subst this
  exact ⟨t,by simp⟩
theorem ZkI {given l:List Int}{k:Int}(h:given++[k] <+: l):given <+: l/\given.length<l.length/\l.getD given.length 0=k:=by
 have h1:=h.length_le
 rw [Zz,ZD] at h1
 refine ⟨(List.prefix_append _ _).trans h,by omega,?_⟩
 rw [Zdn 0 h (by simp),Zcs]
def ZnU (o l:List Int):Prop:=o=l∨∃ k,k<o.length/\o.getD k 0<l.getD k 0/\∀ m,m<k->o.getD m 0=l.getD m 0
section
variable {p:Z1}
structure Ext (p:Z1) (given l:List Int):Prop where
 pre:given <+: l
 len:l.length=p.Periods.length
 off:preB p l
 cl:∀ i,i<l.length->∀ j,j<=i->Zb0 p i (l.getD i 0) j (l.getD j 0)=false
 z:given.length=0->l.getD 0 0=0
structure ZjW (p:Z1) (given o:List Int):Prop where
 pre:given <+: o
 len:o.length=p.Periods.length
 off:preB p o
 cl:∀ i,given.length<=i->i<o.length->∀ j,j<=i->Zb0 p i (o.getD i 0) j (o.getD j 0)=false
 z:given.length=0->o.getD 0 0=0
 least:∀ l,Ext p given l->ZnU o l
def ZmQ (p:Z1)(given:List Int)(q:SR):Prop:=match q with
 | none=>True
 | some (.inl _)=>∀ l,Ext p given l->False
 | some (.inr o)=>ZjW p given o
theorem Ext.snoc {given l:List Int}(h:Ext p given l)(hl:given.length<p.Periods.length):Ext p (given++[l.getD given.length 0]) l :=
 {pre:=ZkR h.pre (by rw [h.len];exact hl) rfl,len:=h.len,off:=h.off,cl:=h.cl,z:=λe=>by simp at e }
theorem Ext.by {given l:List Int}(h:Ext p given l)(hl:given.length<p.Periods.length):byS p given.length (l.getD given.length 0) (given++[l.getD given.length 0]) = -1:=by
 rcases Zfz (p:=p) given.length (l.getD given.length 0) (given++[l.getD given.length 0]) with ⟨e,_⟩|⟨j,e,h1,h2⟩
 ·exact e
 have hx:=(h.snoc hl).pre
 rw [← Zdn 0 hx (by simp;omega),h.cl given.length (by rw [h.len];exact hl) j h1] at h2
 cases h2
theorem ZhW {given:List Int}{c:Nat}{R:List Z3->List Int->SR}{k:Nat}{s s':List Z3}(hl:given.length<p.Periods.length)
  (hR:ZdZ p given=false->ZmQ p (given++[(k:Int)]) (R s (given++[(k:Int)])))
  (h:ZdP p given c (ZdZ p given) R k s=some (.inl s')) {l:List Int} (hx:Ext p given l) (hk:l.getD given.length 0=(k:Int)):False:=by
 have hb:=hx.by hl
 have hx2:=hx.snoc hl
 rw [hk] at hb hx2
 unfold ZdP at h
 rw [ZY hb] at h
 cases hla:ZdZ p given with
 | true=>rw [hla,ZY rfl] at h;cases h
 | false =>
  have hR:=hR hla
  rw [hla,ZX (by simp)] at h
  cases hr:R s (given++[(k:Int)]) with
  | none=>rw [hr] at h;cases h
  | some q =>
   cases q with
   | inr o=>rw [hr] at h;cases h
   | inl r =>
    rw [hr] at hR
    exact hR l hx2
theorem Zj6 {given:List Int}{c:Nat}{R:List Z3->List Int->SR}{k:Nat}{s:List Z3}{o:List Int}(hl:given.length<p.Periods.length)(hpre:preB p given)(hoff:offB p given.length k=true)(hz:given.length=0->k=0)
  (hR:ZdZ p given=false->ZmQ p (given++[(k:Int)]) (R s (given++[(k:Int)])))
  (h:ZdP p given c (ZdZ p given) R k s=some (.inr o)) (hle:∀ l,Ext p given l->(k:Int)<=l.getD given.length 0):ZjW p given o:=by
 unfold ZdP at h
 rcases Zfz (p:=p) given.length (k:Int) (given++[(k:Int)]) with ⟨e,hcl⟩|⟨j,e,_⟩
 ·rw [ZY e] at h
  have hlex:∀ o l:List Int,given++[(k:Int)] <+: o->Ext p given l->l.getD given.length 0≠(k:Int)->ZnU o l:=λo l ho hx hne=>by
   obtain ⟨g1,g2,g3⟩:=ZkI ho
   refine .inr ⟨given.length,g2,by rw [g3];have:=hle l hx;omega,λm hm=>?_⟩
   rw [Zdn 0 g1 hm,Zdn 0 hx.pre hm]
  cases hla:ZdZ p given with
  | true =>
   rw [hla,ZY rfl] at h
   cases h
   have hlen:given.length+1=p.Periods.length:=by unfold ZdZ at hla;rwa [ZV] at hla
   exact {
    pre:=List.prefix_append _ _
    len:=by simpa using hlen
    off:=hpre.snoc hoff
    cl:=λi hi hi2 j hj=>by
     rw [Zz,ZD] at hi2
     obtain rfl:i=given.length:=by omega
     rw [Zcs]
     exact hcl j hj
    z:=λe=>by
     have:=hz e
     have e2:=Zcs (given:=given) (x:=(k:Int))
     rw [e] at e2
     rw [e2,this]
     rfl
    least:=λl hx=>by
     by_cases hk:l.getD given.length 0=(k:Int)
     ·left
      have:=ZkR hx.pre (by rw [hx.len];exact hl) hk
      exact this.eq_of_length (by rw [hx.len];simpa using hlen)
     exact hlex _ l (List.prefix_refl _) hx hk }
  | false =>
   have hR:=hR hla
   rw [hla,ZX (by simp)] at h
   cases hr:R s (given++[(k:Int)]) with
   | none=>rw [hr] at h;cases h
   | some q =>
    cases q with
    | inl r=>rw [hr] at h;cases h
    | inr o' =>
     rw [hr] at h hR
     simp only [ZR,Sum.inr.injEq] at h
     subst h
     have hF:ZjW p (given++[(k:Int)]) o':=hR
     obtain ⟨g1,g2,g3⟩:=ZkI hF.pre
     exact {
      pre:=g1
      len:=hF.len
      off:=hF.off
      cl:=λi hi hi2 j hj=>by
       by_cases ei:i=given.length
       ·subst ei
        rw [g3,Zdn 0 hF.pre (by simp;omega)]
        exact hcl j hj
       exact hF.cl i (by simp;omega) hi2 j hj
      z:=λe=>by
       have:=hz e
       rw [e] at g3
       rw [g3,this]
       rfl
      least:=λl hx=>by
       by_cases hk:l.getD given.length 0=(k:Int)
       ·have:=hx.snoc hl
        rw [hk] at this
        exact hF.least l this
       exact hlex _ l hF.pre hx hk }
 rw [ZX (by omega)] at h
 cases h
theorem Zi7 {fuel:Int}(hp:VP p):∀ (n:Nat) (f:List Z3) (given:List Int),given.length+n=p.Periods.length->preB p given->ZmQ p given (srch p fuel n f given)
 | 0,f,given,_,_=>trivial
 | n+1,f,given,hl,hpre=>by
  simp only [srch]
  by_cases hc:fuel<(f.length:Int)
  ·rw [ZY hc];trivial
  rw [ZX hc]
  have hin:given.length<p.Periods.length:=by omega
  have hpe:=hp.per _ (List.getElem_mem hin)
  have hpg:p.Periods.getD given.length 0=p.Periods[given.length]:=ZaW hin 0
  have hmost:Zc9 p given.length<=(p.Periods.getD given.length 0).toNat/\(given.length=0->Zc9 p given.length=1)/\(given.length≠0->Zc9 p given.length=(p.Periods.getD given.length 0).toNat):=by
   unfold Zc9
   split<;>omega
  obtain ⟨m1,m2,m3⟩:=hmost
  have hoff:∀ k:Nat,k<Zc9 p given.length->offB p given.length k=true:=λk hk=>Zbe.2 ⟨by omega,by omega,by omega,by rw [Zj];omega⟩
  have hR:∀ (k:Nat) (s:List Z3),k<Zc9 p given.length->ZmQ p (given++[(k:Int)]) (srch p fuel n s (given++[(k:Int)])):=λk s hk=>Zi7 hp n s _ (by simp;omega) (hpre.snoc (hoff k hk))
  have hat:∀ l,Ext p given l->∃ k:Nat,k<Zc9 p given.length/\l.getD given.length 0=(k:Int):=λl hx=>by
   have ho:=hx.off given.length (by rw [hx.len];exact hin)
   obtain ⟨_,_,o1,o2⟩:=Zbe.1 ho
   rw [Zj] at o2
   by_cases e:given.length=0
   ·have:=hx.z e
    exact ⟨0,by have:=m2 e;omega,by rw [e,this];rfl⟩
   exact ⟨(l.getD given.length 0).toNat,by have:=m3 e;omega,by omega⟩
  cases hu:upS (ZdP p given f.length (ZdZ p given) (srch p fuel n)) (Zc9 p given.length) (f++[⟨given.length,[]⟩]) with
  | none=>trivial
  | some q =>
   cases q with
   | inl s =>
    intro l hx
    obtain ⟨k,h1,h2⟩:=hat l hx
    obtain ⟨s1,s2,h3,h4⟩:=Zj0 hu k h1
    exact ZhW hin (λ_=>hR k s1 h1) h4 hx h2
   | inr o =>
    obtain ⟨k,s1,h1,h2,h3⟩:=Zi2 hu
    refine Zj6 hin hpre (hoff k h1) (λe=>by have:=m2 e;omega) (λ_=>hR k s1 h1) h3 (λl hx=>?_)
    obtain ⟨k',h4,h5⟩:=hat l hx
    rw [h5]
    refine Classical.byContradiction λhlt=>?_
    obtain ⟨s3,s4,h6,h7⟩:=Zj0 h2 k' (by omega)
    exact ZhW hin (λ_=>hR k' s3 h4) h7 hx h5
theorem Ext.of {l:List Int}(ho:Zem p l=true)(hs:ZcK p l=true)(hz:l.getD 0 0=0):Ext p [] l:=by
 obtain ⟨h1,h2⟩:=ZeC ho
 refine { pre:=List.nil_prefix,len:=h1,off:=h2,cl:=λi hi j hj=>?_,z:=λ_=>hz }
 unfold ZcK at hs
 have:=ZcB.1 (ZcB.1 hs i hi) j (by omega)
 simpa using this
end
end Go.Sh

namespace Go.Sh
open Go Go.Eng
set_option maxRecDepth 100000 in
theorem Zk7 (n:Nat):Zda (n+300)=some true:=by kernel_rfl
theorem Zny {N:Nat}(hN:2000<=N):Zda N=some true:=by
 obtain ⟨n,rfl⟩:∃ n,N=n+300:=⟨N-300,by omega⟩
 exact Zk7 n
section
variable {N:Nat} {p:Z1}
theorem Zj1 (hp:ZdS p=true){fuel:Int}(h0:0<=fuel)(h1:fuel<=1999) :
  ZhR p fuel=([],[],8)∨(∃ f,ZhR p fuel=([],f,4)/\p.Periods.length≠0/\Znc p=some f/\(f.length:Int)<=fuel+1/\ZdA f/\∀ l,Ext p [] l->False)∨(∃ o,ZhR p fuel=(o,[],0)/\ZjW p [] o):=by
 have h:=VP.of hp
 unfold ZhR
 rw [ZY hp,ZX (by omega)]
 by_cases z:p.Periods.length=0
 ·rw [ZY z]
  refine .inr (.inr ⟨[],rfl,?_⟩)
  exact { pre:=List.prefix_refl _,len:=by simp [z],off:=λk hk=>by simp at hk,cl:=λi _ hi=>by simp at hi,z:=λ_=>rfl,least:=λl hx=>.inl (by
   have:=hx.len
   rw [z] at this
   exact (List.eq_nil_of_length_eq_zero this).symm) }
 rw [ZX z]
 have ht:=Zi7 (fuel:=fuel) h p.Periods.length [] [] (by simp) (λk hk=>by simp at hk)
 cases hq:srch p fuel p.Periods.length [] [] with
 | none=>exact .inl rfl
 | some q =>
  rw [hq] at ht
  cases q with
  | inl f =>
   have hm:Znc p=some f:=by
    unfold Znc
    rw [ZX z]
    exact Zfh h h1 p.Periods.length [] [] f (by simp) (by simp) (by simp) (λy hy=>by simp at hy) hq
   exact .inr (.inl ⟨f,rfl,z,hm,ZkH p.Periods.length [] [] f (by simp;omega) hq,(Zd1 h p.Periods.length [] [] f (by simp) (λy hy=>by simp at hy) (by unfold Znc at hm;rw [ZX z] at hm;exact hm)).2.2,ht⟩)
  | inr o=>exact .inr (.inr ⟨o,rfl,ht⟩)
end
end Go.Sh

namespace Go.Sh
open Go Go.Eng
section
variable {N:Nat} {p:Z1} {f:List Z3}
def ZtV (l:List Zan)(x:Int):Zan:=(l.find? λa=>decide (x<a.To)).getD a00
def shL (p:Z1)(l:List Int)(c:Nat)(fc:Z3):List Int:=if (ZtV fc.Arms (l.getD fc.Stream.toNat 0)).By = -2 then Zbs p l (-(l.getD fc.Stream.toNat 0)) l.length else l
theorem ZnP {l:List Int}(ho:Zem p l=true):l.length=p.Periods.length/\∀ k,k<l.length->0<=l.getD k 0/\l.getD k 0<p.Periods.getD k 0:=by
 obtain ⟨h1,h2⟩:=ZeC ho
 refine ⟨h1,λk hk=>?_⟩
 have:=Zbe.1 (h2 k hk)
 rw [Zj] at this
 omega
theorem ZdF (p:Z1)(l:List Int)(by_:Int)(n:Nat):(Zbs p l by_ n).length=n:=by simp [Zbs]
theorem Zkb (p:Z1)(l:List Int)(by_:Int)(n:Nat):Zbs p l by_ (n+1)=Zbs p l by_ n++[(l.getD n 0+by_)%(p.Periods.getD n 0)]:=by
 unfold Zbs
 rw [List.range_succ,List.map_append]
 rfl
theorem Zo6 {l:List Int}{by_:Int}{k:Nat}(hk:k<l.length):idx (Zbs p l by_ k++l.drop k) (k:Int)=some (l.getD k 0):=by
 rw [Zeu,Zo (by rw [ZdF];exact Nat.le_refl _),ZdF,Nat.sub_self,Zr,ZM,Zs hk,ZaW hk]
theorem Zo5 {l:List Int}{by_:Int}{k:Nat}(hk:k<l.length):(Zbs p l by_ k++l.drop k).set k ((l.getD k 0+by_)%(p.Periods.getD k 0))=Zbs p l by_ (k+1)++l.drop (k+1):=by
 rw [List.set_append_right _ _ (by rw [ZdF];exact Nat.le_refl _),ZdF,Nat.sub_self,Zhu hk,List.set_cons_zero,Zkb,List.append_assoc]
 rfl
theorem Znu {l:List Int}{by_:Int}{k:Nat}(hk:k<=l.length):(Zbs p l by_ k++l.drop k).length=l.length:=by
 rw [Zz,ZdF,List.length_drop];omega
end
end Go.Sh

namespace Go.Sh
open Go Go.Eng
theorem Zo9 {l:List Int}(h:0<l.length):idx l 0=some (l.getD 0 0):=ZgA 0 (by omega) (by omega)
section
variable {N:Nat} {p:Z1}
theorem ZjK (h:VP p){l:List Int}(ho:Zem p l=true)(hs:ZcK p l=true):Ext p [] (Zbs p l (-(l.getD 0 0)) l.length):=by
 refine Ext.of (Zjz h ho _) ?_ ?_
 ·rw [ZcS h,Zgf h,← ZcS h];exact hs
 by_cases z:0<l.length
 ·rw [ZeF z,show l.getD 0 0 + -(l.getD 0 0)=0 by omega];simp
 rw [show l.length=0 by omega];rfl
theorem Zkg (hp:VP p){l:List Int}(ho:Zem p l=true){x:Int}(h0:0<=x)(h1:x<=1000)(hN:2000<=N) :
  Za9 (λy:Int×(List Int)=>ZaG N p x y.1 y.2) N (0,l)=some (Zbs p l (-x) l.length):=by
 obtain ⟨hl,ha⟩:=ZnP ho
 have hP:=hp.len
 obtain ⟨r,hr,e⟩:=Zdp (body:=λy:Int×(List Int)=>ZaG N p x y.1 y.2) (λy=>∃ k:Nat,y.1=k/\k<=l.length/\y.2=Zbs p l (-x) k++l.drop k) (λy=>(l.length+1-y.1).toNat) (λr=>r=Zbs p l (-x) l.length) (λy hy=>by
  obtain ⟨i,m⟩:=y
  obtain ⟨k,rfl,k1,k2⟩:=hy
  simp only at k2 ⊢
  subst k2
  simp only [ZaG]
  by_cases c:k<l.length
  ·left
   have hpk:=hp.per _ (List.getElem_mem (show k<p.Periods.length by omega))
   have hpg:p.Periods.getD k 0=p.Periods[k]:=ZaW (by omega) 0
   obtain ⟨a0,a1⟩:=ha k c
   have hm:0<=p.Periods[k]*x:=Int.mul_nonneg (by omega) h0
   have hm2:p.Periods[k]*x<=240*x:=Int.mul_le_mul_of_nonneg_right (by omega) h0
   have hm3:x<=p.Periods[k]*x:=by
    have:=Int.mul_le_mul_of_nonneg_right (show 1<=p.Periods[k] by omega) h0
    omega
   rw [ZY (by rw [Znu k1];simpa using c),Zo6 c,ZO,Zd0 (show k<p.Periods.length by omega),ZO,ZO,Zbn (x:=p.Periods[k]*x) (by omega) (by omega),Zbn (x:=l.getD k 0+p.Periods[k]*x) (by omega) (by omega),Zbn (by omega) (by omega),Zb5 (by omega),ZO,ZO,Zi (by omega),ZbF (by omega)]
   have ev:(l.getD k 0+p.Periods[k]*x-x)%p.Periods[k]=(l.getD k 0+(-x))%p.Periods.getD k 0:=by
    rw [hpg,show l.getD k 0+p.Periods[k]*x-x=(l.getD k 0+(-x))+p.Periods[k]*x by omega,Int.add_mul_emod_self_left]
   rw [ev,Zj,Zo5 c]
   exact ⟨_,rfl,⟨k+1,rfl,by omega,rfl⟩,by simp only;omega⟩
  right
  obtain rfl:k=l.length:=by omega
  refine ⟨_,by rw [ZX (by rw [Znu k1];simp)],?_⟩
  simp) N (0,l) ⟨0,rfl,by omega,by simp [Zbs]⟩ (by simp only;omega)
 rw [hr,e]
theorem Zpd (a b:Int):ZbO N a b=some (if a<b then -1 else if a>b then 1 else 0):=by
 unfold ZbO Zcn
 simp only [ZO,ZU,Zf,ZW,ZV]
 split
 ·rfl
 split<;>rfl
theorem Zly {a b:List Int}(hl:a.length=b.length)(hn:a.length<1000)(hN:2000<=N)(h:ZnU a b):∃ r,ZaJ N a b=some r/\r<=0:=by
 unfold ZaJ
 obtain ⟨r,hr,e⟩:=Zdp (body:=λy:Int=>Zay N a b y) (λy=>∃ k:Nat,y=k/\k<=a.length/\∀ m,m<k->a.getD m 0=b.getD m 0) (λy=>(a.length+1-y).toNat) (λr=>r=.inl ()∨r=.inr (-1)) (λy hy=>by
  obtain ⟨k,rfl,k1,k2⟩:=hy
  simp only [Zay]
  by_cases c:k<a.length
  ·have c2:k<b.length:=by omega
   rw [ZY (by simpa using c),Zd0 c,ZO,ZX (by simpa using c2),Zd0 c2,ZO,Zpd,ZO]
   by_cases c3:a[k]=b[k]
   ·left
    rw [ZX (by rw [c3];simp),ZbF (by omega)]
    refine ⟨_,rfl,⟨k+1,rfl,by omega,λm hm=>?_⟩,by omega⟩
    by_cases e:m<k
    ·exact k2 m e
    obtain rfl:m=k:=by omega
    rw [ZaW c,ZaW c2,c3]
   right
   have hlt:a[k]<b[k]:=by
    rcases h with rfl|⟨q,q1,q2,q3⟩
    ·exact absurd rfl c3
    by_cases e:k<q
    ·have:=q3 k e
     rw [ZaW c,ZaW c2] at this
     exact absurd this c3
    by_cases e2:q<k
    ·have:=k2 q e2
     omega
    obtain rfl:q=k:=by omega
    rw [ZaW c,ZaW c2] at q2
    exact q2
   rw [ZY hlt]
   exact ⟨_,rfl,.inr rfl⟩
  right
  rw [ZX (by simpa using c)]
  exact ⟨_,rfl,.inl rfl⟩) N 0 ⟨0,rfl,by omega,λm hm=>by omega⟩ (by omega)
 rw [hr,ZO]
 rcases e with rfl|rfl
 ·simp only
  split
  ·exact ⟨_,rfl,by omega⟩
  exact ⟨_,rfl,by omega⟩
 exact ⟨_,rfl,by omega⟩
theorem ZnH (N:Nat)(p:Z1)(a:List Int):ZcV N p a=ZfJ N p a:=rfl
theorem Znh (hp:ZdS p=true){l:List Int}(ho:Zem p l=true):Zni p l=(ZcK p l,0):=by
 unfold Zni
 rw [ZY hp,ZY ho]
end
theorem solveLeast_true (d:Zbc)(some_:List Int)(hd:Zdx d)(hs:some_.length<=maxLen/\∀ x∈some_,InK .u8 x):∃ N,Zb8 N d some_=some true:=by
 refine ⟨5000,?_⟩
 have hN2:2000<=5000:=by omega
 obtain ⟨p,hp,gp⟩:=Zed hN2 hd
 have h:=VP.of gp.prob
 obtain ⟨l,hl,ol⟩:=ZiB hN2 h hs.2
 have hlen:=(ZeC ol).1
 have hg:=gp.len
 unfold Zb8
 rw [Zny hN2,ZO]
 simp only [Bool.not_true,Zf,ZW]
 rw [hp,ZO,ZhD (by omega),ZO,ZnH,hl,ZO]
 have hm:(if (decide (((List.length l:Nat):Int)>0)) then ((idx l 0).bind λe513=>((Za9 (λx:Int×(List Int)=>ZaG 5000 p e513 x.1 x.2) 5000 (0,l)).bind λo1034=>(some o1034))) else (some l))=some (Zbs p l (-(l.getD 0 0)) l.length):=by
  by_cases z:0<l.length
  ·have ha:=Zhg h ((ZeC ol).2 0 z)
   rw [ZY (by simpa using z),Zo9 z,ZO,Zkg h ol ha.1 (by omega) hN2,ZO]
  rw [ZX (by simpa using z),List.eq_nil_of_length_eq_zero (show l.length=0 by omega)]
  rfl
 rw [hm,ZO,Zjk hN2,ZO,Znh gp.prob (Zjz h ol _),ZcS h,Zgf h,← ZcS h]
 have hkey:∀ {o},ZjW p [] o->ZcK p l=true->∃ r,ZaJ 5000 o (Zbs p l (-(l.getD 0 0)) l.length)=some r/\r<=0:=λ{o} hF hs=>by
  have he:=ZjK h ol hs
  exact Zly (by rw [hF.len,he.len]) (by rw [hF.len];omega) hN2 (hF.least _ he)
 rcases Zj1 gp.prob (show (0:Int)<=200 by omega) (show (200:Int)<=1999 by omega) with e|⟨f,e,_,e1,e2,e3,e4⟩|⟨o,e,e1⟩
 ·rw [e]
  cases ZcK p l<;>rfl
 ·rw [e]
  have hns:ZcK p l=false:=Bool.eq_false_iff.2 λhs=>e4 _ (ZjK h ol hs)
  rw [hns]
  rfl
 rw [e]
 cases hs:ZcK p l with
 | false=>rfl
 | true =>
  obtain ⟨r,hr,r1⟩:=hkey e1 hs
  simp only [ZU,Bool.false_and,Bool.or_self,Zf,ZW,Bool.not_true]
  rw [ZX (by simp),ZY (by simp),hr,ZO,decide_eq_true r1]
  rfl
end Go.Sh

