/- Part of the proof. -/
import Derived.Test.YthhhjjjbpcaadaaSolveMoreSh
import Derived.Test.YthhhjjjbpcaadaaSolveMoreRd
import Derived.KernelRfl
set_option linter.all false
namespace Go.Sh
open Go Go.Eng
theorem Zbj {x:Int}(h : -9223372036854775808<=x)(h2:x<=9223372036854775807):w64 x=x:=by
 unfold w64 IntKind.wrap
 simp only [IntKind.bits,IntKind.signed]
 by_cases h0:0<=x
 ·have:x%(2 ^ 64:Int)=x:=Int.emod_eq_of_lt h0 (by omega)
  simp only [this]
  rw [ZV]
  simp;omega
 have:x%(2 ^ 64:Int)=x+2 ^ 64:=by
  rw [← Int.add_emod_right]
  exact Int.emod_eq_of_lt (by omega) (by omega)
 simp only [this]
 rw [ZW]
 ·omega
 simp;omega
theorem Zhm {σ ρ:Type}(body:σ->Option (σ⊕ρ))(m:Nat)(x:σ):Zbv body (m+1) x=match body x with
  | none=>none
  | some (.inl y)=>Zbv body m y
  | some (.inr r)=>some r:=rfl
theorem ZcT {σ ρ:Type}{body:σ->Option (σ⊕ρ)}{m:Nat}{x y:σ}(h:body x=some (.inl y)):Zbv body (m+1) x=Zbv body m y:=by rw [Zhm,h]
theorem ZbV {σ ρ:Type}{body:σ->Option (σ⊕ρ)}{m:Nat}{x:σ}{r:ρ}(h:body x=some (.inr r)):Zbv body (m+1) x=some r:=by rw [Zhm,h]
theorem ZeZ {σ ρ:Type}{body:σ->Option (σ⊕ρ)}(I:σ->Prop)(μ:σ->Nat)(Post:ρ->Prop)
  (step:∀ x,I x->(∃ y,body x=some (.inl y)/\I y/\μ y<μ x)∨(∃ r,body x=some (.inr r)/\Post r)):∀ (N:Nat) (x:σ),I x->μ x<N->∃ r,Zbv body N x=some r/\Post r
 | 0,x,_,h=>by omega
 | N+1,x,hI,h=>by
  rcases step x hI with ⟨y,h1,h2,h3⟩|⟨r,h1,h2⟩
  ·rw [ZcT h1]
   exact ZeZ I μ Post step N y h2 (by omega)
  exact ⟨r,by rw [ZbV h1],h2⟩
theorem ZeI {α:Type}(l:List α)(k:Nat):idx l (k:Int)=l[k]?:=by
 unfold idx
 rw [ZW (by omega)]
 rfl
theorem ZlL {α:Type}{l:List α}{i:Int}(h0:0<=i)(h:i.toNat<l.length):idx l i=some l[i.toNat]:=by
 unfold idx
 rw [ZW h0]
 exact Zs h
theorem Zcm {a b:Int}(h:b≠0):remI a b=some (a.tmod b):=by unfold remI;rw [ZV h]
theorem Zml {k:IntKind}{a b:Int}(h:b≠0):quoI k a b=some (k.wrap (a.tdiv b)):=by unfold quoI;rw [ZV h]
theorem Zi2 {α:Type}{l:List α}{k:Nat}(h:k<l.length):l.drop k=l[k]::l.drop (k+1):=List.drop_eq_getElem_cons h
theorem ZjU {a b:Int}(hb:0<b):(a.tmod b+b).tmod b=a%b:=by
 have h1:0<=a.tmod b+b:=by have:=Int.lt_tmod_of_pos a hb;omega
 rw [Zi h1,Int.add_emod_right]
 rw [Int.tmod_eq_emod]
 split
 ·simp
 have:(b.natAbs:Int)=b:=by omega
 rw [this]
 simp
theorem ZiW {α ρ:Type}{l:List α}{p:α->Bool}{body:Int->Option (Int⊕ρ)}{bad fin:ρ}(hstep:∀ (k:Nat) (h:k<l.length),body (k:Int)=if p l[k]=true then some (.inl ((k+1:Nat):Int)) else some (.inr bad))
  (hend:body (l.length:Int)=some (.inr fin)):∀ (n N k:Nat),l.length-k=n->k<=l.length->n<N->Zbv body N (k:Int)=some (if (l.drop k).all p then fin else bad):=by
 intro n
 induction n with
 | zero =>
  intro N k hn hk hN
  have:k=l.length:=by omega
  subst this
  cases N with
  | zero=>omega
  | succ N=>rw [ZbV hend];simp
 | succ n ih =>
  intro N k hn hk hN
  cases N with
  | zero=>omega
  | succ N =>
   have hlt:k<l.length:=by omega
   rw [Zi2 hlt,List.all_cons]
   by_cases hp:p l[k]=true
   ·rw [ZcT (by rw [hstep k hlt,ZW hp]),ih N (k+1) (by omega) (by omega) (by omega)]
    simp [hp]
   rw [ZbV (by rw [hstep k hlt,ZV hp])]
   simp [hp]
end Go.Sh

namespace Go.Sh
open Go Go.Eng
def VSpan (s:Z2):Prop:=1<=s.Period/\s.Period<=960/\0<=s.From/\s.From<s.Period/\1<=s.Long/\s.Long<=s.Period
instance (s:Z2):Decidable (VSpan s):=by unfold VSpan;infer_instance
theorem Zcv (N:Nat)(s:Z2):Zbn N s=some (if VSpan s then 0 else 330):=by
 unfold Zbn
 by_cases h:VSpan s
 ·rw [ZW h]
  unfold VSpan at h
  rw [ZV (by simp;omega),ZV (by simp;omega)]
 rw [ZV h]
 unfold VSpan at h
 by_cases h1:((decide (s.Period<1))||((decide (s.Period>960))||((decide (s.From<0))||(decide (s.From≥s.Period)))))=true
 ·rw [ZW h1]
 rw [ZV h1,ZW]
 simp at h1 ⊢
 omega
theorem Zg3 (N:Nat){a b:Int}(hb:0<b)(hb2:b<=1000000):ZcO N a b=some (a%b):=by
 unfold ZcO
 have h1:=Int.lt_tmod_of_pos a hb
 have h2:=Int.tmod_lt_of_pos a hb
 rw [Zcm (by omega),ZN,Zbj (by omega) (by omega),Zcm (by omega),ZN,ZjU hb]
theorem ZfM (M:Nat):∀ (b N a:Nat),b<N->Zbv (λx:Int×Int=>Zba M x.1 x.2) N ((a:Int),(b:Int))=some (Nat.gcd a b:Int):=by
 intro b
 induction b using Nat.strongRecOn with
 | _ b ih =>
  intro N a hN
  cases N with
  | zero=>omega
  | succ N =>
   by_cases hb:b=0
   ·subst hb
    rw [ZbV (r:=(a:Int))]
    ·simp
    simp [Zba]
   have hlt:=Nat.mod_lt a (Nat.pos_of_ne_zero hb)
   rw [ZcT (y:=((b:Int),((a%b:Nat):Int)))]
   ·rw [ih (a%b) hlt N b (by omega)]
    rw [Nat.gcd_comm a b,Nat.gcd_rec b a,Nat.gcd_comm (a%b) b]
   simp only [Zba]
   rw [ZW (by simp;omega),Zcm (by omega),ZN,Zi (by omega)]
   rfl
theorem Zeq {N:Nat}{a b:Int}(ha:0<=a)(hb:0<=b)(hN:b.toNat<N):Zci N a b=some (Nat.gcd a.toNat b.toNat:Int):=by
 unfold Zci
 have:=ZfM N b.toNat N a.toNat hN
 rw [Int.toNat_of_nonneg ha,Int.toNat_of_nonneg hb] at this
 rw [this]
 rfl
def gP (a b:Z2):Int:=(Nat.gcd a.Period.toNat b.Period.toNat:Int)
theorem ZmL {a b:Z2}(ha:1<=a.Period):0<gP a b:=by
 have:0<Nat.gcd a.Period.toNat b.Period.toNat:=Nat.gcd_pos_of_pos_left _ (by omega)
 unfold gP;omega
theorem ZnZ {a b:Z2}(ha:1<=a.Period):gP a b<=a.Period:=by
 have:=Nat.le_of_dvd (by omega:0<a.Period.toNat) (Nat.gcd_dvd_left a.Period.toNat b.Period.toNat)
 unfold gP;omega
theorem ZjB {a b:Z2}(ha:1<=a.Period):gP a b∣a.Period:=by
 have:=Int.natCast_dvd_natCast.2 (Nat.gcd_dvd_left a.Period.toNat b.Period.toNat)
 rwa [Int.toNat_of_nonneg (by omega)] at this
theorem ZiZ {a b:Z2}(hb:1<=b.Period):gP a b∣b.Period:=by
 have:=Int.natCast_dvd_natCast.2 (Nat.gcd_dvd_right a.Period.toNat b.Period.toNat)
 rwa [Int.toNat_of_nonneg (by omega)] at this
def SepD (a b:Z2)(d:Int):Prop:=a.Long<=d%gP a b/\d%gP a b<=gP a b-b.Long
instance (a b:Z2) (d:Int):Decidable (SepD a b d):=by unfold SepD;infer_instance
end Go.Sh

namespace Go.Sh
open Go Go.Eng
theorem VSpan.bounds {s:Z2}(h:VSpan s):1<=s.Period/\s.Period<=960/\0<=s.From/\s.From<s.Period/\1<=s.Long/\s.Long<=s.Period:=h
theorem Zgp {N:Nat}(hN:2000<=N){a b:Z2}(ha:VSpan a)(hb:VSpan b):Zco N a b=some (a.Long,gP a b-b.Long,gP a b):=by
 obtain ⟨a1,a2,a3,a4,a5,a6⟩:=ha
 obtain ⟨b1,b2,b3,b4,b5,b6⟩:=hb
 have hg0:0<gP a b:=ZmL a1
 have hg1:gP a b<=a.Period:=ZnZ a1
 unfold Zco
 rw [Zeq (by omega) (by omega) (by omega),ZN]
 show some (a.Long,w64 (gP a b-b.Long),gP a b)=_
 rw [Zbj (by omega) (by omega)]
theorem ZfO {N:Nat}(hN:2000<=N){a b:Z2}(ha:VSpan a)(hb:VSpan b):Zb2 N a b=some (decide (SepD a b (b.From-a.From))):=by
 have hr:=Zgp hN ha hb
 obtain ⟨a1,a2,a3,a4,a5,a6⟩:=ha
 obtain ⟨b1,b2,b3,b4,b5,b6⟩:=hb
 have hg0:0<gP a b:=ZmL a1
 have hg1:gP a b<=a.Period:=ZnZ a1
 unfold Zb2
 by_cases h:((a.Period==b.Period)&&((a.From==b.From)&&((a.Long==b.Long)&&true)))=true
 ·rw [ZW h]
  simp only [Ze,beq_iff_eq,ZS] at h
  symm
  simp only [ZQ,decide_eq_false_iff_not]
  unfold SepD
  rw [h.2.1,Int.sub_self,Int.zero_emod]
  omega
 rw [ZV h,hr]
 simp only [ZN]
 rw [Zbj (by omega) (by omega),Zg3 N hg0 (by omega)]
 simp only [ZN,ZQ]
 rw [Bool.eq_iff_iff,decide_eq_true_iff]
 simp only [Ze,ZT,SepD]
theorem ZfS {N:Nat}(hN:2000<=N)(a b:Z2):Zb4 N a b=some (if VSpan a/\VSpan b then (decide (SepD a b (b.From-a.From)),0) else (false,330)):=by
 unfold Zb4
 rw [Zcv,Zcv]
 simp only [ZN]
 by_cases ha:VSpan a
 ·by_cases hb:VSpan b
  ·simp only [ha,hb,ZX,and_self,bne_self_eq_false,Zf,ZU,ZfO hN ha hb,ZN]
  simp [ha,hb]
 simp [ha]
end Go.Sh
namespace Go.Sh
open Go Go.Eng
theorem Zeg {α:Type}{b:Nat}{l m:List α}(h:l.length+m.length<=100000)(hb:b<=100000):appI b l m=some (l++m):=by
 unfold appI
 rw [ZW]
 have:(l.length+m.length)*b<=100000*100000:=Nat.mul_le_mul h hb
 omega
def allV (l:List Z2):Bool:=l.all λs=>decide (VSpan s)
theorem ZeC {N:Nat}(hN:100<=N)(l:List Z2):Zbr N l=some (if 32<l.length then 3 else if allV l then 0 else 330):=by
 unfold Zbr
 by_cases h:32<l.length
 ·rw [ZW (by simp;omega),ZW h]
 rw [ZV (by simp;omega),ZV h]
 have:=ZiW (l:=l) (p:=λs=>decide (VSpan s)) (body:=λx:Int=>ZaL N l x) (bad:=.inr 330) (fin:=.inl ()) (λk hk=>by
  simp only [ZaL]
  rw [ZW (by simpa using hk),ZeI,Zs hk,ZN,Zcv,ZN]
  by_cases hv:VSpan l[k]
  ·simp only [hv,ZX,bne_self_eq_false,Zf,ZU,decide_true]
   rw [Zbj (by omega) (by omega)];simp
  simp [hv]) (by simp [ZaL]) l.length N 0 (by omega) (by omega) (by omega)
 rw [show ((0:Nat):Int)=0 from rfl] at this
 rw [this,ZN,List.drop_zero]
 have e:(l.all λs=>decide (VSpan s))=allV l:=rfl
 rw [e]
 cases allV l<;>rfl
def shift (b:Z2)(k:Int):Z2:=⟨b.Period,(b.From+k)%b.Period,b.Long⟩
end Go.Sh
namespace Go.Sh
open Go Go.Eng
def lcmP:List Z2->Nat
 | []=>1
 | s::l=>Nat.lcm s.Period.toNat (lcmP l)
theorem Zke:∀ {l:List Z2},(∀ s∈l,VSpan s)->0<lcmP l
 | [],_=>by decide
 | s::l,h=>by
  have h1:=(h s (by simp)).bounds
  exact Nat.lcm_pos (by omega) (Zke λt ht=>h t (by simp [ht]))
theorem ZfF:∀ {l:List Z2} {n:Nat},lcmP l∣n↔∀ s∈l,s.Period.toNat∣n
 | [],n=>by simp [lcmP]
 | s::l,n=>by
  simp only [lcmP,List.mem_cons,forall_eq_or_imp]
  rw [Nat.lcm_dvd_iff,ZfF]
theorem Zff {N:Nat}(hN:2000<=N){ps:List Int}(hps:∀ p∈ps,1<=p/\p<=960):∀ (n M k:Nat) (m:Nat),ps.length-k=n->k<=ps.length->n<M->1<=m->m<=960->ps.length<=1000 →
  ∃ r,Zbv (λx:Int×Int=>ZaR N 960 ps x.1 x.2) M ((m:Int),(k:Int))=some r ∧
   (r<=960->r=((ps.drop k).foldl (λa p=>Nat.lcm a p.toNat) m:Nat))/\(960<r->960<(ps.drop k).foldl (λa p=>Nat.lcm a p.toNat) m):=by
 have mono:∀ (l:List Int) (a:Nat),(∀ p∈l,1<=p)->0<a->a<=l.foldl (λa p=>Nat.lcm a p.toNat) a:=by
  intro l
  induction l with
  | nil=>intro a _ _;exact Nat.le_refl _
  | cons p l ih =>
   intro a hp ha
   simp only [List.foldl_cons]
   have h1:=hp p (by simp)
   have hpos:0<Nat.lcm a p.toNat:=Nat.lcm_pos ha (by omega)
   exact Nat.le_trans (Nat.le_of_dvd hpos (Nat.dvd_lcm_left _ _)) (ih _ (λq hq=>hp q (by simp [hq])) hpos)
 intro n
 induction n with
 | zero =>
  intro M k m hn hk hM hm hm2 hl
  have:k=ps.length:=by omega
  subst this
  cases M with
  | zero=>omega
  | succ M =>
   refine ⟨(m:Int),ZbV (by simp only [ZaR];rw [ZV (by simp)]),λ_=>?_,λh=>?_⟩
   ·simp
   omega
 | succ n ih =>
  intro M k m hn hk hM hm hm2 hl
  cases M with
  | zero=>omega
  | succ M =>
   have hlt:k<ps.length:=by omega
   obtain ⟨p1,p2⟩:=hps ps[k] (List.getElem_mem hlt)
   have hg:0<Nat.gcd m ps[k].toNat:=Nat.gcd_pos_of_pos_left _ (by omega)
   have hq:(m:Int).tdiv (Nat.gcd m ps[k].toNat:Int)=((m/Nat.gcd m ps[k].toNat:Nat):Int):=by
    rw [Int.tdiv_eq_ediv_of_nonneg (by omega)];rfl
   have hqle:m/Nat.gcd m ps[k].toNat<=m:=Nat.div_le_self _ _
   have hmul:((m/Nat.gcd m ps[k].toNat:Nat):Int)*ps[k]=(Nat.lcm m ps[k].toNat:Int):=by
    have e1:ps[k]=(ps[k].toNat:Int):=by omega
    have e2:Nat.lcm m ps[k].toNat=m/Nat.gcd m ps[k].toNat*ps[k].toNat:=by
     rw [Nat.lcm,Nat.mul_comm m,Nat.mul_div_assoc _ (Nat.gcd_dvd_left _ _),Nat.mul_comm]
    rw [e2,Int.natCast_mul,← e1]
   have hlcm:Nat.lcm m ps[k].toNat<=960*960:=by
    have h1:m/Nat.gcd m ps[k].toNat*ps[k].toNat<=960*960:=Nat.mul_le_mul (by omega) (by omega)
    have e2:Nat.lcm m ps[k].toNat=m/Nat.gcd m ps[k].toNat*ps[k].toNat:=by
     rw [Nat.lcm,Nat.mul_comm m,Nat.mul_div_assoc _ (Nat.gcd_dvd_left _ _),Nat.mul_comm]
    omega
   have hlpos:0<Nat.lcm m ps[k].toNat:=Nat.lcm_pos (by omega) (by omega)
   have hbody:ZaR N 960 ps (m:Int) (k:Int)=if 960<Nat.lcm m ps[k].toNat then some (.inr (Nat.lcm m ps[k].toNat:Int)) else some (.inl ((Nat.lcm m ps[k].toNat:Int),((k+1:Nat):Int))):=by
    simp only [ZaR]
    rw [ZW (by simpa using hlt),ZeI,Zs hlt,ZN,Zeq (by omega) (by omega) (by omega),ZN,Zj,Zml (by omega),ZN,hq]
    have hq0:(0:Int)<=((m/Nat.gcd m ps[k].toNat:Nat):Int):=Int.natCast_nonneg _
    have hq1:((m/Nat.gcd m ps[k].toNat:Nat):Int)<=960:=Int.ofNat_le.2 (Nat.le_trans hqle hm2)
    have e3:IntKind.i64.wrap ((m/Nat.gcd m ps[k].toNat:Nat):Int)=((m/Nat.gcd m ps[k].toNat:Nat):Int):=Zbj (Int.le_trans (by decide) hq0) (Int.le_trans hq1 (by decide))
    rw [e3,hmul,Zbj (by omega) (by omega),Zbj (by omega) (by omega)]
    by_cases hc:960<Nat.lcm m ps[k].toNat
    ·rw [ZW (by simp;omega),ZW hc]
    rw [ZV (by simp;omega),ZV hc];simp
   rw [Zi2 hlt,List.foldl_cons]
   by_cases hc:960<Nat.lcm m ps[k].toNat
   ·refine ⟨(Nat.lcm m ps[k].toNat:Int),ZbV (by rw [hbody,ZW hc]),λh=>?_,λ_=>?_⟩
    ·omega
    exact Nat.lt_of_lt_of_le hc (mono _ _ (λq hq=>(hps q (List.mem_of_mem_drop hq)).1) hlpos)
   rw [ZcT (by rw [hbody,ZV hc])]
   exact ih M (k+1) _ (by omega) (by omega) (by omega) (by omega) (by omega) hl
theorem Zho:∀ (l:List Z2) (m:Nat),(l.map Z2.Period).foldl (λa p=>Nat.lcm a p.toNat) m=Nat.lcm m (lcmP l)
 | [],m=>by simp [lcmP,Nat.lcm_one_right]
 | s::l,m=>by simp only [ZF,List.foldl_cons,lcmP];rw [Zho l,Nat.lcm_assoc]
def Zki (l:List Z2):Int×Int:=if 32<l.length then (0,3) else if allV l=true then (if lcmP l<=960 then ((lcmP l:Int),0) else (0,6)) else (0,330)
theorem Zkm {l:List Z2}(h:allV l=true):∀ s∈l,VSpan s:=by
 unfold allV at h
 rw [List.all_eq_true] at h
 exact λs hs=>by simpa using h s hs
theorem ZfQ {N:Nat}(hN:2000<=N)(l:List Z2):Zb3 N l=some (Zki l):=by
 unfold Zb3 Zki
 rw [ZeC (by omega)]
 simp only [ZN]
 by_cases h:32<l.length
 ·simp [h]
 by_cases hv:allV l=true
 ·simp only [h,hv,ZX,ZU,bne_self_eq_false,Zf]
  have hmk:ZiS 8 (l.length:Int) (l.length:Int) (0:Int)=some (List.replicate l.length 0):=by
   unfold ZiS;rw [ZW (by omega)];simp
  rw [hmk,ZN]
  have hloop:∀ (n M k:Nat),l.length-k=n->k<=l.length->n<M->Zbv (λx:Int×List Int=>ZaZ N l x.1 x.2) M ((k:Int),(l.map Z2.Period).take k++List.replicate (l.length-k) 0)=some (l.map Z2.Period):=by
   intro n
   induction n with
   | zero =>
    intro M k hn hk hM
    have:k=l.length:=by omega
    subst this
    cases M with
    | zero=>omega
    | succ M =>
     refine ZbV ?_
     simp only [ZaZ]
     rw [ZV (by simp)]
     simp [List.take_of_length_le]
   | succ n ih =>
    intro M k hn hk hM
    cases M with
    | zero=>omega
    | succ M =>
     have hlt:k<l.length:=by omega
     have hc:=ih M (k+1) (by omega) (by omega) (by omega)
     rw [ZcT (y:=(((k+1:Nat):Int),(l.map Z2.Period).take (k+1)++List.replicate (l.length-(k+1)) 0)),hc]
     simp only [ZaZ]
     have hlen:((l.map Z2.Period).take k++List.replicate (l.length-k) 0).length=l.length:=by simp;omega
     rw [ZW (by simpa using hlt),ZeI,Zs hlt,ZN,ZeI,Zs (by omega),ZN,Zbj (by omega) (by omega)]
     have hset:List.set ((l.map Z2.Period).take k++List.replicate (l.length-k) 0) k l[k].Period=(l.map Z2.Period).take (k+1)++List.replicate (l.length-(k+1)) 0:=by
      rw [List.set_append_right _ _ (by simp;omega)]
      have e1:k-((l.map Z2.Period).take k).length=0:=by simp;omega
      rw [e1,show l.length-k=(l.length-(k+1))+1 by omega,List.replicate_succ,List.set_cons_zero,List.take_succ_eq_append_getElem (by simpa using hlt)]
      simp
     simp only [Zj,hset]
     rfl
  have hc:=hloop l.length N 0 (by omega) (by omega) (by omega)
  simp only [List.take_zero,ZI,Nat.sub_zero] at hc
  rw [show ((0:Nat):Int)=0 from rfl] at hc
  rw [hc,ZN]
  have hVl:=Zkm hv
  obtain ⟨r,h1,h2,h3⟩:=Zff hN (ps:=l.map Z2.Period) (λp hp=>by
   obtain ⟨s,hs,rfl⟩:=List.mem_map.1 hp
   have:=(hVl s hs).bounds;omega) l.length N 0 1 (by simp) (by omega) (by omega) (by omega) (by omega) (by simp;omega)
  rw [List.drop_zero,Zho,Nat.lcm_one_left] at h2 h3
  have hf:Zcp N 960 (l.map Z2.Period)=some r:=by
   unfold Zcp
   have h1':Zbv (λx:Int×Int=>ZaR N 960 (l.map Z2.Period) x.1 x.2) N (1,0)=some r:=h1
   rw [h1',ZN]
  rw [hf,ZN]
  by_cases hc2:960<r
  ·rw [ZW (by simpa using hc2),ZV (by have:=h3 hc2;omega)]
  have:=h2 (by omega)
  rw [ZV (by simpa using hc2),ZW (by omega),this]
 simp [h,hv]
end Go.Sh
namespace Go.Sh
open Go Go.Eng
theorem Zli {a b:Z2}(ha:VSpan a)(hb:VSpan b)(k:Int):SepD (shift a k) (shift b k) ((shift b k).From-(shift a k).From)↔SepD a b (b.From-a.From):=by
 obtain ⟨a1,a2,a3,a4,a5,a6⟩:=ha.bounds
 obtain ⟨b1,b2,b3,b4,b5,b6⟩:=hb.bounds
 have hga:gP a b∣a.Period:=ZjB a1
 have hgb:gP a b∣b.Period:=ZiZ b1
 have hg:gP (shift a k) (shift b k)=gP a b:=rfl
 have hd:((shift b k).From-(shift a k).From)%gP a b=(b.From-a.From)%gP a b:=by
  show ((b.From+k)%b.Period-(a.From+k)%a.Period)%gP a b=_
  rw [Int.sub_emod,Int.emod_emod_of_dvd _ hgb,Int.emod_emod_of_dvd _ hga,← Int.sub_emod]
  congr 1;omega
 unfold SepD
 rw [hg,hd]
 rfl
end Go.Sh
namespace Go.Sh
open Go Go.Eng
def allB (n:Nat)(p:Nat->Bool):Bool:=(List.range n).all p
theorem Zie {n:Nat}{p:Nat->Bool}:allB n p=true↔∀ k,k<n->p k=true:=by simp [allB]
theorem Zhz {n:Nat}{p q:Nat->Bool}(h:∀ k,k<n->p k=q k):allB n p=allB n q:=by
 rw [Bool.eq_iff_iff,Zie,Zie]
 exact ⟨λhp k hk=>by rw [← h k hk];exact hp k hk,λhp k hk=>by rw [h k hk];exact hp k hk⟩
theorem ZgK {β ρ:Type}{n:Nat}{p:Nat->Bool}{f:β->Nat->β}{body:Int×β->Option ((Int×β)⊕ρ)}{bad:ρ}{fin:β->ρ}(I:Nat->β->Prop)
  (hstep:∀ k b,k<n->I k b->body ((k:Int),b)=if p k=true then some (.inl (((k+1:Nat):Int),f b k)) else some (.inr bad)) (hI:∀ k b,k<n->I k b->p k=true->I (k+1) (f b k))
  (hend:∀ b,I n b->body ((n:Int),b)=some (.inr (fin b))) {N:Nat} (hN:n<N) {b0:β} (h0:I 0 b0):Zbv body N (0,b0)=some (if allB n p then fin ((List.range n).foldl f b0) else bad)/\(allB n p=true->I n ((List.range n).foldl f b0)):=by
 have key:∀ (m N k:Nat) (b:β),n-k=m->k<=n->m<N->I k b->Zbv body N ((k:Int),b)=some (if (List.range' k m).all p then fin ((List.range' k m).foldl f b) else bad)/\((List.range' k m).all p=true->I n ((List.range' k m).foldl f b)):=by
  intro m
  induction m with
  | zero =>
   intro N k b h1 h2 h3 hb
   obtain rfl:k=n:=by omega
   cases N with
   | zero=>omega
   | succ N=>exact ⟨by rw [ZbV (hend b hb)];rfl,λ_=>hb⟩
  | succ m ih =>
   intro N k b h1 h2 h3 hb
   cases N with
   | zero=>omega
   | succ N =>
    rw [List.range'_succ,List.all_cons,List.foldl_cons]
    by_cases hp:p k=true
    ·obtain ⟨i1,i2⟩:=ih N (k+1) (f b k) (by omega) (by omega) (by omega) (hI k b (by omega) hb hp)
     rw [hp,Bool.true_and]
     exact ⟨by rw [ZcT (by rw [hstep k b (by omega) hb,ZW hp]),i1],i2⟩
    refine ⟨?_,λh=>?_⟩
    ·rw [ZbV (by rw [hstep k b (by omega) hb,ZV hp])];simp [hp]
    simp [hp] at h
 obtain ⟨h1,h2⟩:=key n N 0 b0 (by omega) (by omega) hN h0
 rw [← List.range_eq_range'] at h1 h2
 exact ⟨h1,h2⟩
theorem Zb1 {n:Nat}(h:n<1000000):w64 ((n:Int)+1)=((n+1:Nat):Int):=by rw [Zbj (by omega) (by omega)];omega
theorem Zd1 {α:Type}{l:List α}{k:Nat}(h:k<l.length):idx l (k:Int)=some l[k]:=by rw [ZeI,Zs h]
theorem Zh6 {α:Type}{l:List α}{i:Int}(d:α)(h0:0<=i)(h:i<l.length):idx l i=some (l.getD i.toNat d):=by
 rw [ZlL h0 (by omega)]
 simp [Zm,Zs (show i.toNat<l.length by omega)]
theorem Zcf {α:Type}{l:List α}{k:Nat}(h:k<l.length)(d:α):l.getD k d=l[k]:=by simp [Zm,h]
end Go.Sh

namespace Go.Sh
open Go Go.Eng
def mkS (p:Int):Z2:=⟨p,0,1⟩
def perB (p:Int):Bool:=decide (1<=p)&&decide (p<=240)
def lcmL (P:List Int):Nat:=lcmP (P.map mkS)
def perU (P:List Int)(u:Zai):Int:=P.getD u.Stream.toNat 0
def useB (P:List Int)(u:Zai):Bool:=decide (0<=u.Stream/\u.Stream<(P.length:Int)/\0<=u.Port/\u.Port<48/\0<=u.From/\u.From<perU P u/\1<=u.Long/\u.Long<=perU P u)
def ZdR (p:ZZ):Bool:=decide (p.Periods.length<=12)&&decide (p.Uses.length<=192)&&p.Periods.all perB&&p.Uses.all (useB p.Periods)&&decide (lcmL p.Periods<=960)
theorem Zf0 {p:Int}:perB p=true↔1<=p/\p<=240:=by simp [perB]
theorem Zkl {P:List Int}(h:P.all perB=true):allV (P.map mkS)=true:=by
 unfold allV
 rw [List.all_eq_true] at h ⊢
 intro s hs
 obtain ⟨p,hp,rfl⟩:=List.mem_map.1 hs
 have:=Zf0.1 (h p hp)
 rw [ZT]
 show 1<=p/\p<=960/\(0:Int)<=0/\(0:Int)<p/\(1:Int)<=1/\(1:Int)<=p
 omega
theorem ZhW {N:Nat}(hN:2000<=N){P:List Int}(hl:P.length<=1000):ZcD N P=some (Zki (P.map mkS)):=by
 unfold ZcD
 have hmk:ZiS 24 (P.length:Int) (P.length:Int) (Z2.mk 0 0 0)=some (List.replicate P.length (Z2.mk 0 0 0)):=by
  unfold ZiS;rw [ZW (by omega)];simp
 rw [hmk,ZN]
 have hloop:∀ (n M k:Nat),P.length-k=n->k<=P.length->n<M->Zbv (λx:Int×List Z2=>Zbo N P x.1 x.2) M ((k:Int),(P.map mkS).take k++List.replicate (P.length-k) (Z2.mk 0 0 0))=some (P.map mkS):=by
  intro n
  induction n with
  | zero =>
   intro M k hn hk hM
   have:k=P.length:=by omega
   subst this
   cases M with
   | zero=>omega
   | succ M =>
    refine ZbV ?_
    simp only [Zbo]
    rw [ZV (by simp)]
    simp [List.take_of_length_le]
  | succ n ih =>
   intro M k hn hk hM
   cases M with
   | zero=>omega
   | succ M =>
    have hlt:k<P.length:=by omega
    have hc:=ih M (k+1) (by omega) (by omega) (by omega)
    rw [ZcT (y:=(((k+1:Nat):Int),(P.map mkS).take (k+1)++List.replicate (P.length-(k+1)) (Z2.mk 0 0 0))),hc]
    simp only [Zbo]
    have hlen:((P.map mkS).take k++List.replicate (P.length-k) (Z2.mk 0 0 0)).length=P.length:=by simp;omega
    rw [ZW (by simpa using hlt),ZeI,Zs hlt,ZN,ZeI,Zs (by omega),ZN,Zbj (by omega) (by omega)]
    have hset:List.set ((P.map mkS).take k++List.replicate (P.length-k) (Z2.mk 0 0 0)) k (mkS P[k])=(P.map mkS).take (k+1)++List.replicate (P.length-(k+1)) (Z2.mk 0 0 0):=by
     rw [List.set_append_right _ _ (by simp;omega)]
     have e1:k-((P.map mkS).take k).length=0:=by simp;omega
     rw [e1,show P.length-k=(P.length-(k+1))+1 by omega,List.replicate_succ,List.set_cons_zero,List.take_succ_eq_append_getElem (by simpa using hlt)]
     simp
    simp only [Zj]
    rw [show (Z2.mk P[k] 0 1)=mkS P[k] from rfl,hset]
    rfl
 have hc:=hloop P.length N 0 (by omega) (by omega) (by omega)
 simp only [List.take_zero,ZI,Nat.sub_zero] at hc
 rw [show ((0:Nat):Int)=0 from rfl] at hc
 rw [hc,ZN,ZfQ hN,ZN]
theorem Zmx {P:List Int}(h:P.all perB=true):0<lcmL P:=Zke (Zkm (Zkl h))
theorem ZiV {P:List Int}{n:Nat}:lcmL P∣n↔∀ p∈P,p.toNat∣n:=by
 unfold lcmL
 rw [ZfF]
 simp [mkS]
theorem Zgx {N:Nat}(hN:2000<=N){P:List Int}(hl:P.length<=12)(h:P.all perB=true):ZcD N P=some (if lcmL P<=960 then ((lcmL P:Int),0) else (0,6)):=by
 rw [ZhW hN (by omega)]
 unfold Zki
 rw [ZV (by simp;omega),ZW (Zkl h)]
 rfl
theorem Zdn {α ρ:Type}{l:List α}{p:α->Bool}{body:Int->Option (Int⊕ρ)}{bad fin:ρ}(hstep:∀ (k:Nat) (h:k<l.length),body (k:Int)=if p l[k]=true then some (.inl ((k+1:Nat):Int)) else some (.inr bad))
  (hend:body (l.length:Int)=some (.inr fin)) {N:Nat} (hN:l.length<N):Zbv body N 0=some (if l.all p=true then fin else bad):=by
 have:=ZiW hstep hend l.length N 0 (by omega) (by omega) hN
 rw [show ((0:Nat):Int)=0 from rfl] at this
 rw [this,List.drop_zero]
theorem ZlK {P:List Int}{u:Zai}(h0:0<=u.Stream)(h1:u.Stream<(P.length:Int)):idx P u.Stream=some (perU P u):=Zh6 0 h0 h1
theorem ZeL {P:List Int}{u:Zai}:useB P u=true↔0<=u.Stream/\u.Stream<(P.length:Int)/\0<=u.Port/\u.Port<48/\0<=u.From/\u.From<perU P u/\1<=u.Long/\u.Long<=perU P u:=by simp [useB]
theorem ZeU {N:Nat}(hN:2000<=N)(p:ZZ):ZcE N p=some (if ZdR p=true then 0 else 340):=by
 unfold ZcE ZdR
 by_cases h1:p.Periods.length<=12
 ·by_cases h2:p.Uses.length<=192
  ·rw [ZV (by simp;omega)]
   simp only [h1,h2,decide_true,Bool.true_and]
   rw [Zdn (l:=p.Periods) (p:=perB) (bad:=.inr 340) (fin:=.inl ()) (λk hk=>?_) (by simp [ZbI]) (by omega)]
   ·cases hP:p.Periods.all perB with
    | false=>simp
    | true =>
     simp only [ZX,ZN,Bool.true_and]
     rw [Zgx hN h1 hP,ZN]
     by_cases hc:lcmL p.Periods<=960
     ·rw [ZW hc]
      simp only [bne_self_eq_false,Zf,ZU]
      rw [Zdn (l:=p.Uses) (p:=useB p.Periods) (bad:=.inr 340) (fin:=.inl ()) (λk hk=>?_) (by simp [ZbH]) (by omega)]
      ·cases hU:p.Uses.all (useB p.Periods) with
       | false=>simp
       | true=>simp [hc]
      simp only [ZbH]
      rw [ZW (by simpa using hk),Zd1 hk,ZN]
      have hw:w64 ((k:Int)+1)=((k+1:Nat):Int):=Zb1 (by omega)
      rw [hw]
      by_cases hc:0<=p.Uses[k].Stream/\p.Uses[k].Stream<(p.Periods.length:Int)/\0<=p.Uses[k].Port/\p.Uses[k].Port<48
      ·obtain ⟨c1,c2,c3,c4⟩:=hc
       rw [ZV (by simp;omega),ZlK c1 c2]
       simp only [ZN]
       by_cases hu:useB p.Periods p.Uses[k]=true
       ·obtain ⟨_,_,_,_,u1,u2,u3,u4⟩:=ZeL.1 hu
        rw [ZV (by simp;omega),ZW hu]
       have hn:¬ (0<=p.Uses[k].From/\p.Uses[k].From<perU p.Periods p.Uses[k]/\1<=p.Uses[k].Long/\p.Uses[k].Long<=perU p.Periods p.Uses[k]):=λq=>hu (ZeL.2 ⟨c1,c2,c3,c4,q⟩)
       rw [ZV hu,ZW (by simp;omega)]
      have hu:¬ useB p.Periods p.Uses[k]=true:=λq=>hc (by obtain ⟨a,b,c,d,_⟩:=ZeL.1 q;exact ⟨a,b,c,d⟩)
      rw [ZW (by simp;omega),ZV hu]
     rw [ZV hc];simp [hc]
   simp only [ZbI]
   rw [ZW (by simpa using hk),Zd1 hk]
   simp only [ZN]
   rw [Zb1 (by omega)]
   by_cases c:perB p.Periods[k]=true
   ·have:=Zf0.1 c
    rw [ZV (by simp;omega),ZW c]
   rw [ZW,ZV c]
   simp [perB] at c ⊢;omega
  rw [ZW (by simp;omega)];simp [h2]
 rw [ZW (by simp;omega)];simp [h1]
theorem ZiF {p:ZZ}:ZdR p=true↔p.Periods.length<=12/\p.Uses.length<=192/\p.Periods.all perB=true/\p.Uses.all (useB p.Periods)=true/\lcmL p.Periods<=960:=by
 unfold ZdR
 simp only [Ze,ZT]
 constructor
 ·rintro ⟨⟨⟨⟨a,b⟩,c⟩,d⟩,e⟩;exact ⟨a,b,c,d,e⟩
 rintro ⟨a,b,c,d,e⟩;exact ⟨⟨⟨⟨a,b⟩,c⟩,d⟩,e⟩
end Go.Sh
namespace Go.Sh
open Go Go.Eng
structure VP (p:ZZ):Prop where
 len:p.Periods.length<=12
 uses:p.Uses.length<=192
 per:∀ q∈p.Periods,1<=q/\q<=240
 use:∀ u∈p.Uses,0<=u.Stream/\u.Stream<(p.Periods.length:Int)/\0<=u.Port/\u.Port<48/\0<=u.From/\u.From<perU p.Periods u/\1<=u.Long/\u.Long<=perU p.Periods u
 lcm:lcmL p.Periods<=960
 lpos:0<lcmL p.Periods
theorem VP.of {p:ZZ}(h:ZdR p=true):VP p:=by
 obtain ⟨h1,h2,h3,h4,h5⟩:=ZiF.1 h
 exact ⟨h1,h2,λq hq=>Zf0.1 (List.all_eq_true.1 h3 q hq),λu hu=>ZeL.1 (List.all_eq_true.1 h4 u hu),h5,Zmx h3⟩
theorem Zm1 {P:List Int}{u:Zai}(h0:0<=u.Stream)(h1:u.Stream<(P.length:Int)):perU P u∈P:=by
 unfold perU
 rw [Zcf (by omega)]
 exact List.getElem_mem _
theorem VP.peru {p:ZZ}(h:VP p){u:Zai}(hu:u∈p.Uses):1<=perU p.Periods u/\perU p.Periods u<=240:=by
 obtain ⟨a,b,_⟩:=h.use u hu
 exact h.per _ (Zm1 a b)
def ZcI (p:ZZ)(u:Zai)(x:Int):Z2:=⟨perU p.Periods u,(u.From+x)%perU p.Periods u,u.Long⟩
def u0:Zai:=⟨0,0,0,0⟩
theorem VP.vspan {p:ZZ}(h:VP p){u:Zai}(hu:u∈p.Uses)(x:Int):VSpan (ZcI p u x):=by
 obtain ⟨_,_,_,_,_,_,h1,h2⟩:=h.use u hu
 obtain ⟨h3,h4⟩:=h.peru hu
 have h5:=Int.emod_nonneg (u.From+x) (show perU p.Periods u≠0 by omega)
 have h6:=Int.emod_lt_of_pos (u.From+x) (show 0<perU p.Periods u by omega)
 show 1<=perU p.Periods u/\perU p.Periods u<=960/\0<=(u.From+x)%perU p.Periods u/\(u.From+x)%perU p.Periods u<perU p.Periods u/\1<=u.Long/\u.Long<=perU p.Periods u
 omega
theorem VP.rem {p:ZZ}(h:VP p){u:Zai}(hu:u∈p.Uses){x:Int}(h0:0<=x)(h1:x<=1000000):remI (w64 (u.From+x)) (perU p.Periods u)=some ((u.From+x)%perU p.Periods u):=by
 obtain ⟨_,_,_,_,h5,h6,h7,h8⟩:=h.use u hu
 obtain ⟨h3,h4⟩:=h.peru hu
 rw [Zbj (by omega) (by omega),Zcm (by omega),Zi (by omega)]
theorem ZdH (N:Nat){p:ZZ}(h:VP p){u:Zai}(hu:u∈p.Uses){x:Int}(h0:0<=x)(h1:x<=1000000):ZbG N p u x=some (ZcI p u x):=by
 obtain ⟨a,b,_⟩:=h.use u hu
 unfold ZbG
 rw [ZlK a b,ZN,h.rem hu h0 h1,ZN]
 rfl
def offB (p:ZZ)(i x:Int):Bool:=decide (0<=i/\i<(p.Periods.length:Int)/\0<=x/\x<p.Periods.getD i.toNat 0)
theorem Zbp {p:ZZ}{i x:Int}:offB p i x=true↔0<=i/\i<(p.Periods.length:Int)/\0<=x/\x<p.Periods.getD i.toNat 0:=by simp [offB]
theorem Zes (N:Nat){p:ZZ}{i x:Int}(h0:0<=i)(h1:i<(p.Periods.length:Int)):Zcj N p i x=some (offB p i x):=by
 unfold Zcj
 by_cases hx:x≥0
 ·rw [ZW (by simpa using hx),Zh6 0 h0 h1]
  simp only [ZN]
  congr 1
  rw [Bool.eq_iff_iff,Zbp]
  simp
  omega
 rw [ZV (by simpa using hx),ZN]
 congr 1
 symm
 rw [Bool.eq_false_iff]
 intro q
 have:=Zbp.1 q
 omega
def hitB (p:ZZ)(i a j b:Int)(k m:Nat):Bool :=
 decide (k≠m)&&(((p.Uses.getD k u0).Stream==i)&&(((p.Uses.getD m u0).Stream==j)&&(((p.Uses.getD k u0).Port==(p.Uses.getD m u0).Port) &&
  !(decide (SepD (ZcI p (p.Uses.getD k u0) a) (ZcI p (p.Uses.getD m u0) b) ((ZcI p (p.Uses.getD m u0) b).From-(ZcI p (p.Uses.getD k u0) a).From))))))
def ZcP (p:ZZ)(i a j b:Int):Bool := !(allB p.Uses.length λk=>allB p.Uses.length λm => !(hitB p i a j b k m))
theorem Zmi {s:Z2}(hs:VSpan s):¬ SepD s s (s.From-s.From):=by
 have:=hs.bounds
 unfold SepD
 simp
 omega
theorem ZmP {u v:Zai}(h:(((u.Stream==v.Stream)&&((u.Port==v.Port)&&((u.From==v.From)&&((u.Long==v.Long)&&true))))=true)):u=v:=by
 obtain ⟨a,b,c,d⟩:=u
 obtain ⟨a',b',c',d'⟩:=v
 simp at h
 obtain ⟨rfl,rfl,rfl,rfl⟩:=h
 rfl
theorem ZdI {N:Nat}(hN:2000<=N){p:ZZ}(h:VP p){i a j b:Int}(ha:0<=a)(ha2:a<=1000)(hb:0<=b)(hb2:b<=1000)(hij:i=j->a=b):Zb5 N p i a j b=some (ZcP p i a j b):=by
 have hl:=h.uses
 unfold Zb5 Zd7
 simp only [ZN]
 have round:∀ k m:Nat,∀ (hk:k<p.Uses.length) (hm:m<p.Uses.length),p.Uses[k].Stream=i->p.Uses[m].Stream=j →
   ZaV N p a b false p.Uses[k] p.Uses[m]=some (if SepD (ZcI p p.Uses[k] a) (ZcI p p.Uses[m] b) ((ZcI p p.Uses[m] b).From-(ZcI p p.Uses[k] a).From) then (false,0) else (true,1)):=by
  intro k m hk hm e1 e2
  unfold ZaV
  have hv1:=h.vspan (List.getElem_mem hk) a
  have hv2:=h.vspan (List.getElem_mem hm) b
  by_cases c:((p.Uses[k].Stream==p.Uses[m].Stream)&&((p.Uses[k].Port==p.Uses[m].Port)&&((p.Uses[k].From==p.Uses[m].From)&&((p.Uses[k].Long==p.Uses[m].Long)&&true))))=true
  ·rw [ZW c]
   have e:=ZmP c
   have hab:a=b:=hij (by rw [← e1,← e2,e])
   subst hab
   rw [← e,ZV (Zmi hv1)]
  have hA:=ZfS hN (ZcI p p.Uses[k] a) (ZcI p p.Uses[m] b)
  rw [ZW ⟨hv1,hv2⟩] at hA
  rw [ZV c,ZdH N h (List.getElem_mem hk) ha (by omega),ZN,ZdH N h (List.getElem_mem hm) hb (by omega),ZN,hA,ZN]
  by_cases s:SepD (ZcI p p.Uses[k] a) (ZcI p p.Uses[m] b) ((ZcI p p.Uses[m] b).From-(ZcI p p.Uses[k] a).From)
  ·simp [s]
  simp [s]
 have loop:Zcq N (λ(s:Bool×Nat) (x16:Zai) (x17:Zai)=>Zf9 (λv:Bool=>ZaV N p a b v x16 x17) s) p i j (false,0)=some (if ZcP p i a j b=true then (true,1) else (false,0)):=by
  unfold Zcq
  rw [(ZgK (n:=p.Uses.length) (p:=λk=>allB p.Uses.length λm => !(hitB p i a j b k m)) (f:=λs _=>s) (bad:=.inr (true,1)) (fin:=λs=>.inl s) (λ_ s=>s=(false,0)) (λk s hk hs=>?_) (λ_ s _ hs _=>hs) (λs _=>by simp [Zbg]) (N:=N) (by omega) rfl).1]
  ·unfold ZcP
   have hf:∀ (l:List Nat),l.foldl (λ(s:Bool×Nat) _=>s) (false,0)=(false,0):=by
    intro l;induction l with
    | nil=>rfl
    | cons x l ih=>simpa using ih
   rw [hf]
   cases allB p.Uses.length λk=>allB p.Uses.length λm => !(hitB p i a j b k m)<;>rfl
  subst hs
  simp only [Zbg]
  have hw:w64 ((k:Int)+1)=((k+1:Nat):Int):=Zb1 (by omega)
  rw [ZW (by simpa using hk),Zd1 hk,ZN,hw]
  by_cases c1:p.Uses[k].Stream=i
  ·rw [ZV (by simpa using c1)]
   rw [(ZgK (n:=p.Uses.length) (p:=λm => !(hitB p i a j b k m)) (f:=λs _=>s) (bad:=.inr (true,1)) (fin:=λs=>.inl s) (λ_ s=>s=(false,0)) (λm s hm hs=>?_) (λ_ s _ hs _=>hs) (λs _=>by simp [Zbf]) (N:=N) (by omega) rfl).1]
   ·have hf:∀ (l:List Nat),l.foldl (λ(s:Bool×Nat) _=>s) (false,0)=(false,0):=by
     intro l;induction l with
     | nil=>rfl
     | cons x l ih=>simpa using ih
    rw [hf]
    cases allB p.Uses.length λm => !(hitB p i a j b k m)<;>rfl
   subst hs
   simp only [Zbf]
   have hw2:w64 ((m:Int)+1)=((m+1:Nat):Int):=Zb1 (by omega)
   rw [ZW (by simpa using hm),Zd1 hm,ZN,hw2]
   unfold hitB
   rw [Zcf hk,Zcf hm]
   by_cases c0:k=m
   ·subst c0;simp
   have c0':((m:Int)==(k:Int))=false:=by simp;omega
   rw [c0']
   simp only [Zf,ZU]
   by_cases c2:p.Uses[m].Stream=j
   ·rw [ZV (by simpa using c2),ZN]
    by_cases c3:p.Uses[k].Port=p.Uses[m].Port
    ·rw [ZV (by simp [c3])]
     unfold Zf9
     simp only [ZX]
     rw [round k m hk hm c1 c2]
     simp only [c0,c1,c2,c3,ne_eq,not_false_eq_true,decide_true,Bool.true_and,beq_self_eq_true,Bool.not_not]
     by_cases s:SepD (ZcI p p.Uses[k] a) (ZcI p p.Uses[m] b) ((ZcI p p.Uses[m] b).From-(ZcI p p.Uses[k] a).From)
     ·simp [s]
     simp [s]
    rw [ZW (by simp;exact λq=>c3 q.symm)]
    simp [c3]
   rw [ZW (by simpa using c2),ZN]
   simp [c2]
  rw [ZW (by simpa using c1)]
  have:(allB p.Uses.length λm => !(hitB p i a j b k m))=true:=by
   rw [Zie]
   intro m hm
   unfold hitB
   rw [Zcf hk]
   simp [c1]
  rw [this,ZW rfl]
 rw [loop,ZN]
 cases ZcP p i a j b<;>rfl
def argB (p:ZZ)(i a j b:Int):Bool:=offB p i a&&offB p j b && !(decide (i=j)&&decide (a≠b))
def ZcV (p:ZZ)(i a j b:Int):Bool×Int:=if ZdR p=true then (if argB p i a j b=true then (ZcP p i a j b,0) else (false,2)) else (false,340)
theorem Zka {p:ZZ}(h:VP p){i x:Int}(ho:offB p i x=true):0<=x/\x<240:=by
 obtain ⟨a,b,c,d⟩:=Zbp.1 ho
 rw [Zcf (by omega)] at d
 have:=h.per _ (List.getElem_mem (show i.toNat<p.Periods.length by omega))
 omega
theorem ZfW {N:Nat}(hN:2000<=N)(p:ZZ)(i a j b:Int):Zb6 N p i a j b=some (ZcV p i a j b):=by
 unfold Zb6 ZcV
 rw [ZeU hN,ZN]
 cases hp:ZdR p with
 | false=>rfl
 | true =>
  have h:=VP.of hp
  simp only [ZX,bne_self_eq_false,Zf,ZU]
  by_cases c1:0<=i/\i<(p.Periods.length:Int)/\0<=j/\j<(p.Periods.length:Int)
  ·obtain ⟨i1,i2,j1,j2⟩:=c1
   rw [ZV (by simp;omega),Zes N i1 i2,Zes N j1 j2]
   simp only [ZN]
   unfold argB
   cases o1:offB p i a with
   | false=>rfl
   | true =>
    cases o2:offB p j b with
    | false=>rfl
    | true =>
     simp only [Bool.not_true,Zf,ZU,Bool.true_and]
     have b1:=Zka h o1
     have b2:=Zka h o2
     by_cases c:i=j
     ·by_cases d:a=b
      ·rw [ZdI hN h b1.1 (by omega) b2.1 (by omega) (λ_=>d)]
       simp [c,d]
      simp [c,d]
     rw [ZdI hN h b1.1 (by omega) b2.1 (by omega) (λq=>absurd q c)]
     simp [c]
  rw [ZW (by simp;omega)]
  have:argB p i a j b=false:=by
   unfold argB
   rw [Bool.eq_false_iff]
   intro q
   simp only [Ze] at q
   have q1:=Zbp.1 q.1.1
   have q2:=Zbp.1 q.1.2
   omega
  rw [this];rfl
end Go.Sh

namespace Go.Sh
open Go Go.Eng
def upF {σ:Type}(step:Nat->σ->Option σ):Nat->σ->Option σ
 | 0,s=>some s
 | n+1,s=>(upF step n s).bind (step n)
section
variable {N:Nat} {p:ZZ} {f:List Z1}
def ZmZ (nP len c:Int)(a:Zal):Bool :=
 if a.By = -1 then decide (a.To=w64 (a.From+1)/\c<a.Next/\a.Next<len)
 else if a.Next=0 then (if a.By = -2 then decide (c=0/\a.From≠0) else decide (0<=a.By/\a.By<nP)) else false
def ZrM (nP len c per at_:Int)(a:Zal):Bool:=decide (a.From=at_/\a.From<a.To/\a.To<=per)&&ZmZ nP len c a
def Znd (nP len c per:Int)(l:List Zal)(k:Nat)(at_:Int):Option Int:=(l[k]?).bind λa=>if ZrM nP len c per at_ a=true then some a.To else none
def ZrL (nP len c per:Int)(l:List Zal):Bool:=match upF (Znd nP len c per l) l.length 0 with
 | some e=>e==per
 | none=>false
def Zm9 (p:ZZ)(f:List Z1)(c:Nat):Bool:=match f[c]? with
 | some x=>decide (0<=x.Stream/\x.Stream<(p.Periods.length:Int))&&ZrL p.Periods.length f.length c (p.Periods.getD x.Stream.toNat 0) x.Arms
 | none=>false
end
end Go.Sh

namespace Go.Sh
open Go Go.Eng
section
variable {N:Nat} {p:ZZ} {f:List Z1}
def bump (l:List Int)(a:Zal):List Int:=if a.By = -1 then l.set a.Next.toNat (w64 (l.getD a.Next.toNat 0+1)) else l
def ZrK (f:List Z1)(k:Nat)(l:List Int):List Int:=match f[k]? with
 | some x=>x.Arms.foldl bump l
 | none=>l
end
end Go.Sh

namespace Go.Sh
open Go Go.Eng
section
variable {N:Nat} {p:ZZ} {f:List Z1}
def ZgY (p:ZZ)(f:List Z1)(k:Nat)(l:List Int):Option (List Int):=if Zm9 p f k=true then some (ZrK f k l) else none
end
end Go.Sh

namespace Go.Sh
open Go Go.Eng
def Zio:List Int:=[4,6,8,12,3,5,10,24]
theorem ZhL:∀ x∈Zio,3<=x/\x<=24/\x.toNat∣120:=by decide
structure GP (p:ZZ):Prop where
 prob:ZdR p=true
 len:p.Periods.length<=5
 uses:p.Uses.length<=12
 tab:∀ x∈p.Periods,x∈Zio
 port:∀ u∈p.Uses,u.Port<4
theorem Zja {α:Type}{b:Nat}{l:List α}{x:α}(hl:l.length<=1000)(hb:b<=1000):appI b l [x]=some (l++[x]):=by
 refine Zeg ?_ (by omega)
 simp;omega
theorem ZdL {N:Nat}(hN:2000<=N){d:Za4}(hd:Zdd d):∃ p,Za3 N d=some p/\GP p:=by
 obtain ⟨⟨_,d1⟩,⟨_,d2⟩⟩:=hd
 unfold Za3
 obtain ⟨P,hP,P1,P2⟩:=ZeZ (body:=λx:Int×(List Int)=>ZaH N d x.1 x.2) (λx=>0<=x.1/\x.1<=5/\(x.2.length:Int)=x.1/\∀ q∈x.2,q∈Zio) (λx=>(5-x.1).toNat) (λl=>l.length<=5/\∀ q∈l,q∈Zio) (λx hx=>by
  obtain ⟨i,l⟩:=x
  obtain ⟨i0,i1,i2,i3⟩:=hx
  simp only at i0 i1 i2 i3
  simp only [ZaH]
  by_cases c:i<(d.Periods.length:Int)/\i<5
  ·left
   obtain ⟨k,rfl⟩:∃ k:Nat,i=k:=⟨i.toNat,by omega⟩
   have hk:k<d.Periods.length:=by omega
   have hb:0<=d.Periods[k]/\d.Periods[k]<=255:=(d1 _ (List.getElem_mem hk)).u8
   have hm0:=Int.emod_nonneg d.Periods[k] (show (8:Int)≠0 by decide)
   have hm1:=Int.emod_lt_of_pos d.Periods[k] (show (0:Int)<8 by decide)
   have ht:(d.Periods[k]%8).toNat<Zio.length:=by simp [Zio];omega
   refine ⟨(((k+1:Nat):Int),l++[Zio[(d.Periods[k]%8).toNat]]),?_,⟨by omega,by omega,by simp;omega,λq hq=>?_⟩,by omega⟩
   ·rw [ZW (by simp;omega),Zd1 hk,ZN,Zi hb.1,show ([4,6,8,12,3,5,10,24]:List Int)=Zio from rfl,ZlL hm0 ht,ZN,Zja (by omega) (by omega),ZN,Zb1 (by omega)]
   rcases List.mem_append.1 hq with q1|q1
   ·exact i3 q q1
   simp only [ZH] at q1
   subst q1
   exact List.getElem_mem ht
  right
  refine ⟨l,?_,by omega,i3⟩
  rw [ZV (by simp;omega)]) N (0,[]) ⟨by omega,by omega,rfl,by simp⟩ (by simp;omega)
 rw [hP,ZN]
 have hper:P.all perB=true:=List.all_eq_true.2 λq hq=>by
  have:=ZhL q (P2 q hq)
  exact Zf0.2 (by omega)
 obtain ⟨U,hU,U1,U2⟩:=ZeZ (body:=λx:Int×(List Zai)=>ZaG N d P x.1 x.2) (λx=>0<=x.1/\x.1<=12/\(x.2.length:Int)=x.1/\∀ u∈x.2,useB P u=true/\u.Port<4) (λx=>(12-x.1).toNat) (λl=>l.length<=12/\∀ u∈l,useB P u=true/\u.Port<4) (λx hx=>by
  obtain ⟨i,l⟩:=x
  obtain ⟨i0,i1,i2,i3⟩:=hx
  simp only at i0 i1 i2 i3
  simp only [ZaG]
  by_cases c:i<(d.Uses.length:Int)/\i<12/\0<P.length
  ·left
   obtain ⟨c1,c2,c3⟩:=c
   obtain ⟨k,rfl⟩:∃ k:Nat,i=k:=⟨i.toNat,by omega⟩
   have hk:k<d.Uses.length:=by omega
   obtain ⟨b0,b1,b2,b3⟩:=d2 _ (List.getElem_mem hk)
   have b0:0<=d.Uses[k].x0/\d.Uses[k].x0<=255:=b0.u8
   have b1:0<=d.Uses[k].x1/\d.Uses[k].x1<=255:=b1.u8
   have b2:0<=d.Uses[k].x2/\d.Uses[k].x2<=255:=b2.u8
   have b3:0<=d.Uses[k].x3/\d.Uses[k].x3<=255:=b3.u8
   have s0:=Int.emod_nonneg d.Uses[k].x0 (show (P.length:Int)≠0 by omega)
   have s1:=Int.emod_lt_of_pos d.Uses[k].x0 (show 0<(P.length:Int) by omega)
   have hn:(d.Uses[k].x0%(P.length:Int)).toNat<P.length:=by omega
   obtain ⟨n,en⟩:∃ n,n=P[(d.Uses[k].x0%(P.length:Int)).toNat]:=⟨_,rfl⟩
   have hn3:=ZhL n (P2 n (by rw [en];exact List.getElem_mem hn))
   have f0:=Int.emod_nonneg d.Uses[k].x2 (show n≠0 by omega)
   have f1:=Int.emod_lt_of_pos d.Uses[k].x2 (show 0<n by omega)
   have g0:=Int.emod_nonneg d.Uses[k].x3 (show n≠0 by omega)
   have g1:=Int.emod_lt_of_pos d.Uses[k].x3 (show 0<n by omega)
   have g2:=Int.emod_nonneg (d.Uses[k].x3%n) (show (4:Int)≠0 by decide)
   have g3:=Int.emod_lt_of_pos (d.Uses[k].x3%n) (show (0:Int)<4 by decide)
   have g4:=Int.emod_nonneg (d.Uses[k].x3%n%4) (show n≠0 by omega)
   have g5:=Int.emod_lt_of_pos (d.Uses[k].x3%n%4) (show 0<n by omega)
   have p0:=Int.emod_nonneg d.Uses[k].x1 (show (4:Int)≠0 by decide)
   have p1:=Int.emod_lt_of_pos d.Uses[k].x1 (show (0:Int)<4 by decide)
   refine ⟨(((k+1:Nat):Int),l++[⟨d.Uses[k].x0%P.length,d.Uses[k].x1%4,d.Uses[k].x2%n,1+d.Uses[k].x3%n%4%n⟩]),?_,⟨by omega,by omega,by simp;omega,λu hu=>?_⟩,by omega⟩
   ·rw [ZW (by simp;omega),ZW (by simp;omega)]
    simp only [ZN]
    rw [ZW (by simp;omega),Zd1 hk,ZN,Zbj (by omega) (by omega),Zcm (by omega),ZN,Zi b0.1,ZlL s0 hn,ZN,← en,
     Zbj (x:=d.Uses[k].x2) (by omega) (by omega),Zcm (by omega),ZN,Zbj (x:=d.Uses[k].x3) (by omega) (by omega),Zcm (by omega),ZN,Zcm (by omega),ZN,
     Zi b1.1,Zi b2.1,Zi b3.1,Zi g0,Zi g2,Zbj (x:=d.Uses[k].x1%4) (by omega) (by omega),Zbj (x:=1+_) (by omega) (by omega),Zja (by omega) (by omega),ZN,Zb1 (by omega)]
   rcases List.mem_append.1 hu with q1|q1
   ·exact i3 u q1
   simp only [ZH] at q1
   subst q1
   refine ⟨ZeL.2 ?_,p1⟩
   unfold perU
   simp only
   rw [Zcf hn,← en]
   omega
  right
  refine ⟨l,?_,by omega,i3⟩
  by_cases c1:i<(d.Uses.length:Int)
  ·rw [ZW (by simpa using c1)]
   by_cases c2:i<12
   ·rw [ZW (by simpa using c2),ZN,ZV (by rw [ZT];omega)]
   rw [ZV (by simpa using c2),ZN,ZV (by simp)]
  rw [ZV (by simpa using c1),ZN,ZV (by simp)]) N (0,[]) ⟨by omega,by omega,rfl,by simp⟩ (by simp;omega)
 rw [hU,ZN]
 refine ⟨_,rfl,?_,P1,U1,P2,λu hu=>(U2 u hu).2⟩
 rw [ZiF]
 refine ⟨by show P.length<=12;omega,by show U.length<=192;omega,hper,List.all_eq_true.2 λu hu=>(U2 u hu).1,?_⟩
 have hdv:lcmL P∣120:=ZiV.2 λq hq=>(ZhL q (P2 q hq)).2.2
 have:=Nat.le_of_dvd (by decide) hdv
 show lcmL P<=960
 omega
end Go.Sh
namespace Go.Sh
open Go Go.Eng
theorem Zgg {p:ZZ}(h:VP p){u:Zai}(hu:u∈p.Uses){i:Nat}(hi:u.Stream=(i:Int))(x by_:Int):ZcI p u ((x+by_)%p.Periods.getD i 0)=shift (ZcI p u x) by_:=by
 have e:perU p.Periods u=p.Periods.getD i 0:=by unfold perU;rw [hi];simp
 unfold ZcI shift
 simp only [← e]
 congr 1
 rw [Int.emod_add_emod,Int.add_emod_emod,Int.add_assoc]
theorem Zju {p:ZZ}(h:VP p)(i j:Nat)(a b by_:Int):ZcP p i ((a+by_)%p.Periods.getD i 0) j ((b+by_)%p.Periods.getD j 0)=ZcP p i a j b:=by
 unfold ZcP
 congr 1
 refine Zhz λk hk=>Zhz λm hm=>?_
 congr 1
 unfold hitB
 rw [Zcf hk,Zcf hm,Bool.eq_iff_iff]
 simp only [Ze,ZT,beq_iff_eq,Zg,decide_eq_false_iff_not]
 refine and_congr_right λ_=>and_congr_right λc=>and_congr_right λd=>and_congr_right λ_=>?_
 rw [Zgg h (List.getElem_mem hk) c,Zgg h (List.getElem_mem hm) d,Zli (h.vspan (List.getElem_mem hk) a) (h.vspan (List.getElem_mem hm) b)]
end Go.Sh
namespace Go.Sh
open Go Go.Eng
theorem ZlB {κ υ:Type}[DecidableEq κ](m:List (κ×υ))(x y:κ)(v:υ):Zdx (ZeX m x v) y=if x=y then some v else Zdx m y:=by
 induction m with
 | nil =>
  unfold ZeX Zdx
  by_cases h:x=y<;>simp [h]
 | cons q m ih =>
  unfold ZeX
  by_cases h:q.1=x
  ·rw [ZW h]
   unfold Zdx
   rw [List.find?_cons,List.find?_cons]
   by_cases e:x=y
   ·simp [e]
   simp [e,h]
  rw [ZV h]
  have e1:Zdx (q::ZeX m x v) y=if q.1=y then some q.2 else Zdx (ZeX m x v) y:=by
   unfold Zdx
   rw [List.find?_cons]
   by_cases e:q.1=y<;>simp [e]
  have e2:Zdx (q::m) y=if q.1=y then some q.2 else Zdx m y:=by
   unfold Zdx
   rw [List.find?_cons]
   by_cases e:q.1=y<;>simp [e]
  rw [e1,e2,ih]
  by_cases e:q.1=y
  ·rw [ZW e,ZW e,ZV (λe3=>h (by rw [e,e3]))]
  rw [ZV e,ZV e]
section
variable {N:Nat} {p:ZZ}
end
end Go.Sh

namespace Go.Sh
open Go Go.Eng
section
variable {N:Nat} {p:ZZ}
def othO (g:Zav)(s b:Nat)(x:Int):Int:=if b=s then x else g.l.getD b 0
def refB (p:ZZ)(s:Nat)(g:Zav)(a:Zal):Bool :=
 (decide (a.By.toNat=s) || !(g.l.getD a.By.toNat 0 == -1))&&allB (a.To-a.From).toNat λk=>ZcP p s (a.From+k) a.By.toNat (othO g s a.By.toNat (a.From+k))
end
end Go.Sh

namespace Go.Sh
open Go Go.Eng
section
variable {N:Nat} {p:ZZ} {f:List Z1}
def armH (p:ZZ)(s:Nat)(g:Zav)(rec_:Nat->Zav->Bool)(a:Zal):Bool :=
 if a.By = -1 then rec_ a.Next.toNat (g.set s a.From) else if 0<=a.By then refB p s g a else true
def hB (p:ZZ)(f:List Z1):Nat->Nat->Zav->Bool
 | 0,_,_=>false
 | n+1,c,g=>match f[c]? with
  | none=>false
  | some x=>(g.l.getD x.Stream.toNat 0 == -1)&&x.Arms.all (armH p x.Stream.toNat g (hB p f n))
end
end Go.Sh
namespace Go.Sh
open Go Go.Eng
def g0:Zav:=⟨-1,-1,-1,-1,-1,-1,-1,-1,-1,-1,-1,-1⟩
section
variable {N:Nat} {p:ZZ} {f:List Z1}
end
end Go.Sh
namespace Go.Sh
open Go Go.Eng
def Zd2 (q:Nat->Bool):Nat->Option Nat
 | 0=>none
 | n+1=>match Zd2 q n with
  | some j=>some j
  | none=>if q n=true then some n else none
theorem ZdB {q:Nat->Bool}:∀ {n:Nat},Zd2 q n=none↔∀ k,k<n->q k=false
 | 0=>by simp [Zd2]
 | n+1=>by
  have ih:=ZdB (q:=q) (n:=n)
  simp only [Zd2]
  cases h:Zd2 q n with
  | some j =>
   simp only [reduceCtorEq,false_iff]
   intro h2
   rw [ih.2 λk hk=>h2 k (by omega)] at h
   cases h
  | none =>
   simp only
   have h3:=ih.1 h
   constructor
   ·intro h2 k hk
    by_cases e:k=n
    ·subst e
     cases hq:q k with
     | false=>rfl
     | true=>rw [hq,ZW rfl] at h2;cases h2
    exact h3 k (by omega)
   intro h2
   rw [h2 n (by omega),ZV (by simp)]
theorem ZcU {q:Nat->Bool}{j:Nat}:∀ {n:Nat},Zd2 q n=some j↔j<n/\q j=true/\∀ k,k<j->q k=false
 | 0=>by simp [Zd2]
 | n+1=>by
  have ih:=ZcU (q:=q) (j:=j) (n:=n)
  simp only [Zd2]
  cases h:Zd2 q n with
  | some j' =>
   simp only [ZQ]
   rw [h] at ih
   simp only [ZQ] at ih
   constructor
   ·intro e
    obtain ⟨a,b,c⟩:=ih.1 e
    exact ⟨by omega,b,c⟩
   rintro ⟨a,b,c⟩
   by_cases e:j=n
   ·subst e
    obtain ⟨a',b',_⟩:=ZcU.1 h
    rw [c j' a'] at b'
    cases b'
   exact ih.2 ⟨by omega,b,c⟩
  | none =>
   simp only
   have h3:=ZdB.1 h
   constructor
   ·intro h2
    split at h2
    ·rename_i hq
     cases h2
     exact ⟨by omega,hq,h3⟩
    cases h2
   rintro ⟨a,b,c⟩
   by_cases e:j=n
   ·subst e;rw [ZW b]
   rw [h3 j (by omega)] at b;cases b
section
variable {N:Nat} {p:ZZ}
def byS (p:ZZ)(i:Nat)(x:Int)(all:List Int):Int:=match Zd2 (λj=>ZcP p i x j (all.getD j 0)) (i+1) with
 | some j=>j
 | none => -1
def c00:Z1:=⟨0,[]⟩
def a00:Zal:=⟨0,0,0,0⟩
def Zfj (l:List Zal)(b:Int):Bool:=decide (b ≠ -1)&&decide (l≠[])&&decide ((l.getD (l.length-1) a00).By=b)
def ZkS (l:List Zal)(t:Int):List Zal:=l.set (l.length-1) { l.getD (l.length-1) a00 with To:=t }
def bS (p:ZZ)(given:List Int)(c x:Nat):Int:=if c=0/\0<x then -2 else byS p given.length x (given++[(x:Int)])
def Zde (p:ZZ)(given:List Int)(c:Nat)(R:List Z1->List Int->Option (List Z1))(x:Nat)(s:List Z1):Option (List Z1):=
 if Zfj (s.getD c c00).Arms (bS p given c x)=true then some (s.set c ⟨(s.getD c c00).Stream,ZkS (s.getD c c00).Arms ((x:Int)+1)⟩)
 else if bS p given c x = -1 then (R s (given++[(x:Int)])).map λr=>r.set c ⟨(r.getD c c00).Stream,(r.getD c c00).Arms++[⟨x,(x:Int)+1,-1,s.length⟩]⟩
 else some (s.set c ⟨(s.getD c c00).Stream,(s.getD c c00).Arms++[⟨x,(x:Int)+1,bS p given c x,0⟩]⟩)
def ZfX (p:ZZ):Nat->List Z1->List Int->Option (List Z1)
 | 0,_,_=>none
 | n+1,f,given=>if 2000<=f.length then none else upF (Zde p given f.length (ZfX p n)) (p.Periods.getD given.length 0).toNat (f++[⟨given.length,[]⟩])
def Zc2 (s:List Z1):Prop:=∀ y∈s,y.Arms.length<=240
structure GI (f:List Z1) (i x:Nat) (s:List Z1):Prop where
 pre:f <+: s
 lt:f.length<s.length
 le:s.length<=2000
 st:(s.getD f.length c00).Stream=i
 ar:(s.getD f.length c00).Arms.length<=x
 sm:Zc2 s
def RK (R:List Z1->List Int->Option (List Z1)):Prop:=∀ s g r,s.length<=2000->Zc2 s->R s g=some r->s <+: r/\r.length<=2000/\Zc2 r
theorem Zc2.set {s:List Z1}(h:Zc2 s){c:Nat}{y:Z1}(hy:y.Arms.length<=240):Zc2 (s.set c y):=λz hz=>by
 rcases List.mem_or_eq_of_mem_set hz with hz|rfl
 ·exact h z hz
 exact hy
theorem Zmm {α:Type}{l m:List α}{i:Nat}(x:α)(h:l <+: m)(hi:l.length<=i):l <+: m.set i x:=by
 obtain ⟨t,rfl⟩:=h
 rw [List.set_append_right _ _ hi]
 exact ⟨_,rfl⟩
theorem Zc6 {α:Type}{l m:List α}{i:Nat}(d:α)(h:l <+: m)(hi:i<l.length):m.getD i d=l.getD i d:=by
 obtain ⟨t,rfl⟩:=h
 simp [Zm,Zn hi]
theorem Zcb {α:Type}{l:List α}{i:Nat}(d x:α)(hi:i<l.length):(l.set i x).getD i d=x:=by
 simp [Zm,hi]
theorem ZlR (l:List Zal)(t:Int):(ZkS l t).length=l.length:=by simp [ZkS]
theorem GI.set {f:List Z1}{i x x':Nat}{s:List Z1}(h:GI f i x s){l:List Zal}(hl:l.length<=x')(hx:x'<=240):GI f i x' (s.set f.length ⟨(s.getD f.length c00).Stream,l⟩):=
 {pre:=Zmm _ h.pre (Nat.le_refl _)
  lt:=by rw [ZC];exact h.lt
  le:=by rw [ZC];exact h.le
  st:=by rw [Zcb _ _ h.lt];exact h.st
  ar:=by rw [Zcb _ _ h.lt];exact hl
  sm:=h.sm.set (by simp only;omega) }
theorem GI.step {f:List Z1}{given:List Int}{R:List Z1->List Int->Option (List Z1)}(hR:RK R){i x:Nat}{s s':List Z1}(h:GI f i x s)(hx:x<240)(hs:Zde p given f.length R x s=some s'):GI f i (x+1) s':=by
 unfold Zde at hs
 split at hs
 ·cases hs
  exact h.set (by rw [ZlR];have:=h.ar;omega) (by omega)
 split at hs
 ·cases hr:R s (given++[(x:Int)]) with
  | none=>rw [hr] at hs;cases hs
  | some r =>
   rw [hr] at hs
   cases hs
   obtain ⟨h1,h2,h3⟩:=hR s _ r h.le h.sm hr
   have h4:GI f i x r :=
    {pre:=h.pre.trans h1
     lt:=Nat.lt_of_lt_of_le h.lt h1.length_le
     le:=h2
     st:=by rw [Zc6 _ h1 h.lt];exact h.st
     ar:=by rw [Zc6 _ h1 h.lt];exact h.ar
     sm:=h3 }
   exact h4.set (by have:=h4.ar;rw [Zz,ZD];omega) (by omega)
 cases hs
 exact h.set (by have:=h.ar;rw [Zz,ZD];omega) (by omega)
theorem GI.start {f:List Z1}(i:Nat)(hf:f.length<2000)(hs:Zc2 f):GI f i 0 (f++[⟨i,[]⟩]):=
 {pre:=List.prefix_append _ _
  lt:=by simp
  le:=by simp;omega
  st:=by simp [Zm]
  ar:=by simp [Zm]
  sm:=λy hy=>by
   rcases List.mem_append.1 hy with hy|hy
   ·exact hs y hy
   simp only [ZH] at hy;subst hy;simp }
theorem GI.loop {f:List Z1}{given:List Int}{R:List Z1->List Int->Option (List Z1)}(hR:RK R){i:Nat}{s0:List Z1}(h0:GI f i 0 s0) :
  ∀ {n:Nat} {s:List Z1},n<=240->upF (Zde p given f.length R) n s0=some s->GI f i n s
 | 0,s,_,h=>by simp only [upF,ZQ] at h;subst h;exact h0
 | n+1,s,hn,h=>by
  simp only [upF] at h
  cases hu:upF (Zde p given f.length R) n s0 with
  | none=>rw [hu] at h;cases h
  | some s1 =>
   rw [hu] at h
   exact (GI.loop hR h0 (by omega) hu).step hR (by omega) h
theorem ZdA (hp:VP p):∀ n,RK (ZfX p n)
 | 0=>λs g r _ _ h=>by cases h
 | n+1=>λs g r h1 h2 h=>by
  simp only [ZfX] at h
  split at h
  ·cases h
  rename_i hc
  have hper:(p.Periods.getD g.length 0).toNat<=240:=by
   by_cases e:g.length<p.Periods.length
   ·rw [Zcf e]
    have:=hp.per _ (List.getElem_mem e)
    omega
   rw [Zm,Zt (by omega)];simp
  have hG:=GI.loop (ZdA hp n) (GI.start g.length (by omega) h2) hper h
  exact ⟨hG.pre,hG.le,hG.sm⟩
end
end Go.Sh
namespace Go.Sh
open Go Go.Eng
section
variable {N:Nat} {p:ZZ}
def Zmu (p:ZZ):Option (List Z1):=if p.Periods.length=0 then none else ZfX p p.Periods.length [] []
theorem u8 {x:Int}(h:InK .u8 x):0<=x/\x<=255:=h.u8
end
end Go.Sh
namespace Go.Sh
open Go Go.Eng
section
variable {N:Nat} {p:ZZ}
def KOK (p:ZZ)(m:slvK):Prop:=∀ k b,Zdx m k=some b->b=(ZcV p k.i k.x_ k.j 0).1
theorem KOK.nil:KOK p []:=λk b h=>by simp [Zdx] at h
theorem KOK.set {m:slvK}(h:KOK p m)(k:ZaD):KOK p (ZeX m k (ZcV p k.i k.x_ k.j 0).1):=λk' b hb=>by
 rw [ZlB] at hb
 by_cases e:k=k'
 ·rw [ZW e,ZQ] at hb
  rw [← hb,e]
 rw [ZV e] at hb
 exact h k' b hb
theorem Zh9 (hp:ZdR p=true){i j:Nat}{x y:Int}(hi:offB p i x=true)(hj:offB p j y=true)(hij:i=j->x=y) :
  ZcV p i ((x-y)%p.Periods.getD i 0) j 0=(ZcP p i x j y,0):=by
 have h:=VP.of hp
 obtain ⟨i0,i1,x0,x1⟩:=Zbp.1 hi
 obtain ⟨j0,j1,y0,y1⟩:=Zbp.1 hj
 have hpi:p.Periods.getD i 0∈p.Periods:=by rw [Zcf (by omega)];exact List.getElem_mem _
 have pi:=h.per _ hpi
 simp only [Zj] at x1 y1
 obtain ⟨q,hq⟩:∃ q,q=(x-y)%p.Periods.getD i 0:=⟨_,rfl⟩
 have q0:0<=q:=by rw [hq];exact Int.emod_nonneg _ (by omega)
 have q1:q<p.Periods.getD i 0:=by rw [hq];exact Int.emod_lt_of_pos _ (by omega)
 rw [← hq]
 unfold ZcV
 have ea:argB p i q j 0=true:=by
  unfold argB
  have o1:offB p i q=true:=Zbp.2 ⟨by omega,by omega,q0,by rw [Zj];exact q1⟩
  have o2:offB p j 0=true:=Zbp.2 ⟨by omega,by omega,by omega,by rw [Zj];omega⟩
  rw [o1,o2]
  by_cases e:i=j
  ·have:=hij e
   have hz:q=0:=by rw [hq,this];simp
   simp [hz]
  have:¬ ((i:Int)=(j:Int)):=by omega
  simp [this]
 rw [ZW hp,ZW ea]
 congr 1
 have:=Zju h i j x y (-y)
 rw [show y + -y=0 by omega,Int.zero_emod,show x + -y=x-y by omega,← hq] at this
 exact this
theorem Zfw (hN:2000<=N)(hp:ZdR p=true){m:slvK}(hm:KOK p m){i j:Nat}{x y:Int}(hi:offB p i x=true)(hj:offB p j y=true)(hij:i=j->x=y) :
  ∃ m',Zdi N p m i x j y=some (ZcP p i x j y,m')/\KOK p m':=by
 have h:=VP.of hp
 obtain ⟨i0,i1,x0,x1⟩:=Zbp.1 hi
 obtain ⟨j0,j1,y0,y1⟩:=Zbp.1 hj
 have xl:=Zka h hi;have yl:=Zka h hj
 have hpi:p.Periods.getD i 0∈p.Periods:=by rw [Zcf (by omega)];exact List.getElem_mem _
 have pi:=h.per _ hpi
 have ec:=Zh9 hp hi hj hij
 have h1:=Int.lt_tmod_of_pos (x-y) (show 0<p.Periods.getD i 0 by omega)
 have h2:=Int.tmod_lt_of_pos (x-y) (show 0<p.Periods.getD i 0 by omega)
 unfold Zdi
 rw [show idx p.Periods ((i:Nat):Int)=some (p.Periods.getD i 0) by rw [Zd1 (by omega),Zcf (by omega)],ZN,Zbj (x:=x-y) (by omega) (by omega),Zcm (by omega),ZN,Zbj (by omega) (by omega),Zcm (by omega),ZN,ZjU (by omega)]
 obtain ⟨q,hq⟩:∃ q,q=(x-y)%p.Periods.getD i 0:=⟨_,rfl⟩
 rw [← hq] at ec ⊢
 cases hg:Zdx m (ZaD.mk i q j) with
 | some b =>
  have hb:=hm _ _ hg
  simp only [ec] at hb
  refine ⟨m,?_,hm⟩
  unfold mhas Zjt
  rw [hg]
  simp [hb]
 | none =>
  refine ⟨ZeX m (ZaD.mk i q j) (ZcV p i q j 0).1,?_,hm.set (ZaD.mk i q j)⟩
  unfold mhas
  rw [hg,ZW (by simp),ZfW hN,ec]
  rfl
theorem ZcJ {given:List Int}{x:Int}{j:Nat}(h:j<given.length):(given++[x]).getD j 0=given.getD j 0:=by
 rw [Zm,Zn h,Zm]
theorem Zcg {given:List Int}{x:Int}:(given++[x]).getD given.length 0=x:=by
 rw [Zm];simp
def preB (p:ZZ)(given:List Int):Prop:=∀ k,k<given.length->offB p k (given.getD k 0)=true
theorem preB.snoc {given:List Int}(h:preB p given){x:Int}(hx:offB p given.length x=true):preB p (given++[x]):=λk hk=>by
 rw [Zz,ZD] at hk
 by_cases e:k=given.length
 ·subst e;rw [Zcg];exact hx
 rw [ZcJ (by omega)];exact h k (by omega)
theorem ZhP (hN:2000<=N)(hp:ZdR p=true){m:slvK}(hm:KOK p m){given:List Int}(hg:preB p given){x:Int}(hx:offB p given.length x=true) :
  ∃ m',Zdh N p given m given.length x=some (byS p given.length x (given++[x]),m')/\KOK p m':=by
 have h:=VP.of hp
 obtain ⟨i0,i1,x0,x1⟩:=Zbp.1 hx
 have hl:=h.len
 obtain ⟨r,hr,e⟩:=ZeZ (body:=λy:Int×slvK=>ZbD N p given given.length x y.1 y.2)
  (λy=>∃ k:Nat,y.1=k/\k<=given.length/\KOK p y.2/\∀ m,m<k->ZcP p given.length x m ((given++[x]).getD m 0)=false)
  (λy=>((given.length:Int)+1-y.1).toNat)
  (λo=>(∃ m',o=.inl m'/\KOK p m'/\∀ m,m<given.length->ZcP p given.length x m ((given++[x]).getD m 0)=false)∨(∃ (j:Nat) (m':slvK),o=.inr ((j:Int),m')/\KOK p m'/\j<given.length/\ZcP p given.length x j ((given++[x]).getD j 0)=true/\∀ m,m<j->ZcP p given.length x m ((given++[x]).getD m 0)=false)) (λy hy=>by
   obtain ⟨j,m1⟩:=y
   obtain ⟨k,rfl,k1,k2,k3⟩:=hy
   simp only at k2 ⊢
   simp only [ZbD]
   by_cases c:k<given.length
   ·rw [ZW (by simpa using c),Zd1 c,ZN]
    have eg:given[k]'c=(given++[x]).getD k 0:=by rw [ZcJ c];exact (Zcf c 0).symm
    obtain ⟨m',h1,h2⟩:=Zfw hN hp k2 hx (hg k c) (λe=>by omega)
    rw [eg,show (given++[x]).getD k 0=given.getD k 0 from ZcJ c,h1,ZN]
    cases hmt:ZcP p given.length x k (given.getD k 0) with
    | true=>exact .inr ⟨_,by rw [ZW rfl],.inr ⟨k,m',rfl,h2,c,by rw [ZcJ c];exact hmt,k3⟩⟩
    | false=>exact .inl ⟨_,by rw [ZV (by simp)],⟨k+1,by simp only;rw [Zb1 (by omega)],by omega,h2,λm hm'=>by
       by_cases e:m=k
       ·subst e;rw [ZcJ c];exact hmt
       exact k3 m (by omega)⟩,by simp only;rw [Zb1 (by omega)];omega⟩
   exact .inr ⟨_,by rw [ZV (by simp;omega)],.inl ⟨m1,rfl,k2,λm hm'=>k3 m (by omega)⟩⟩) N (0,m) ⟨0,rfl,by omega,hm,λm hm=>by omega⟩ (by simp only;omega)
 unfold Zdh
 rw [hr,ZN]
 unfold byS
 rcases e with ⟨m',rfl,e2,e3⟩|⟨j,m',rfl,e2,e3,e4,e5⟩
 ·simp only
  obtain ⟨m2,h1,h2⟩:=Zfw hN hp e2 hx hx (λ_=>rfl)
  rw [h1,ZN]
  cases hmt:ZcP p given.length x given.length x with
  | true =>
   rw [ZcU.2 ⟨show given.length<given.length+1 by omega,by rw [Zcg];exact hmt,e3⟩]
   exact ⟨m2,by rw [ZW rfl],h2⟩
  | false =>
   rw [ZdB.2 λk hk=>by
    by_cases e:k=given.length
    ·subst e;rw [Zcg];exact hmt
    exact e3 k (by omega)]
   exact ⟨m2,by rw [ZV (by simp)],h2⟩
 rw [ZcU.2 ⟨by omega,e4,e5⟩]
 exact ⟨m',rfl,e2⟩
end
end Go.Sh

namespace Go.Sh
open Go Go.Eng
section
variable {σ ρ:Type}
def upS (step:Nat->σ->Option (σ⊕ρ)):Nat->σ->Option (σ⊕ρ)
 | 0,s=>some (.inl s)
 | n+1,s=>match upS step n s with
  | some (.inl s1)=>step n s1
  | q=>q
theorem ZeM {step:Nat->σ->Option (σ⊕ρ)}{n:Nat}{s s1:σ}(h:upS step n s=some (.inl s1)):upS step (n+1) s=step n s1:=by
 simp only [upS,h]
theorem Zc0 {step:Nat->σ->Option (σ⊕ρ)}{n:Nat}{s:σ}{q:Option (σ⊕ρ)}(h:upS step n s=q)(hq:∀ s1,q≠some (.inl s1)):upS step (n+1) s=q:=by
 simp only [upS,h]
theorem ZhJ {step:Nat->σ->Option (σ⊕ρ)}{k:Nat}{s:σ}{q:Option (σ⊕ρ)}(h:upS step k s=q)(hq:∀ s1,q≠some (.inl s1)):∀ n,k<=n->upS step n s=q:=by
 intro n hn
 induction n with
 | zero =>
  obtain rfl:k=0:=by omega
  exact h
 | succ n ih =>
  by_cases e:k=n+1
  ·subst e;exact h
  exact Zc0 (ih (by omega)) hq
theorem ZhK {step step':Nat->σ->Option (σ⊕ρ)}(h:∀ k s q,step k s=some q->step' k s=some q):∀ {n:Nat} {s0:σ} {q:σ⊕ρ},upS step n s0=some q->upS step' n s0=some q
 | 0,s0,q,e=>e
 | n+1,s0,q,e=>by
  cases hu:upS step n s0 with
  | none =>
   rw [Zc0 hu (λs1 h=>by cases h)] at e
   cases e
  | some r =>
   cases r with
   | inl s1=>rw [ZeM hu] at e;rw [ZeM (ZhK h hu)];exact h _ _ _ e
   | inr r=>rw [Zc0 hu (λs1 h=>by cases h)] at e;rw [Zc0 (ZhK h hu) (λs1 h=>by cases h)];exact e
theorem ZfY {step:Nat->σ->Option (σ⊕ρ)}{n:Nat}{s0 s:σ}(h:upS step (n+1) s0=some (.inl s)):∃ s1,upS step n s0=some (.inl s1)/\step n s1=some (.inl s):=by
 cases hu:upS step n s0 with
 | none=>rw [Zc0 hu (λs1 h=>by cases h)] at h;cases h
 | some r =>
  cases r with
  | inl s1=>rw [ZeM hu] at h;exact ⟨s1,rfl,h⟩
  | inr r=>rw [Zc0 hu (λs1 h=>by cases h)] at h;cases h
theorem Zjh {step:Nat->σ->Option (σ⊕ρ)}:∀ {n:Nat} {s0 s:σ},upS step n s0=some (.inl s)->∀ k,k<n->∃ s1 s2,upS step k s0=some (.inl s1)/\step k s1=some (.inl s2)
 | 0,s0,s,h,k,hk=>by omega
 | n+1,s0,s,h,k,hk=>by
  obtain ⟨s1,h1,h2⟩:=ZfY h
  by_cases e:k=n
  ·subst e;exact ⟨s1,s,h1,h2⟩
  exact Zjh h1 k (by omega)
theorem Zin {step:Nat->σ->Option (σ⊕ρ)}:∀ {n:Nat} {s0:σ} {r:ρ},upS step n s0=some (.inr r)->∃ k s1,k<n/\upS step k s0=some (.inl s1)/\step k s1=some (.inr r)
 | 0,s0,r,h=>by cases h
 | n+1,s0,r,h=>by
  cases hu:upS step n s0 with
  | none=>rw [Zc0 hu (λs1 h=>by cases h)] at h;cases h
  | some q =>
   cases q with
   | inl s1=>rw [ZeM hu] at h;exact ⟨n,s1,by omega,hu,h⟩
   | inr r' =>
    rw [Zc0 hu (λs1 h=>by cases h)] at h
    cases h
    obtain ⟨k,s1,h1,h2,h3⟩:=Zin hu
    exact ⟨k,s1,by omega,h2,h3⟩
end
abbrev SR:=Option (List Z1⊕List Int)
section
variable {p:ZZ}
def addA (f:List Z1)(c:Nat)(z:Zal):List Z1 :=
 f.set c ⟨(f.getD c c00).Stream,if (decide (0<=z.By)&&Zfj (f.getD c c00).Arms z.By)=true then ZkS (f.getD c c00).Arms z.To else (f.getD c c00).Arms++[z]⟩
theorem Zig (f:List Z1)(c:Nat)(z:Zal):(addA f c z).length=f.length:=by simp [addA]
def ZcM (p:ZZ)(given:List Int)(c:Nat)(last:Bool)(R:List Z1->List Int->SR)(x:Nat)(s:List Z1):SR :=
 if byS p given.length x (given++[(x:Int)]) = -1 then
  (if last=true then some (.inr (given++[(x:Int)])) else match R s (given++[(x:Int)]) with
   | some (.inl r)=>some (.inl (addA r c ⟨x,(x:Int)+1,-1,s.length⟩))
   | q=>q)
 else some (.inl (addA s c ⟨x,(x:Int)+1,byS p given.length x (given++[(x:Int)]),0⟩))
def ZcA (p:ZZ)(i:Nat):Nat:=if i=0 then 1 else (p.Periods.getD i 0).toNat
def endS (p:ZZ)(c i:Nat)(s:List Z1):List Z1:=if i=0/\1<p.Periods.getD i 0 then addA s c ⟨1,p.Periods.getD i 0,-2,0⟩ else s
def ZcS (p:ZZ)(given:List Int):Bool:=decide (given.length+1=p.Periods.length)
def srch (p:ZZ)(fuel:Int):Nat->List Z1->List Int->SR
 | 0,_,_=>none
 | n+1,f,given=>if fuel<(f.length:Int) then none else
  match upS (ZcM p given f.length (ZcS p given) (srch p fuel n)) (ZcA p given.length) (f++[⟨given.length,[]⟩]) with
  | some (.inl s)=>some (.inl (endS p f.length given.length s))
  | q=>q
theorem Ze7 (i:Nat)(x:Int)(all:List Int):(byS p i x all = -1/\∀ j,j<=i->ZcP p i x j (all.getD j 0)=false)∨∃ j:Nat,byS p i x all=j/\j<=i/\ZcP p i x j (all.getD j 0)=true:=by
 unfold byS
 cases h:Zd2 (λj=>ZcP p i x j (all.getD j 0)) (i+1) with
 | none=>exact .inl ⟨rfl,λj hj=>ZdB.1 h j (by omega)⟩
 | some j =>
  obtain ⟨h1,h2,_⟩:=ZcU.1 h
  exact .inr ⟨j,rfl,by omega,h2⟩
theorem ZlG (l:List Zal):Zfj l (-1)=false:=by simp [Zfj]
theorem Zhd {given:List Int}{c:Nat}{last:Bool}{R:List Z1->List Int->SR}{R':List Z1->List Int->Option (List Z1)}{x:Nat}{s s':List Z1}
  (hR:∀ r,R s (given++[(x:Int)])=some (.inl r)->R' s (given++[(x:Int)])=some r) (hc:c=0->x=0) (h:ZcM p given c last R x s=some (.inl s')):Zde p given c R' x s=some s':=by
 have hb:bS p given c x=byS p given.length x (given++[(x:Int)]):=by
  unfold bS
  rw [ZV (by omega)]
 unfold Zde
 unfold ZcM at h
 rw [hb]
 rcases Ze7 (p:=p) given.length x (given++[(x:Int)]) with ⟨e,_⟩|⟨j,e,_⟩
 ·rw [ZW e] at h
  rw [e,ZlG,ZV (by simp),ZW rfl]
  cases last with
  | true=>rw [ZW rfl] at h;cases h
  | false =>
   rw [ZV (by simp)] at h
   cases hr:R s (given++[(x:Int)]) with
   | none=>rw [hr] at h;cases h
   | some q =>
    cases q with
    | inr o=>rw [hr] at h;cases h
    | inl r =>
     rw [hr] at h
     simp only [ZQ,Sum.inl.injEq] at h
     rw [hR r hr,ZP,← h]
     unfold addA
     rw [ZV (by simp)]
 rw [ZV (by omega),ZQ,Sum.inl.injEq] at h
 rw [e] at h ⊢
 rw [← h]
 unfold addA
 rw [decide_eq_true (show (0:Int)<=(j:Int) by omega),Bool.true_and]
 by_cases hl:Zfj (s.getD c c00).Arms (j:Int)=true
 ·rw [ZW hl,ZW hl]
 rw [ZV hl,ZV hl,ZV (by omega)]
theorem ZkR (l:List Zal)(a:Zal)(t:Int):ZkS (l++[a]) t=l++[{ a with To:=t }]:=by
 unfold ZkS
 simp [Zm]
theorem Zev (l:List Zal)(a:Zal)(b:Int):Zfj (l++[a]) b=true↔b ≠ -1/\a.By=b:=by
 unfold Zfj
 simp [Zm]
theorem ZlO {R:List Z1->List Int->Option (List Z1)}(hR:∀ r,R [⟨0,[]⟩] ([]++[((0:Nat):Int)])=some r->[⟨0,[]⟩] <+: r){s:List Z1}(h:Zde p [] 0 R 0 [⟨0,[]⟩]=some s) :
  0<s.length/\∃ l a,(s.getD 0 c00).Arms=l++[a]/\a.By ≠ -2:=by
 have hb:bS p [] 0 0=byS p 0 0 [0]:=by
  unfold bS
  rw [ZV (by omega)]
  rfl
 unfold Zde at h
 rw [hb] at h
 have e0:(([⟨0,[]⟩]:List Z1).getD 0 c00).Arms=[]:=rfl
 rw [e0,show Zfj [] (byS p 0 0 [0])=false by simp [Zfj],ZV (by simp)] at h
 rcases Ze7 (p:=p) 0 0 [0] with ⟨e,_⟩|⟨j,e,_⟩
 ·rw [ZW e] at h
  cases hr:R [⟨0,[]⟩] ([]++[((0:Nat):Int)]) with
  | none=>rw [hr] at h;cases h
  | some r =>
   rw [hr] at h
   have hl:0<r.length:=Nat.lt_of_lt_of_le (by simp) (hR _ hr).length_le
   cases h
   refine ⟨by rw [ZC];exact hl,_,_,by rw [Zcb _ _ hl],by simp⟩
 rw [ZV (by omega)] at h
 cases h
 exact ⟨by simp,_,_,by rw [Zcb _ _ (by simp)],by simp only [e];omega⟩
theorem Zhc {R:List Z1->List Int->Option (List Z1)}{s0 s:List Z1}(h1:upF (Zde p [] 0 R) 1 s0=some s)(hl:0<s.length){l:List Zal}{a:Zal}(ha:(s.getD 0 c00).Arms=l++[a])(hb:a.By ≠ -2) :
  ∀ k:Nat,upF (Zde p [] 0 R) (k+2) s0=some (s.set 0 ⟨(s.getD 0 c00).Stream,(s.getD 0 c00).Arms++[⟨1,(k:Int)+2,-2,0⟩]⟩)
 | 0=>by
  show (upF (Zde p [] 0 R) 1 s0).bind _=_
  rw [h1,ZN]
  unfold Zde
  have e:bS p [] 0 1 = -2:=rfl
  rw [e,ZV (by rw [ha,Zev];omega),ZV (by omega)]
  rfl
 | k+1=>by
  show (upF (Zde p [] 0 R) (k+2) s0).bind _=_
  rw [Zhc h1 hl ha hb k,ZN]
  unfold Zde
  have e:bS p [] 0 (k+2) = -2:=by unfold bS;rw [ZW (by omega)]
  rw [e,Zcb _ _ hl,ZW (by rw [Zev];exact ⟨by omega,rfl⟩),ZkR,List.set_set]
  simp only
  congr 6
theorem ZeO {fuel:Int}(hp:VP p)(hf:fuel<=1999):∀ (n:Nat) (f:List Z1) (given:List Int) (r:List Z1),given.length+n=p.Periods.length->(given.length=0↔f.length=0)->f.length<=2000->Zc2 f →
  srch p fuel n f given=some (.inl r)->ZfX p n f given=some r
 | 0,f,given,r,_,_,_,_,h=>by cases h
 | n+1,f,given,r,hl,h0,hf2,hs,h=>by
  simp only [srch] at h
  simp only [ZfX]
  by_cases hc:fuel<(f.length:Int)
  ·rw [ZW hc] at h;cases h
  rw [ZV hc] at h
  rw [ZV (by omega)]
  have hin:given.length<p.Periods.length:=by omega
  have hpe:=hp.per _ (List.getElem_mem hin)
  have hpg:p.Periods.getD given.length 0=p.Periods[given.length]:=Zcf hin 0
  obtain ⟨s0,hs0⟩:∃ s0,s0=f++[(⟨given.length,[]⟩:Z1)]:=⟨_,rfl⟩
  rw [← hs0] at h ⊢
  have hloop:∀ (k:Nat) (s:List Z1),(given.length=0->k<=1)->k<=240->upS (ZcM p given f.length (ZcS p given) (srch p fuel n)) k s0=some (.inl s)->upF (Zde p given f.length (ZfX p n)) k s0=some s:=by
   intro k
   induction k with
   | zero=>intro s _ _ h;simp only [upS,ZQ,Sum.inl.injEq] at h;simp only [upF,h]
   | succ k ih =>
    intro s hk hk2 h
    obtain ⟨s1,h1,h2⟩:=ZfY h
    have h3:=ih s1 (λe=>by have:=hk e;omega) (by omega) h1
    show (upF _ k s0).bind _=_
    rw [h3,ZN]
    have hG:=GI.loop (ZdA hp n) (hs0 ▸ GI.start given.length (by omega) hs:GI f given.length 0 s0) (by omega) h3
    have hlt:=hG.lt
    exact Zhd (λr hr=>ZeO hp hf n s1 _ r (by simp;omega) ⟨λh=>by simp at h,λh=>by omega⟩ hG.le hG.sm hr) (λe=>by have:=hk (h0.2 e);omega) h2
  cases hu:upS (ZcM p given f.length (ZcS p given) (srch p fuel n)) (ZcA p given.length) s0 with
  | none=>rw [hu] at h;cases h
  | some q =>
   cases q with
   | inr o=>rw [hu] at h;cases h
   | inl s =>
    rw [hu] at h
    simp only [ZQ,Sum.inl.injEq] at h
    have h3:=hloop _ s (λe=>by unfold ZcA;rw [ZW e];omega) (by unfold ZcA;split<;>omega) hu
    by_cases e:given.length=0
    ·obtain rfl:given=[]:=List.eq_nil_of_length_eq_zero e
     obtain rfl:f=[]:=List.eq_nil_of_length_eq_zero (h0.1 e)
     simp only [List.length_nil,ZI] at *
     unfold ZcA at h3
     rw [ZW rfl] at h3
     unfold endS at h
     by_cases c:1<p.Periods.getD 0 0
     ·rw [ZW ⟨rfl,c⟩] at h
      obtain ⟨k,hk⟩:∃ k,(p.Periods.getD 0 0).toNat=k+2:=⟨(p.Periods.getD 0 0).toNat-2,by omega⟩
      have h4:Zde p [] 0 (ZfX p n) 0 [⟨0,[]⟩]=some s:=by
       have:(upF (Zde p [] 0 (ZfX p n)) 0 s0).bind (Zde p [] 0 (ZfX p n) 0)=some s:=h3
       rw [hs0] at this
       exact this
      obtain ⟨hl1,l,a,ha,hb⟩:=ZlO (R:=ZfX p n) (λr hr=>(ZdA hp n _ _ r (by simp) (λy hy=>by rw [List.mem_singleton.1 hy];simp) hr).1) h4
      rw [hk,Zhc h3 hl1 ha hb k,← h]
      unfold addA
      rw [ZV (by simp)]
      congr 6
      omega
     rw [ZV (by omega)] at h
     rw [show (p.Periods.getD 0 0).toNat=1 by omega,h3,h]
    unfold endS at h
    rw [ZV (by omega)] at h
    unfold ZcA at h3
    rw [ZV e] at h3
    rw [h3,h]
theorem Zll {fuel:Int}{n:Nat}(ih:∀ (f:List Z1) (given:List Int) (r:List Z1),(f.length:Int)<=fuel+1->srch p fuel n f given=some (.inl r)->(r.length:Int)<=fuel+1){given:List Int}{c:Nat}{last:Bool}{x:Nat}{s s':List Z1}
  (hs:(s.length:Int)<=fuel+1) (h:ZcM p given c last (srch p fuel n) x s=some (.inl s')):(s'.length:Int)<=fuel+1:=by
 unfold ZcM at h
 by_cases e:byS p given.length x (given++[(x:Int)]) = -1
 ·rw [ZW e] at h
  cases last with
  | true=>rw [ZW rfl] at h;cases h
  | false =>
   rw [ZV (by simp)] at h
   cases hr:srch p fuel n s (given++[(x:Int)]) with
   | none=>rw [hr] at h;cases h
   | some q =>
    cases q with
    | inr o=>rw [hr] at h;cases h
    | inl r =>
     rw [hr] at h
     simp only [ZQ,Sum.inl.injEq] at h
     rw [← h,Zig]
     exact ih _ _ _ hs hr
 rw [ZV e] at h
 simp only [ZQ,Sum.inl.injEq] at h
 rw [← h,Zig]
 exact hs
theorem ZjZ {fuel:Int}:∀ (n:Nat) (f:List Z1) (given:List Int) (r:List Z1),(f.length:Int)<=fuel+1->srch p fuel n f given=some (.inl r)->(r.length:Int)<=fuel+1
 | 0,f,given,r,_,h=>by cases h
 | n+1,f,given,r,hf,h=>by
  simp only [srch] at h
  by_cases hc:fuel<(f.length:Int)
  ·rw [ZW hc] at h;cases h
  rw [ZV hc] at h
  obtain ⟨s0,hs0⟩:∃ s0,s0=f++[(⟨given.length,[]⟩:Z1)]:=⟨_,rfl⟩
  rw [← hs0] at h
  have hloop:∀ (k:Nat) (s:List Z1),upS (ZcM p given f.length (ZcS p given) (srch p fuel n)) k s0=some (.inl s)->(s.length:Int)<=fuel+1:=by
   intro k
   induction k with
   | zero=>intro s h;simp only [upS,ZQ,Sum.inl.injEq] at h;rw [← h,hs0];simp;omega
   | succ k ih =>
    intro s h
    obtain ⟨s1,h1,h2⟩:=ZfY h
    exact Zll (ZjZ n) (ih s1 h1) h2
  cases hu:upS (ZcM p given f.length (ZcS p given) (srch p fuel n)) (ZcA p given.length) s0 with
  | none=>rw [hu] at h;cases h
  | some q =>
   cases q with
   | inr o=>rw [hu] at h;cases h
   | inl s =>
    rw [hu] at h
    simp only [ZQ,Sum.inl.injEq] at h
    have:=hloop _ s hu
    rw [← h]
    unfold endS
    split
    ·rw [Zig];exact this
    exact this
theorem Zit {a b:Int}(hab:a<=b):∀ (n:Nat) (f:List Z1) (given:List Int) (q:List Z1⊕List Int),srch p a n f given=some q->srch p b n f given=some q
 | 0,f,given,q,h=>by cases h
 | n+1,f,given,q,h=>by
  simp only [srch] at h ⊢
  by_cases hc:a<(f.length:Int)
  ·rw [ZW hc] at h;cases h
  rw [ZV hc] at h
  rw [ZV (by omega)]
  have hstep:∀ k s q,ZcM p given f.length (ZcS p given) (srch p a n) k s=some q->ZcM p given f.length (ZcS p given) (srch p b n) k s=some q:=by
   intro k s q h
   unfold ZcM at h ⊢
   by_cases e:byS p given.length k (given++[(k:Int)]) = -1
   ·rw [ZW e] at h ⊢
    by_cases l:ZcS p given=true
    ·rw [ZW l] at h ⊢;exact h
    rw [ZV l] at h ⊢
    cases hr:srch p a n s (given++[(k:Int)]) with
    | none=>rw [hr] at h;cases h
    | some r=>rw [hr] at h;rw [Zit hab n _ _ _ hr];exact h
   rw [ZV e] at h ⊢;exact h
  cases hu:upS (ZcM p given f.length (ZcS p given) (srch p a n)) (ZcA p given.length) (f++[⟨given.length,[]⟩]) with
  | none=>rw [hu] at h;cases h
  | some r=>rw [hu] at h;rw [ZhK hstep hu];exact h
end
end Go.Sh

namespace Go.Sh
open Go Go.Eng
section
variable {N:Nat} {p:ZZ}
theorem Zgi {l:List Zal}(hl:l.length<=1000)(b:Int):Zc3 l b=some (decide (0<=b)&&Zfj l b):=by
 unfold Zc3 Zfj
 by_cases hn:l=[]
 ·subst hn;simp
 have h0:0<l.length:=List.length_pos_iff.2 hn
 rw [ZW (by simp;omega),decide_eq_true hn]
 by_cases hb:0<=b
 ·rw [ZW (by simpa using hb),decide_eq_true hb,decide_eq_true (show b ≠ -1 by omega),Bool.true_and,Bool.true_and,Bool.true_and]
  have e:w64 (((List.length l:Nat):Int)-1)=((l.length-1:Nat):Int):=by rw [Zbj (by omega) (by omega)];omega
  rw [e,Zd1 (by omega),ZN,Zcf (by omega)]
  rfl
 rw [ZV (by simpa using hb),decide_eq_false hb,Bool.false_and]
theorem Zfd {f:List Z1}{c:Nat}(hc:c<f.length)(hl:(f.getD c c00).Arms.length<=1000)(z:Zal):Zdu f c z=some (addA f c z):=by
 unfold Zdu addA
 rw [Zd1 hc,ZN,← Zcf hc c00,Zgi hl,ZN]
 cases hlb:(decide (0<=z.By)&&Zfj (f.getD c c00).Arms z.By) with
 | true =>
  rw [ZW rfl,ZW rfl]
  have hne:(f.getD c c00).Arms≠[]:=by
   unfold Zfj at hlb
   simp only [Ze,ZT] at hlb
   exact hlb.2.1.2
  have h0:0<(f.getD c c00).Arms.length:=List.length_pos_iff.2 hne
  have e:w64 (((List.length (f.getD c c00).Arms:Nat):Int)-1)=(((f.getD c c00).Arms.length-1:Nat):Int):=by rw [Zbj (by omega) (by omega)];omega
  rw [e,Zh6 a00 (by omega) (by omega),ZN]
  simp only [Zj]
  rfl
 | false =>
  rw [ZV (by simp),ZV (by simp),Zeg (by rw [ZD];omega) (by omega),ZN]
  simp only [Zj]
def Zg4 (p:ZZ)(given:List Int)(r:SR)(o:Option (Bool×Za7)):Prop:=match r with
 | none=>o=none
 | some (.inl f)=>∃ m,o=some (false,(f,given,m))/\KOK p m
 | some (.inr g)=>∃ f m,o=some (true,(f,g,m))
theorem ZmV {fuel:Int}(hp:VP p)(hf:fuel<=1999){n:Nat}{f:List Z1}{given:List Int}(hl:given.length+(n+1)=p.Periods.length)(h0:given.length=0↔f.length=0)(hf2:f.length<2000)(hs:Zc2 f) :
  ∀ (k:Nat) (s:List Z1),(given.length=0->k<=1)->k<=240->upS (ZcM p given f.length (ZcS p given) (srch p fuel n)) k (f++[⟨given.length,[]⟩])=some (.inl s)->GI f given.length k s:=by
 have hloop:∀ (k:Nat) (s:List Z1),(given.length=0->k<=1)->k<=240->upS (ZcM p given f.length (ZcS p given) (srch p fuel n)) k (f++[⟨given.length,[]⟩])=some (.inl s)->upF (Zde p given f.length (ZfX p n)) k (f++[⟨given.length,[]⟩])=some s:=by
  intro k
  induction k with
  | zero=>intro s _ _ h;simp only [upS,ZQ,Sum.inl.injEq] at h;simp only [upF,h]
  | succ k ih =>
   intro s hk hk2 h
   obtain ⟨s1,h1,h2⟩:=ZfY h
   have h3:=ih s1 (λe=>by have:=hk e;omega) (by omega) h1
   show (upF _ k _).bind _=_
   rw [h3,ZN]
   have hG:=GI.loop (ZdA hp n) (GI.start given.length (by omega) hs:GI f given.length 0 _) (by omega) h3
   have hlt:=hG.lt
   exact Zhd (λr hr=>ZeO hp hf n s1 _ r (by simp;omega) ⟨λh=>by simp at h,λh=>by omega⟩ hG.le hG.sm hr) (λe=>by have:=hk (h0.2 e);omega) h2
 exact λk s h1 h2 h3=>GI.loop (ZdA hp n) (GI.start given.length (by omega) hs:GI f given.length 0 _) h2 (hloop k s h1 h2 h3)
theorem Zg0 {fuel:Int}(hp:ZdR p=true)(hf:fuel<=1999)(hN:2000<=N){R:Za7->Int->Option (Option (Bool×Za7))}{n:Nat}{f:List Z1}{given:List Int}{m:slvK}(hl:given.length+(n+1)=p.Periods.length)(hpre:preB p given)(hf2:f.length<=2000)(hs:Zc2 f)(h0:given.length=0↔f.length=0)(hm:KOK p m)
  (hR:n≠0->∀ (s:List Z1) (m:slvK) (x:Int),s.length<=2000->Zc2 s->s.length≠0->KOK p m->offB p given.length x=true->∃ o,R (s,given++[x],m) ((given.length+1:Nat):Int)=some o/\Zg4 p (given++[x]) (srch p fuel n s (given++[x])) o) :
  ∃ o,Zch N R p fuel (f,given,m) given.length=some o/\Zg4 p given (srch p fuel (n+1) f given) o:=by
 unfold Zch
 simp only [srch]
 by_cases hc:fuel<(f.length:Int)
 ·rw [ZW (by simpa using hc),ZW hc]
  exact ⟨none,rfl,rfl⟩
 rw [ZV (by simpa using hc),ZV hc,Zeg (by simp;omega) (by omega),ZN]
 have h:=VP.of hp
 have hP:=h.len
 have hin:given.length<p.Periods.length:=by omega
 have hpe:=h.per _ (List.getElem_mem hin)
 have hpg:p.Periods.getD given.length 0=p.Periods[given.length]:=Zcf hin 0
 rw [Zd1 hin,ZN,← hpg]
 have hmost:(if ((given.length:Int)==0)=true then some 1 else some (p.Periods.getD given.length 0))=some (ZcA p given.length:Int):=by
  unfold ZcA
  by_cases e:given.length=0
  ·rw [ZW (by simpa using e),ZW e];rfl
  rw [ZV (by simpa using e),ZV e,Int.toNat_of_nonneg (by omega)]
 have hmp:ZcA p given.length<=240/\(ZcA p given.length:Int)<=p.Periods.getD given.length 0/\(given.length=0->ZcA p given.length=1)/\(given.length≠0->(ZcA p given.length:Int)=p.Periods.getD given.length 0):=by
  unfold ZcA
  split<;>omega
 obtain ⟨m1,m2,m3,m4⟩:=hmp
 rw [hmost,ZN]
 obtain ⟨most,hmo⟩:∃ k,k=ZcA p given.length:=⟨_,rfl⟩
 obtain ⟨per,hper⟩:∃ k,k=p.Periods.getD given.length 0:=⟨_,rfl⟩
 have hG:=λk s (hk:k<=most) hu=>ZmV h hf hl h0 (by omega) hs k s (λe=>by have:=m3 e;omega) (by omega) hu
 rw [← hmo] at m1 m2 m3 m4 ⊢
 rw [← hper] at m2 m4 ⊢
 obtain ⟨s0,hs0⟩:∃ s0,s0=f++[(⟨given.length,[]⟩:Z1)]:=⟨_,rfl⟩
 rw [← hs0] at hG ⊢
 obtain ⟨step,hst⟩:∃ st,st=ZcM p given f.length (ZcS p given) (srch p fuel n):=⟨_,rfl⟩
 rw [← hst] at hG ⊢
 obtain ⟨r,hr,e⟩:=ZeZ (body:=λy:Int×Za7=>ZbZ N R p given.length f.length most y.1 y.2)
  (λy=>∃ (k:Nat) (s:List Z1) (m:slvK),y=((k:Int),(s,given,m))/\k<=most/\KOK p m/\upS step k s0=some (.inl s))
  (λy=>((most:Int)+1-y.1).toNat)
  (λr=>(∃ s m,r=.inl (s,given,m)/\KOK p m/\upS step most s0=some (.inl s))∨(r=.inr none/\upS step most s0=none)∨(∃ f g m,r=.inr (some (f,g,m))/\upS step most s0=some (.inr g))) (λy hy=>by
   obtain ⟨k,s,m,rfl,k1,k2,k3⟩:=hy
   simp only [ZbZ]
   by_cases c:k<most
   ·rw [ZW (by simpa using c)]
    have hx:offB p given.length (k:Int)=true:=Zbp.2 ⟨by omega,by omega,by omega,by rw [Zj,← hper];omega⟩
    obtain ⟨m',h1,h2⟩:=ZhP hN hp k2 hpre hx
    rw [h1,ZN]
    have hg:=hG k s k1 k3
    have hlt:=hg.lt;have hle:=hg.le;have har:=hg.ar
    have hw:w64 ((k:Int)+1)=(k:Int)+1:=Zbj (by omega) (by omega)
    have hk1:((k+1:Nat):Int)=(k:Int)+1:=by omega
    have hnext:=ZeM k3
    have hss:step k s=ZcM p given f.length (ZcS p given) (srch p fuel n) k s:=by rw [hst]
    unfold ZcM at hss
    by_cases hb:byS p given.length k (given++[(k:Int)]) = -1
    ·rw [ZW (by simpa using hb),Zeg (by simp;omega) (by omega),ZN]
     rw [ZW hb] at hss
     have hw2:w64 (((List.length p.Periods:Nat):Int)-1)=((p.Periods.length-1:Nat):Int):=by rw [Zbj (by omega) (by omega)];omega
     by_cases hla:n=0
     ·rw [hw2,ZW (by simp;omega)]
      rw [ZW (by unfold ZcS;rw [ZT];omega)] at hss
      rw [hss] at hnext
      exact .inr ⟨_,rfl,.inr (.inr ⟨s,_,m',rfl,ZhJ hnext (λs1 h=>by cases h) _ (by omega)⟩)⟩
     rw [hw2,ZV (by simp;omega)]
     rw [ZV (by unfold ZcS;rw [ZT];omega)] at hss
     obtain ⟨o,ho1,ho2⟩:=hR hla s m' k hle hg.sm (by omega) h2 hx
     rw [show w64 ((given.length:Int)+1)=((given.length+1:Nat):Int) by rw [Zbj (by omega) (by omega)];omega,ho1,ZN]
     cases hq:srch p fuel n s (given++[(k:Int)]) with
     | none =>
      rw [hq] at ho2 hss
      simp only [Zg4] at ho2
      subst ho2
      simp only at hss
      rw [hss] at hnext
      exact .inr ⟨_,rfl,.inr (.inl ⟨rfl,ZhJ hnext (λs1 h=>by cases h) _ (by omega)⟩)⟩
     | some q =>
      cases q with
      | inr g =>
       rw [hq] at ho2 hss
       simp only [Zg4] at ho2
       obtain ⟨f2,m2,rfl⟩:=ho2
       simp only at hss
       rw [hss] at hnext
       exact .inr ⟨_,rfl,.inr (.inr ⟨f2,g,m2,rfl,ZhJ hnext (λs1 h=>by cases h) _ (by omega)⟩)⟩
      | inl f2 =>
       rw [hq] at ho2 hss
       simp only [Zg4] at ho2
       obtain ⟨m2,rfl,hm2⟩:=ho2
       simp only at hss
       have hrk:=ZdA h n _ _ _ hle hg.sm (ZeO h hf n s _ f2 (by simp;omega) ⟨λh=>by simp at h,λh=>by omega⟩ hle hg.sm hq)
       have hlen2:=hrk.1.length_le
       have hpop:popI (given++[(k:Int)]) (given.length:Int)=some given:=by
        unfold popI
        rw [ZW (by simp;omega),Zj,List.take_left']
        rfl
       have hadd:Zdu f2 (f.length:Int) ⟨(k:Int),(k:Int)+1,-1,s.length⟩=some (addA f2 f.length ⟨(k:Int),(k:Int)+1,-1,s.length⟩):=Zfd (by omega) (by rw [Zc6 _ hrk.1 hlt];omega) _
       simp only [Zf,ZU]
       rw [hpop,ZN,ZN]
       simp only
       rw [hb,hw,hadd,ZN]
       rw [hss] at hnext
       exact .inl ⟨_,rfl,⟨k+1,_,m2,by rw [hk1],by omega,hm2,hnext⟩,by simp only;omega⟩
    rw [ZV (by simpa using hb),ZN]
    rw [ZV hb] at hss
    simp only
    have hadd:∀ z,Zdu s (f.length:Int) z=some (addA s f.length z):=λz=>Zfd hlt (by omega) _
    rw [hw,hadd,ZN]
    rw [hss] at hnext
    exact .inl ⟨_,rfl,⟨k+1,_,m',by rw [hk1],by omega,h2,hnext⟩,by simp only;omega⟩
   obtain rfl:k=most:=by omega
   rw [ZV (by simp)]
   exact .inr ⟨_,rfl,.inl ⟨s,m,rfl,k2,k3⟩⟩) N (0,(s0,(given,m))) ⟨0,s0,m,rfl,by omega,hm,rfl⟩ (by simp only;omega)
 rw [hr,ZN]
 rcases e with ⟨s,m',rfl,e2,e3⟩|⟨rfl,e3⟩|⟨f',g,m',rfl,e3⟩
 ·simp only
  rw [e3]
  simp only [Zg4]
  have hg:=hG most s (Nat.le_refl _) e3
  have hlt:=hg.lt;have har:=hg.ar
  unfold endS
  rw [← hper]
  by_cases c:(most:Int)<per
  ·rw [ZW (by simpa using c)]
   have hz:given.length=0:=Classical.byContradiction λhz=>by have:=m4 hz;omega
   have hmo1:=m3 hz
   rw [ZW ⟨hz,by omega⟩,Zfd hlt (by omega),ZN,hmo1]
   exact ⟨_,rfl,m',rfl,e2⟩
  rw [ZV (by simpa using c),ZV (λhh=>by have:=m3 hh.1;omega)]
  exact ⟨_,rfl,m',rfl,e2⟩
 ·simp only
  rw [e3]
  exact ⟨_,rfl,rfl⟩
 simp only
 rw [e3]
 exact ⟨_,rfl,f',m',rfl⟩
theorem Zfu {fuel:Int}(hp:ZdR p=true)(hf:fuel<=1999){M:Nat}(hM:2000<=M):∀ (n:Nat) (f:List Z1) (given:List Int) (m:slvK),given.length+n=p.Periods.length->n≠0->preB p given->f.length<=2000->Zc2 f->(given.length=0↔f.length=0)->KOK p m →
  ∃ o,ZcK (M+n) p fuel (f,given,m) given.length=some o/\Zg4 p given (srch p fuel n f given) o
 | 0,f,given,m,_,h,_,_,_,_,_=>absurd rfl h
 | n+1,f,given,m,hl,_,hpre,hf2,hs,h0,hm=>by
  show ∃ o,Zch (M+n) (ZcK (M+n) p fuel) p fuel (f,given,m) given.length=some o/\_
  refine Zg0 hp hf (by omega) hl hpre hf2 hs h0 hm (λhn s m x h1 h2 h3 h4 h5=>?_)
  have:=Zfu hp hf hM n s (given++[x]) m (by simp;omega) hn (hpre.snoc h5) h1 h2 ⟨λh=>by simp at h,λh=>absurd h h3⟩ h4
  rw [Zz,ZD] at this
  exact this
def Zel (p:ZZ)(fuel:Int):List Int×List Z1×Int :=
 if ZdR p=true then
  if fuel<0∨fuel>1999 then ([],[],2) else
  if p.Periods.length=0 then ([],[],0) else
  match srch p fuel p.Periods.length [] [] with
  | none=>([],[],8)
  | some (.inl f)=>([],f,4)
  | some (.inr g)=>(g,[],0)
 else ([],[],340)
theorem Zek (hN:3000<=N)(p:ZZ)(fuel:Int):Zbm N p fuel=some (Zel p fuel):=by
 unfold Zbm Zel
 rw [ZeU (by omega),ZN]
 by_cases hp:ZdR p=true
 ·rw [ZW hp,ZW hp,ZV (by simp)]
  by_cases c:fuel<0∨fuel>1999
  ·rw [ZW (by simpa using c),ZW c]
  rw [ZV (by simpa using c),ZV c]
  by_cases z:p.Periods.length=0
  ·rw [ZW (by simpa using z),ZW z]
  rw [ZV (by simpa using z),ZV z]
  have hP:=(VP.of hp).len
  obtain ⟨M,hM⟩:∃ M,N=M+p.Periods.length:=⟨N-p.Periods.length,by omega⟩
  obtain ⟨o,h1,h2⟩:=Zfu hp (show fuel<=1999 by omega) (show 2000<=M by omega) p.Periods.length [] [] [] (by simp) z (λk hk=>by simp at hk) (by simp) (λy hy=>by simp at hy) (by simp) KOK.nil
  rw [← hM] at h1
  have h1':ZcK N p fuel ([],[],[]) 0=some o:=h1
  rw [h1',ZN]
  cases hq:srch p fuel p.Periods.length [] [] with
  | none=>rw [hq] at h2;simp only [Zg4] at h2;subst h2;rfl
  | some q =>
   cases q with
   | inl f=>rw [hq] at h2;simp only [Zg4] at h2;obtain ⟨m,rfl,_⟩:=h2;rfl
   | inr g=>rw [hq] at h2;simp only [Zg4] at h2;obtain ⟨f,m,rfl⟩:=h2;rfl
 rw [ZV hp,ZV hp,ZW (by simp)]
end
end Go.Sh

namespace Go.Sh
open Go Go.Eng
theorem Zj9 {given l:List Int}{k:Int}(h:given <+: l)(hl:given.length<l.length)(hk:l.getD given.length 0=k):given++[k] <+: l:=by
 obtain ⟨t,rfl⟩:=h
 cases t with
 | nil=>simp at hl
 | cons a t =>
  have:a=k:=by rw [← hk];simp [Zm]
  subst this
  exact ⟨t,by simp⟩
theorem Zj0 {given l:List Int}{k:Int}(h:given++[k] <+: l):given <+: l/\given.length<l.length/\l.getD given.length 0=k:=by
 have h1:=h.length_le
 rw [Zz,ZD] at h1
 refine ⟨(List.prefix_append _ _).trans h,by omega,?_⟩
 rw [Zc6 0 h (by simp),Zcg]
def ZnX (o l:List Int):Prop:=o=l∨∃ k,k<o.length/\o.getD k 0<l.getD k 0/\∀ m,m<k->o.getD m 0=l.getD m 0
section
variable {p:ZZ}
structure Ext (p:ZZ) (given l:List Int):Prop where
 pre:given <+: l
 len:l.length=p.Periods.length
 off:preB p l
 cl:∀ i,i<l.length->∀ j,j<=i->ZcP p i (l.getD i 0) j (l.getD j 0)=false
 z:given.length=0->l.getD 0 0=0
structure Zkq (p:ZZ) (given o:List Int):Prop where
 pre:given <+: o
 len:o.length=p.Periods.length
 off:preB p o
 cl:∀ i,given.length<=i->i<o.length->∀ j,j<=i->ZcP p i (o.getD i 0) j (o.getD j 0)=false
 z:given.length=0->o.getD 0 0=0
 least:∀ l,Ext p given l->ZnX o l
def Zmb (p:ZZ)(given:List Int)(q:SR):Prop:=match q with
 | none=>True
 | some (.inl _)=>∀ l,Ext p given l->False
 | some (.inr o)=>Zkq p given o
theorem Ext.snoc {given l:List Int}(h:Ext p given l)(hl:given.length<p.Periods.length):Ext p (given++[l.getD given.length 0]) l :=
 {pre:=Zj9 h.pre (by rw [h.len];exact hl) rfl,len:=h.len,off:=h.off,cl:=h.cl,z:=λe=>by simp at e }
theorem Ext.by {given l:List Int}(h:Ext p given l)(hl:given.length<p.Periods.length):byS p given.length (l.getD given.length 0) (given++[l.getD given.length 0]) = -1:=by
 rcases Ze7 (p:=p) given.length (l.getD given.length 0) (given++[l.getD given.length 0]) with ⟨e,_⟩|⟨j,e,h1,h2⟩
 ·exact e
 have hx:=(h.snoc hl).pre
 rw [← Zc6 0 hx (by simp;omega),h.cl given.length (by rw [h.len];exact hl) j h1] at h2
 cases h2
theorem Zhf {given:List Int}{c:Nat}{R:List Z1->List Int->SR}{k:Nat}{s s':List Z1}(hl:given.length<p.Periods.length)
  (hR:ZcS p given=false->Zmb p (given++[(k:Int)]) (R s (given++[(k:Int)])))
  (h:ZcM p given c (ZcS p given) R k s=some (.inl s')) {l:List Int} (hx:Ext p given l) (hk:l.getD given.length 0=(k:Int)):False:=by
 have hb:=hx.by hl
 have hx2:=hx.snoc hl
 rw [hk] at hb hx2
 unfold ZcM at h
 rw [ZW hb] at h
 cases hla:ZcS p given with
 | true=>rw [hla,ZW rfl] at h;cases h
 | false =>
  have hR:=hR hla
  rw [hla,ZV (by simp)] at h
  cases hr:R s (given++[(k:Int)]) with
  | none=>rw [hr] at h;cases h
  | some q =>
   cases q with
   | inr o=>rw [hr] at h;cases h
   | inl r =>
    rw [hr] at hR
    exact hR l hx2
theorem Zjo {given:List Int}{c:Nat}{R:List Z1->List Int->SR}{k:Nat}{s:List Z1}{o:List Int}(hl:given.length<p.Periods.length)(hpre:preB p given)(hoff:offB p given.length k=true)(hz:given.length=0->k=0)
  (hR:ZcS p given=false->Zmb p (given++[(k:Int)]) (R s (given++[(k:Int)])))
  (h:ZcM p given c (ZcS p given) R k s=some (.inr o)) (hle:∀ l,Ext p given l->(k:Int)<=l.getD given.length 0):Zkq p given o:=by
 unfold ZcM at h
 rcases Ze7 (p:=p) given.length (k:Int) (given++[(k:Int)]) with ⟨e,hcl⟩|⟨j,e,_⟩
 ·rw [ZW e] at h
  have hlex:∀ o l:List Int,given++[(k:Int)] <+: o->Ext p given l->l.getD given.length 0≠(k:Int)->ZnX o l:=λo l ho hx hne=>by
   obtain ⟨g1,g2,g3⟩:=Zj0 ho
   refine .inr ⟨given.length,g2,by rw [g3];have:=hle l hx;omega,λm hm=>?_⟩
   rw [Zc6 0 g1 hm,Zc6 0 hx.pre hm]
  cases hla:ZcS p given with
  | true =>
   rw [hla,ZW rfl] at h
   cases h
   have hlen:given.length+1=p.Periods.length:=by unfold ZcS at hla;rwa [ZT] at hla
   exact {
    pre:=List.prefix_append _ _
    len:=by simpa using hlen
    off:=hpre.snoc hoff
    cl:=λi hi hi2 j hj=>by
     rw [Zz,ZD] at hi2
     obtain rfl:i=given.length:=by omega
     rw [Zcg]
     exact hcl j hj
    z:=λe=>by
     have:=hz e
     have e2:=Zcg (given:=given) (x:=(k:Int))
     rw [e] at e2
     rw [e2,this]
     rfl
    least:=λl hx=>by
     by_cases hk:l.getD given.length 0=(k:Int)
     ·left
      have:=Zj9 hx.pre (by rw [hx.len];exact hl) hk
      exact this.eq_of_length (by rw [hx.len];simpa using hlen)
     exact hlex _ l (List.prefix_refl _) hx hk }
  | false =>
   have hR:=hR hla
   rw [hla,ZV (by simp)] at h
   cases hr:R s (given++[(k:Int)]) with
   | none=>rw [hr] at h;cases h
   | some q =>
    cases q with
    | inl r=>rw [hr] at h;cases h
    | inr o' =>
     rw [hr] at h hR
     simp only [ZQ,Sum.inr.injEq] at h
     subst h
     have hF:Zkq p (given++[(k:Int)]) o':=hR
     obtain ⟨g1,g2,g3⟩:=Zj0 hF.pre
     exact {
      pre:=g1
      len:=hF.len
      off:=hF.off
      cl:=λi hi hi2 j hj=>by
       by_cases ei:i=given.length
       ·subst ei
        rw [g3,Zc6 0 hF.pre (by simp;omega)]
        exact hcl j hj
       exact hF.cl i (by simp;omega) hi2 j hj
      z:=λe=>by
       have:=hz e
       rw [e] at g3
       rw [g3,this]
       rfl
      least:=λl hx=>by
       by_cases hk:l.getD given.length 0=(k:Int)
       ·have:=hx.snoc hl
        rw [hk] at this
        exact hF.least l this
       exact hlex _ l hF.pre hx hk }
 rw [ZV (by omega)] at h
 cases h
theorem Zis {fuel:Int}(hp:VP p):∀ (n:Nat) (f:List Z1) (given:List Int),given.length+n=p.Periods.length->preB p given->Zmb p given (srch p fuel n f given)
 | 0,f,given,_,_=>trivial
 | n+1,f,given,hl,hpre=>by
  simp only [srch]
  by_cases hc:fuel<(f.length:Int)
  ·rw [ZW hc];trivial
  rw [ZV hc]
  have hin:given.length<p.Periods.length:=by omega
  have hpe:=hp.per _ (List.getElem_mem hin)
  have hpg:p.Periods.getD given.length 0=p.Periods[given.length]:=Zcf hin 0
  have hmost:ZcA p given.length<=(p.Periods.getD given.length 0).toNat/\(given.length=0->ZcA p given.length=1)/\(given.length≠0->ZcA p given.length=(p.Periods.getD given.length 0).toNat):=by
   unfold ZcA
   split<;>omega
  obtain ⟨m1,m2,m3⟩:=hmost
  have hoff:∀ k:Nat,k<ZcA p given.length->offB p given.length k=true:=λk hk=>Zbp.2 ⟨by omega,by omega,by omega,by rw [Zj];omega⟩
  have hR:∀ (k:Nat) (s:List Z1),k<ZcA p given.length->Zmb p (given++[(k:Int)]) (srch p fuel n s (given++[(k:Int)])):=λk s hk=>Zis hp n s _ (by simp;omega) (hpre.snoc (hoff k hk))
  have hat:∀ l,Ext p given l->∃ k:Nat,k<ZcA p given.length/\l.getD given.length 0=(k:Int):=λl hx=>by
   have ho:=hx.off given.length (by rw [hx.len];exact hin)
   obtain ⟨_,_,o1,o2⟩:=Zbp.1 ho
   rw [Zj] at o2
   by_cases e:given.length=0
   ·have:=hx.z e
    exact ⟨0,by have:=m2 e;omega,by rw [e,this];rfl⟩
   exact ⟨(l.getD given.length 0).toNat,by have:=m3 e;omega,by omega⟩
  cases hu:upS (ZcM p given f.length (ZcS p given) (srch p fuel n)) (ZcA p given.length) (f++[⟨given.length,[]⟩]) with
  | none=>trivial
  | some q =>
   cases q with
   | inl s =>
    intro l hx
    obtain ⟨k,h1,h2⟩:=hat l hx
    obtain ⟨s1,s2,h3,h4⟩:=Zjh hu k h1
    exact Zhf hin (λ_=>hR k s1 h1) h4 hx h2
   | inr o =>
    obtain ⟨k,s1,h1,h2,h3⟩:=Zin hu
    refine Zjo hin hpre (hoff k h1) (λe=>by have:=m2 e;omega) (λ_=>hR k s1 h1) h3 (λl hx=>?_)
    obtain ⟨k',h4,h5⟩:=hat l hx
    rw [h5]
    refine Classical.byContradiction λhlt=>?_
    obtain ⟨s3,s4,h6,h7⟩:=Zjh h2 k' (by omega)
    exact Zhf hin (λ_=>hR k' s3 h4) h7 hx h5
end
end Go.Sh

namespace Go.Sh
open Go Go.Eng
set_option maxRecDepth 100000 in
theorem Zks (n:Nat):ZcQ (n+300)=some true:=by kernel_rfl
theorem ZmO {N:Nat}(hN:2000<=N):ZcQ N=some true:=by
 obtain ⟨n,rfl⟩:∃ n,N=n+300:=⟨N-300,by omega⟩
 exact Zks n
theorem ZlZ {α:Type}(l:List α):(l.all λ_=>true)=true:=by simp
section
variable {N:Nat} {p:ZZ}
theorem Zhp {l:List Int}(h:l.length<N)(h':l.length<1000):ZaM N l l=some true:=by
 unfold ZaM
 rw [ZV (by simp)]
 rw [Zdn (l:=l) (p:=λ_=>true) (bad:=.inr false) (fin:=.inl ()) (λk hk=>by
  simp only [ZaA]
  rw [ZW (by simpa using hk),Zd1 hk,ZN,ZN,ZV (by simp),Zb1 (by omega)];rfl) (by simp only [ZaA];rw [ZV (by simp)]) h,ZN,ZlZ,ZW rfl]
theorem Ziv {f:List Z1}(h:f.length<N)(h':f.length<10000)(hs:Zc2 f)(hN:2000<=N):ZcC N f f=some true:=by
 unfold ZcC
 rw [ZV (by simp)]
 rw [Zdn (l:=f) (p:=λ_=>true) (bad:=.inr false) (fin:=.inl ()) (λk hk=>by
  have hsm:=hs _ (List.getElem_mem hk)
  simp only [ZbF]
  rw [ZW (by simpa using hk),Zd1 hk]
  simp only [ZN]
  rw [ZV (by simp)]
  simp only [ZN,bne_self_eq_false,Zf,ZU,ZX]
  rw [Zdn (l:=f[k].Arms) (p:=λ_=>true) (bad:=.inr false) (fin:=.inl ()) (λm hm=>by
   simp only [ZbE]
   rw [Zd1 hk,ZN,ZW (by simpa using hm),ZN,Zd1 hm]
   simp only [ZN]
   rw [Zd1 hm,ZN,ZV (by simp),Zb1 (by omega)];rfl) (by simp only [ZbE];rw [Zd1 hk,ZN,ZV (by simp)]) (by omega),ZN,ZlZ,ZW rfl]
  simp only
  rw [Zb1 (by omega)]) (by simp only [ZbF];rw [ZV (by simp)]) h,ZN,ZlZ,ZW rfl]
theorem Zji (hp:ZdR p=true){fuel:Int}(h0:0<=fuel)(h1:fuel<=1999) :
  Zel p fuel=([],[],8)∨(∃ f,Zel p fuel=([],f,4)/\p.Periods.length≠0/\Zmu p=some f/\(f.length:Int)<=fuel+1/\Zc2 f/\∀ l,Ext p [] l->False)∨(∃ o,Zel p fuel=(o,[],0)/\Zkq p [] o):=by
 have h:=VP.of hp
 unfold Zel
 rw [ZW hp,ZV (by omega)]
 by_cases z:p.Periods.length=0
 ·rw [ZW z]
  refine .inr (.inr ⟨[],rfl,?_⟩)
  exact { pre:=List.prefix_refl _,len:=by simp [z],off:=λk hk=>by simp at hk,cl:=λi _ hi=>by simp at hi,z:=λ_=>rfl,least:=λl hx=>.inl (by
   have:=hx.len
   rw [z] at this
   exact (List.eq_nil_of_length_eq_zero this).symm) }
 rw [ZV z]
 have ht:=Zis (fuel:=fuel) h p.Periods.length [] [] (by simp) (λk hk=>by simp at hk)
 cases hq:srch p fuel p.Periods.length [] [] with
 | none=>exact .inl rfl
 | some q =>
  rw [hq] at ht
  cases q with
  | inl f =>
   have hm:Zmu p=some f:=by
    unfold Zmu
    rw [ZV z]
    exact ZeO h h1 p.Periods.length [] [] f (by simp) (by simp) (by simp) (λy hy=>by simp at hy) hq
   exact .inr (.inl ⟨f,rfl,z,hm,ZjZ p.Periods.length [] [] f (by simp;omega) hq,(ZdA h p.Periods.length [] [] f (by simp) (λy hy=>by simp at hy) (by unfold Zmu at hm;rw [ZV z] at hm;exact hm)).2.2,ht⟩)
  | inr o=>exact .inr (.inr ⟨o,rfl,ht⟩)
theorem Zkv (hp:ZdR p=true){a b:Int}(h0:0<=a)(hab:a<=b)(h1:b<=1999):(Zel p a).2.2=8∨Zel p b=Zel p a:=by
 unfold Zel
 rw [ZW hp,ZV (show ¬(a<0∨a>1999) by omega),ZW hp,ZV (show ¬(b<0∨b>1999) by omega)]
 by_cases z:p.Periods.length=0
 ·rw [ZW z,ZW z];right;rfl
 rw [ZV z,ZV z]
 cases hq:srch p a p.Periods.length [] [] with
 | none=>left;rfl
 | some q=>right;rw [Zit hab _ _ _ _ hq]
end
theorem solveMore_true (d:Za4)(a b:Int)(hd:Zdd d)(ha:InK .u8 a)(hb:InK .u8 b):∃ N,Zca N d a b=some true:=by
 refine ⟨5000,?_⟩
 have hN:2000<=5000:=by omega
 obtain ⟨p,hp,gp⟩:=ZdL hN hd
 have h:=VP.of gp.prob
 have ha:=ha.u8
 have hb:=hb.u8
 unfold Zca
 rw [ZmO hN,ZN]
 simp only [Bool.not_true,Zf,ZU]
 rw [hp,ZN,Zek (by omega),ZN,Zek (by omega),ZN,Zbj (x:=a) (by omega) (by omega),Zbj (x:=b) (by omega) (by omega),Zbj (by omega) (by omega)]
 have hlen:=gp.len
 rcases Zkv gp.prob ha.1 (show a<=a+b by omega) (by omega) with e|e
 ·rw [e];rfl
 rw [e]
 rcases Zji gp.prob ha.1 (show a<=1999 by omega) with e1|⟨f,e1,_,_,e2,e3,_⟩|⟨o,e1,e2⟩
 ·rw [e1];rfl
 ·rw [e1]
  simp only
  rw [ZV (by simp),ZW (by simp),Zhp (by simp) (by simp),ZN,ZW rfl,Ziv (by omega) (by omega) e3 hN]
  rfl
 rw [e1]
 have:=e2.len
 simp only
 rw [ZV (by simp),ZW (by simp),Zhp (by omega) (by omega),ZN,ZW rfl,Ziv (by simp) (by simp) (λy hy=>by simp at hy) hN]
 rfl
end Go.Sh

