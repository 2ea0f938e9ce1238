/- Part of the proof. -/
import Derived.Test.YthhhjjjbpcaadaaSolveTellsSh
import Derived.Test.YthhhjjjbpcaadaaSolveTellsRd
import Derived.KernelRfl
set_option linter.all false
namespace Go.Sh
open Go Go.Eng
theorem Zbr {x:Int}(h : -9223372036854775808<=x)(h2:x<=9223372036854775807):w64 x=x:=by
 unfold w64 IntKind.wrap
 simp only [IntKind.bits,IntKind.signed]
 by_cases h0:0<=x
 ·have:x%(2 ^ 64:Int)=x:=Int.emod_eq_of_lt h0 (by omega)
  simp only [this]
  rw [Z2]
  simp;omega
 have:x%(2 ^ 64:Int)=x+2 ^ 64:=by
  rw [← Int.add_emod_right]
  exact Int.emod_eq_of_lt (by omega) (by omega)
 simp only [this]
 rw [Z3]
 ·omega
 simp;omega
theorem ZiY {σ ρ:Type}(body:σ->Option (σ⊕ρ))(m:Nat)(x:σ):Za9 body (m+1) x=match body x with
  | none=>none
  | some (.inl y)=>Za9 body m y
  | some (.inr r)=>some r:=rfl
theorem Zdh {σ ρ:Type}{body:σ->Option (σ⊕ρ)}{m:Nat}{x y:σ}(h:body x=some (.inl y)):Za9 body (m+1) x=Za9 body m y:=by rw [ZiY,h]
theorem ZbX {σ ρ:Type}{body:σ->Option (σ⊕ρ)}{m:Nat}{x:σ}{r:ρ}(h:body x=some (.inr r)):Za9 body (m+1) x=some r:=by rw [ZiY,h]
theorem ZcR {σ ρ:Type}{body:σ->Option (σ⊕ρ)}(I:σ->Prop)(μ:σ->Nat)(Post:ρ->Prop)
  (step:∀ x,I x->(∃ y,body x=some (.inl y)/\I y/\μ y<μ x)∨(∃ r,body x=some (.inr r)/\Post r)):∀ (N:Nat) (x:σ),I x->μ x<N->∃ r,Za9 body N x=some r/\Post r
 | 0,x,_,h=>by omega
 | N+1,x,hI,h=>by
  rcases step x hI with ⟨y,h1,h2,h3⟩|⟨r,h1,h2⟩
  ·rw [Zdh h1]
   exact ZcR I μ Post step N y h2 (by omega)
  exact ⟨r,by rw [ZbX h1],h2⟩
theorem Ze7 {α:Type}(l:List α)(k:Nat):idx l (k:Int)=l[k]?:=by
 unfold idx
 rw [Z3 (by omega)]
 rfl
theorem ZnU {α:Type}{l:List α}{i:Int}(h0:0<=i)(h:i.toNat<l.length):idx l i=some l[i.toNat]:=by
 unfold idx
 rw [Z3 h0]
 exact Zw h
theorem Zcd {a b:Int}(h:b≠0):remI a b=some (a.tmod b):=by unfold remI;rw [Z2 h]
theorem ZoL {k:IntKind}{a b:Int}(h:b≠0):quoI k a b=some (k.wrap (a.tdiv b)):=by unfold quoI;rw [Z2 h]
theorem ZkV {α:Type}{l:List α}{k:Nat}(h:k<l.length):l.drop k=l[k]::l.drop (k+1):=List.drop_eq_getElem_cons h
theorem Zjq {a b:Int}(hb:0<b):(a.tmod b+b).tmod b=a%b:=by
 have h1:0<=a.tmod b+b:=by have:=Int.lt_tmod_of_pos a hb;omega
 rw [Zk h1,Int.add_emod_right]
 rw [Int.tmod_eq_emod]
 split
 ·simp
 have:(b.natAbs:Int)=b:=by omega
 rw [this]
 simp
theorem ZkO {α ρ:Type}{l:List α}{p:α->Bool}{body:Int->Option (Int⊕ρ)}{bad fin:ρ}(hstep:∀ (k:Nat) (h:k<l.length),body (k:Int)=if p l[k]=true then some (.inl ((k+1:Nat):Int)) else some (.inr bad))
  (hend:body (l.length:Int)=some (.inr fin)):∀ (n N k:Nat),l.length-k=n->k<=l.length->n<N->Za9 body N (k:Int)=some (if (l.drop k).all p then fin else bad):=by
 intro n
 induction n with
 | zero =>
  intro N k hn hk hN
  have:k=l.length:=by omega
  subst this
  cases N with
  | zero=>omega
  | succ N=>rw [ZbX hend];simp
 | succ n ih =>
  intro N k hn hk hN
  cases N with
  | zero=>omega
  | succ N =>
   have hlt:k<l.length:=by omega
   rw [ZkV hlt,List.all_cons]
   by_cases hp:p l[k]=true
   ·rw [Zdh (by rw [hstep k hlt,Z3 hp]),ih N (k+1) (by omega) (by omega) (by omega)]
    simp [hp]
   rw [ZbX (by rw [hstep k hlt,Z2 hp])]
   simp [hp]
end Go.Sh

namespace Go.Sh
open Go Go.Eng
def VSpan (s:Zae):Prop:=1<=s.Period/\s.Period<=960/\0<=s.From/\s.From<s.Period/\1<=s.Long/\s.Long<=s.Period
instance (s:Zae):Decidable (VSpan s):=by unfold VSpan;infer_instance
theorem Zdn (N:Nat)(s:Zae):ZbT N s=some (if VSpan s then 0 else 330):=by
 unfold ZbT
 by_cases h:VSpan s
 ·rw [Z3 h]
  unfold VSpan at h
  rw [Z2 (by simp;omega),Z2 (by simp;omega)]
 rw [Z2 h]
 unfold VSpan at h
 by_cases h1:((decide (s.Period<1))||((decide (s.Period>960))||((decide (s.From<0))||(decide (s.From≥s.Period)))))=true
 ·rw [Z3 h1]
 rw [Z2 h1,Z3]
 simp at h1 ⊢
 omega
theorem Ziv (N:Nat){a b:Int}(hb:0<b)(hb2:b<=1000000):ZdL N a b=some (a%b):=by
 unfold ZdL
 have h1:=Int.lt_tmod_of_pos a hb
 have h2:=Int.tmod_lt_of_pos a hb
 rw [Zcd (by omega),ZT,Zbr (by omega) (by omega),Zcd (by omega),ZT,Zjq hb]
theorem Zg2 (M:Nat):∀ (b N a:Nat),b<N->Za9 (λx:Int×Int=>ZbE M x.1 x.2) N ((a:Int),(b:Int))=some (Nat.gcd a b:Int):=by
 intro b
 induction b using Nat.strongRecOn with
 | _ b ih =>
  intro N a hN
  cases N with
  | zero=>omega
  | succ N =>
   by_cases hb:b=0
   ·subst hb
    rw [ZbX (r:=(a:Int))]
    ·simp
    simp [ZbE]
   have hlt:=Nat.mod_lt a (Nat.pos_of_ne_zero hb)
   rw [Zdh (y:=((b:Int),((a%b:Nat):Int)))]
   ·rw [ih (a%b) hlt N b (by omega)]
    rw [Nat.gcd_comm a b,Nat.gcd_rec b a,Nat.gcd_comm (a%b) b]
   simp only [ZbE]
   rw [Z3 (by simp;omega),Zcd (by omega),ZT,Zk (by omega)]
   rfl
theorem Zfz {N:Nat}{a b:Int}(ha:0<=a)(hb:0<=b)(hN:b.toNat<N):ZcX N a b=some (Nat.gcd a.toNat b.toNat:Int):=by
 unfold ZcX
 have:=Zg2 N b.toNat N a.toNat hN
 rw [Int.toNat_of_nonneg ha,Int.toNat_of_nonneg hb] at this
 rw [this]
 rfl
def gP (a b:Zae):Int:=(Nat.gcd a.Period.toNat b.Period.toNat:Int)
theorem ZnZ {a b:Zae}(ha:1<=a.Period):0<gP a b:=by
 have:0<Nat.gcd a.Period.toNat b.Period.toNat:=Nat.gcd_pos_of_pos_left _ (by omega)
 unfold gP;omega
theorem Zrf {a b:Zae}(ha:1<=a.Period):gP a b<=a.Period:=by
 have:=Nat.le_of_dvd (by omega:0<a.Period.toNat) (Nat.gcd_dvd_left a.Period.toNat b.Period.toNat)
 unfold gP;omega
theorem Zlz {a b:Zae}(ha:1<=a.Period):gP a b∣a.Period:=by
 have:=Int.natCast_dvd_natCast.2 (Nat.gcd_dvd_left a.Period.toNat b.Period.toNat)
 rwa [Int.toNat_of_nonneg (by omega)] at this
theorem ZkR {a b:Zae}(hb:1<=b.Period):gP a b∣b.Period:=by
 have:=Int.natCast_dvd_natCast.2 (Nat.gcd_dvd_right a.Period.toNat b.Period.toNat)
 rwa [Int.toNat_of_nonneg (by omega)] at this
def SepD (a b:Zae)(d:Int):Prop:=a.Long<=d%gP a b/\d%gP a b<=gP a b-b.Long
instance (a b:Zae) (d:Int):Decidable (SepD a b d):=by unfold SepD;infer_instance
end Go.Sh

namespace Go.Sh
open Go Go.Eng
theorem VSpan.bounds {s:Zae}(h:VSpan s):1<=s.Period/\s.Period<=960/\0<=s.From/\s.From<s.Period/\1<=s.Long/\s.Long<=s.Period:=h
theorem ZpD (a b:Zae):gP a b=gP b a:=by unfold gP;rw [Nat.gcd_comm]
theorem ZhI {N:Nat}(hN:2000<=N){a b:Zae}(ha:VSpan a)(hb:VSpan b):Zdc N a b=some (a.Long,gP a b-b.Long,gP a b):=by
 obtain ⟨a1,a2,a3,a4,a5,a6⟩:=ha
 obtain ⟨b1,b2,b3,b4,b5,b6⟩:=hb
 have hg0:0<gP a b:=ZnZ a1
 have hg1:gP a b<=a.Period:=Zrf a1
 unfold Zdc
 rw [Zfz (by omega) (by omega) (by omega),ZT]
 show some (a.Long,w64 (gP a b-b.Long),gP a b)=_
 rw [Zbr (by omega) (by omega)]
theorem Zg4 {N:Nat}(hN:2000<=N){a b:Zae}(ha:VSpan a)(hb:VSpan b):ZcK N a b=some (decide (SepD a b (b.From-a.From))):=by
 have hr:=ZhI hN ha hb
 obtain ⟨a1,a2,a3,a4,a5,a6⟩:=ha
 obtain ⟨b1,b2,b3,b4,b5,b6⟩:=hb
 have hg0:0<gP a b:=ZnZ a1
 have hg1:gP a b<=a.Period:=Zrf a1
 unfold ZcK
 by_cases h:((a.Period==b.Period)&&((a.From==b.From)&&((a.Long==b.Long)&&true)))=true
 ·rw [Z3 h]
  simp only [Ze,beq_iff_eq,ZY] at h
  symm
  simp only [ZW,decide_eq_false_iff_not]
  unfold SepD
  rw [h.2.1,Int.sub_self,Int.zero_emod]
  omega
 rw [Z2 h,hr]
 simp only [ZT]
 rw [Zbr (by omega) (by omega),Ziv N hg0 (by omega)]
 simp only [ZT,ZW]
 rw [Zf,decide_eq_true_iff]
 simp only [Ze,Z0,SepD]
theorem Zg8 {N:Nat}(hN:2000<=N)(a b:Zae):ZcM N a b=some (if VSpan a/\VSpan b then (decide (SepD a b (b.From-a.From)),0) else (false,330)):=by
 unfold ZcM
 rw [Zdn,Zdn]
 simp only [ZT]
 by_cases ha:VSpan a
 ·by_cases hb:VSpan b
  ·simp only [ha,hb,Z4,and_self,ZZ,Zg,Z1,Zg4 hN ha hb,ZT]
  simp [ha,hb]
 simp [ha]
end Go.Sh
namespace Go.Sh
open Go Go.Eng
theorem Zfr {α:Type}{b:Nat}{l m:List α}(h:l.length+m.length<=100000)(hb:b<=100000):appI b l m=some (l++m):=by
 unfold appI
 rw [Z3]
 have:(l.length+m.length)*b<=100000*100000:=Nat.mul_le_mul h hb
 omega
def allV (l:List Zae):Bool:=l.all λs=>decide (VSpan s)
theorem ZfJ {N:Nat}(hN:100<=N)(l:List Zae):ZbW N l=some (if 32<l.length then 3 else if allV l then 0 else 330):=by
 unfold ZbW
 by_cases h:32<l.length
 ·rw [Z3 (by simp;omega),Z3 h]
 rw [Z2 (by simp;omega),Z2 h]
 have:=ZkO (l:=l) (p:=λs=>decide (VSpan s)) (body:=λx:Int=>Za2 N l x) (bad:=.inr 330) (fin:=.inl ()) (λk hk=>by
  simp only [Za2]
  rw [Z3 (by simpa using hk),Ze7,Zw hk,ZT,Zdn,ZT]
  by_cases hv:VSpan l[k]
  ·simp only [hv,Z4,ZZ,Zg,Z1,decide_true]
   rw [Zbr (by omega) (by omega)];simp
  simp [hv]) (by simp [Za2]) l.length N 0 (by omega) (by omega) (by omega)
 rw [show ((0:Nat):Int)=0 from rfl] at this
 rw [this,ZT,List.drop_zero]
 have e:(l.all λs=>decide (VSpan s))=allV l:=rfl
 rw [e]
 cases allV l<;>rfl
def shift (b:Zae)(k:Int):Zae:=⟨b.Period,(b.From+k)%b.Period,b.Long⟩
end Go.Sh
namespace Go.Sh
open Go Go.Eng
def lcmP:List Zae->Nat
 | []=>1
 | s::l=>Nat.lcm s.Period.toNat (lcmP l)
theorem Zmd:∀ {l:List Zae},(∀ s∈l,VSpan s)->0<lcmP l
 | [],_=>by decide
 | s::l,h=>by
  have h1:=(h s (by simp)).bounds
  exact Nat.lcm_pos (by omega) (Zmd λt ht=>h t (by simp [ht]))
theorem ZgU:∀ {l:List Zae} {n:Nat},lcmP l∣n↔∀ s∈l,s.Period.toNat∣n
 | [],n=>by simp [lcmP]
 | s::l,n=>by
  simp only [lcmP,List.mem_cons,forall_eq_or_imp]
  rw [Nat.lcm_dvd_iff,ZgU]
theorem Zgn {N:Nat}(hN:2000<=N){ps:List Int}(hps:∀ p∈ps,1<=p/\p<=960):∀ (n M k:Nat) (m:Nat),ps.length-k=n->k<=ps.length->n<M->1<=m->m<=960->ps.length<=1000 →
  ∃ r,Za9 (λx:Int×Int=>Za7 N 960 ps x.1 x.2) M ((m:Int),(k:Int))=some r ∧
   (r<=960->r=((ps.drop k).foldl (λa p=>Nat.lcm a p.toNat) m:Nat))/\(960<r->960<(ps.drop k).foldl (λa p=>Nat.lcm a p.toNat) m):=by
 have mono:∀ (l:List Int) (a:Nat),(∀ p∈l,1<=p)->0<a->a<=l.foldl (λa p=>Nat.lcm a p.toNat) a:=by
  intro l
  induction l with
  | nil=>intro a _ _;exact Nat.le_refl _
  | cons p l ih =>
   intro a hp ha
   simp only [List.foldl_cons]
   have h1:=hp p (by simp)
   have hpos:0<Nat.lcm a p.toNat:=Nat.lcm_pos ha (by omega)
   exact Nat.le_trans (Nat.le_of_dvd hpos (Nat.dvd_lcm_left _ _)) (ih _ (λq hq=>hp q (by simp [hq])) hpos)
 intro n
 induction n with
 | zero =>
  intro M k m hn hk hM hm hm2 hl
  have:k=ps.length:=by omega
  subst this
  cases M with
  | zero=>omega
  | succ M =>
   refine ⟨(m:Int),ZbX (by simp only [Za7];rw [Z2 (by simp)]),λ_=>?_,λh=>?_⟩
   ·simp
   omega
 | succ n ih =>
  intro M k m hn hk hM hm hm2 hl
  cases M with
  | zero=>omega
  | succ M =>
   have hlt:k<ps.length:=by omega
   obtain ⟨p1,p2⟩:=hps ps[k] (List.getElem_mem hlt)
   have hg:0<Nat.gcd m ps[k].toNat:=Nat.gcd_pos_of_pos_left _ (by omega)
   have hq:(m:Int).tdiv (Nat.gcd m ps[k].toNat:Int)=((m/Nat.gcd m ps[k].toNat:Nat):Int):=by
    rw [Int.tdiv_eq_ediv_of_nonneg (by omega)];rfl
   have hqle:m/Nat.gcd m ps[k].toNat<=m:=Nat.div_le_self _ _
   have hmul:((m/Nat.gcd m ps[k].toNat:Nat):Int)*ps[k]=(Nat.lcm m ps[k].toNat:Int):=by
    have e1:ps[k]=(ps[k].toNat:Int):=by omega
    have e2:Nat.lcm m ps[k].toNat=m/Nat.gcd m ps[k].toNat*ps[k].toNat:=by
     rw [Nat.lcm,Nat.mul_comm m,Nat.mul_div_assoc _ (Nat.gcd_dvd_left _ _),Nat.mul_comm]
    rw [e2,Int.natCast_mul,← e1]
   have hlcm:Nat.lcm m ps[k].toNat<=960*960:=by
    have h1:m/Nat.gcd m ps[k].toNat*ps[k].toNat<=960*960:=Nat.mul_le_mul (by omega) (by omega)
    have e2:Nat.lcm m ps[k].toNat=m/Nat.gcd m ps[k].toNat*ps[k].toNat:=by
     rw [Nat.lcm,Nat.mul_comm m,Nat.mul_div_assoc _ (Nat.gcd_dvd_left _ _),Nat.mul_comm]
    omega
   have hlpos:0<Nat.lcm m ps[k].toNat:=Nat.lcm_pos (by omega) (by omega)
   have hbody:Za7 N 960 ps (m:Int) (k:Int)=if 960<Nat.lcm m ps[k].toNat then some (.inr (Nat.lcm m ps[k].toNat:Int)) else some (.inl ((Nat.lcm m ps[k].toNat:Int),((k+1:Nat):Int))):=by
    simp only [Za7]
    rw [Z3 (by simpa using hlt),Ze7,Zw hlt,ZT,Zfz (by omega) (by omega) (by omega),ZT,Zl,ZoL (by omega),ZT,hq]
    have hq0:(0:Int)<=((m/Nat.gcd m ps[k].toNat:Nat):Int):=Int.natCast_nonneg _
    have hq1:((m/Nat.gcd m ps[k].toNat:Nat):Int)<=960:=Int.ofNat_le.2 (Nat.le_trans hqle hm2)
    have e3:IntKind.i64.wrap ((m/Nat.gcd m ps[k].toNat:Nat):Int)=((m/Nat.gcd m ps[k].toNat:Nat):Int):=Zbr (Int.le_trans (by decide) hq0) (Int.le_trans hq1 (by decide))
    rw [e3,hmul,Zbr (by omega) (by omega),Zbr (by omega) (by omega)]
    by_cases hc:960<Nat.lcm m ps[k].toNat
    ·rw [Z3 (by simp;omega),Z3 hc]
    rw [Z2 (by simp;omega),Z2 hc];simp
   rw [ZkV hlt,List.foldl_cons]
   by_cases hc:960<Nat.lcm m ps[k].toNat
   ·refine ⟨(Nat.lcm m ps[k].toNat:Int),ZbX (by rw [hbody,Z3 hc]),λh=>?_,λ_=>?_⟩
    ·omega
    exact Nat.lt_of_lt_of_le hc (mono _ _ (λq hq=>(hps q (List.mem_of_mem_drop hq)).1) hlpos)
   rw [Zdh (by rw [hbody,Z2 hc])]
   exact ih M (k+1) _ (by omega) (by omega) (by omega) (by omega) (by omega) hl
theorem Zi0:∀ (l:List Zae) (m:Nat),(l.map Zae.Period).foldl (λa p=>Nat.lcm a p.toNat) m=Nat.lcm m (lcmP l)
 | [],m=>by simp [lcmP,Nat.lcm_one_right]
 | s::l,m=>by simp only [ZK,List.foldl_cons,lcmP];rw [Zi0 l,Nat.lcm_assoc]
def Zmk (l:List Zae):Int×Int:=if 32<l.length then (0,3) else if allV l=true then (if lcmP l<=960 then ((lcmP l:Int),0) else (0,6)) else (0,330)
theorem Zmp {l:List Zae}(h:allV l=true):∀ s∈l,VSpan s:=by
 unfold allV at h
 rw [Zm] at h
 exact λs hs=>by simpa using h s hs
theorem Zg6 {N:Nat}(hN:2000<=N)(l:List Zae):ZcL N l=some (Zmk l):=by
 unfold ZcL Zmk
 rw [ZfJ (by omega)]
 simp only [ZT]
 by_cases h:32<l.length
 ·simp [h]
 by_cases hv:allV l=true
 ·simp only [h,hv,Z4,Z1,ZZ,Zg]
  have hmk:Zh4 8 (l.length:Int) (l.length:Int) (0:Int)=some (List.replicate l.length 0):=by
   unfold Zh4;rw [Z3 (by omega)];simp
  rw [hmk,ZT]
  have hloop:∀ (n M k:Nat),l.length-k=n->k<=l.length->n<M->Za9 (λx:Int×List Int=>Zbm N l x.1 x.2) M ((k:Int),(l.map Zae.Period).take k++List.replicate (l.length-k) 0)=some (l.map Zae.Period):=by
   intro n
   induction n with
   | zero =>
    intro M k hn hk hM
    have:k=l.length:=by omega
    subst this
    cases M with
    | zero=>omega
    | succ M =>
     refine ZbX ?_
     simp only [Zbm]
     rw [Z2 (by simp)]
     simp [List.take_of_length_le]
   | succ n ih =>
    intro M k hn hk hM
    cases M with
    | zero=>omega
    | succ M =>
     have hlt:k<l.length:=by omega
     have hc:=ih M (k+1) (by omega) (by omega) (by omega)
     rw [Zdh (y:=(((k+1:Nat):Int),(l.map Zae.Period).take (k+1)++List.replicate (l.length-(k+1)) 0)),hc]
     simp only [Zbm]
     have hlen:((l.map Zae.Period).take k++List.replicate (l.length-k) 0).length=l.length:=by simp;omega
     rw [Z3 (by simpa using hlt),Ze7,Zw hlt,ZT,Ze7,Zw (by omega),ZT,Zbr (by omega) (by omega)]
     have hset:List.set ((l.map Zae.Period).take k++List.replicate (l.length-k) 0) k l[k].Period=(l.map Zae.Period).take (k+1)++List.replicate (l.length-(k+1)) 0:=by
      rw [List.set_append_right _ _ (by simp;omega)]
      have e1:k-((l.map Zae.Period).take k).length=0:=by simp;omega
      rw [e1,show l.length-k=(l.length-(k+1))+1 by omega,List.replicate_succ,List.set_cons_zero,List.take_succ_eq_append_getElem (by simpa using hlt)]
      simp
     simp only [Zl,hset]
     rfl
  have hc:=hloop l.length N 0 (by omega) (by omega) (by omega)
  simp only [List.take_zero,ZN,Nat.sub_zero] at hc
  rw [show ((0:Nat):Int)=0 from rfl] at hc
  rw [hc,ZT]
  have hVl:=Zmp hv
  obtain ⟨r,h1,h2,h3⟩:=Zgn hN (ps:=l.map Zae.Period) (λp hp=>by
   obtain ⟨s,hs,rfl⟩:=List.mem_map.1 hp
   have:=(hVl s hs).bounds;omega) l.length N 0 1 (by simp) (by omega) (by omega) (by omega) (by omega) (by simp;omega)
  rw [List.drop_zero,Zi0,Nat.lcm_one_left] at h2 h3
  have hf:Zdd N 960 (l.map Zae.Period)=some r:=by
   unfold Zdd
   have h1':Za9 (λx:Int×Int=>Za7 N 960 (l.map Zae.Period) x.1 x.2) N (1,0)=some r:=h1
   rw [h1',ZT]
  rw [hf,ZT]
  by_cases hc2:960<r
  ·rw [Z3 (by simpa using hc2),Z2 (by have:=h3 hc2;omega)]
  have:=h2 (by omega)
  rw [Z2 (by simpa using hc2),Z3 (by omega),this]
 simp [h,hv]
end Go.Sh
namespace Go.Sh
open Go Go.Eng
theorem ZoP {d g:Int}(hg:0<g):(-d)%g=if d%g=0 then 0 else g-d%g:=by
 have h0:=Int.emod_nonneg d (show g≠0 by omega)
 have h1:=Int.emod_lt_of_pos d hg
 have hd:=Int.mul_ediv_add_emod d g
 split
 ·rename_i h
  have : -d=g*(-(d/g)):=by rw [Int.mul_neg];omega
  rw [this];exact Int.mul_emod_right _ _
 rename_i h
 have : -d=(g-d%g)+g*(-(d/g)-1):=by rw [Int.mul_sub,Int.mul_neg];omega
 rw [this,Int.add_mul_emod_self_left]
 exact Int.emod_eq_of_lt (by omega) (by omega)
theorem ZoH {a b:Zae}(ha:VSpan a)(hb:VSpan b):SepD b a (a.From-b.From)↔SepD a b (b.From-a.From):=by
 obtain ⟨a1,a2,a3,a4,a5,a6⟩:=ha.bounds
 obtain ⟨b1,b2,b3,b4,b5,b6⟩:=hb.bounds
 have hg0:0<gP a b:=ZnZ a1
 have h0:=Int.emod_nonneg (b.From-a.From) (show gP a b≠0 by omega)
 have h1:=Int.emod_lt_of_pos (b.From-a.From) hg0
 unfold SepD
 rw [ZpD b a,show a.From-b.From = -(b.From-a.From) by omega,ZoP hg0]
 split<;>omega
theorem Zns {a b:Zae}(ha:VSpan a)(hb:VSpan b)(k:Int):SepD (shift a k) (shift b k) ((shift b k).From-(shift a k).From)↔SepD a b (b.From-a.From):=by
 obtain ⟨a1,a2,a3,a4,a5,a6⟩:=ha.bounds
 obtain ⟨b1,b2,b3,b4,b5,b6⟩:=hb.bounds
 have hga:gP a b∣a.Period:=Zlz a1
 have hgb:gP a b∣b.Period:=ZkR b1
 have hg:gP (shift a k) (shift b k)=gP a b:=rfl
 have hd:((shift b k).From-(shift a k).From)%gP a b=(b.From-a.From)%gP a b:=by
  show ((b.From+k)%b.Period-(a.From+k)%a.Period)%gP a b=_
  rw [Int.sub_emod,Int.emod_emod_of_dvd _ hgb,Int.emod_emod_of_dvd _ hga,← Int.sub_emod]
  congr 1;omega
 unfold SepD
 rw [hg,hd]
 rfl
end Go.Sh
namespace Go.Sh
open Go Go.Eng
def allB (n:Nat)(p:Nat->Bool):Bool:=(List.range n).all p
theorem Zbl {n:Nat}{p:Nat->Bool}:allB n p=true↔∀ k,k<n->p k=true:=by simp [allB]
theorem ZdD {n:Nat}{p q:Nat->Bool}(h:∀ k,k<n->p k=q k):allB n p=allB n q:=by
 rw [Zf,Zbl,Zbl]
 exact ⟨λhp k hk=>by rw [← h k hk];exact hp k hk,λhp k hk=>by rw [h k hk];exact hp k hk⟩
theorem Zgt {ρ:Type}{n:Nat}{p:Nat->Bool}{body:Int->Option (Int⊕ρ)}{bad fin:ρ}(hstep:∀ k:Nat,k<n->body (k:Int)=if p k=true then some (.inl ((k+1:Nat):Int)) else some (.inr bad))
  (hend:body (n:Int)=some (.inr fin)) {N:Nat} (hN:n<N):Za9 body N 0=some (if allB n p then fin else bad):=by
 have key:∀ (m N k:Nat),n-k=m->k<=n->m<N->Za9 body N (k:Int)=some (if (List.range' k m).all p then fin else bad):=by
  intro m
  induction m with
  | zero =>
   intro N k h1 h2 h3
   obtain rfl:k=n:=by omega
   cases N with
   | zero=>omega
   | succ N=>rw [ZbX hend];rfl
  | succ m ih =>
   intro N k h1 h2 h3
   cases N with
   | zero=>omega
   | succ N =>
    rw [ZO,List.all_cons]
    by_cases hp:p k=true
    ·rw [Zdh (by rw [hstep k (by omega),Z3 hp]),ih N (k+1) (by omega) (by omega) (by omega),hp,Zj]
    rw [ZbX (by rw [hstep k (by omega),Z2 hp])]
    simp [hp]
 have:=key n N 0 (by omega) (by omega) hN
 rw [← List.range_eq_range'] at this
 exact this
theorem Zh6 {β ρ:Type}{n:Nat}{p:Nat->Bool}{f:β->Nat->β}{body:Int×β->Option ((Int×β)⊕ρ)}{bad:ρ}{fin:β->ρ}(I:Nat->β->Prop)
  (hstep:∀ k b,k<n->I k b->body ((k:Int),b)=if p k=true then some (.inl (((k+1:Nat):Int),f b k)) else some (.inr bad)) (hI:∀ k b,k<n->I k b->p k=true->I (k+1) (f b k))
  (hend:∀ b,I n b->body ((n:Int),b)=some (.inr (fin b))) {N:Nat} (hN:n<N) {b0:β} (h0:I 0 b0):Za9 body N (0,b0)=some (if allB n p then fin ((List.range n).foldl f b0) else bad)/\(allB n p=true->I n ((List.range n).foldl f b0)):=by
 have key:∀ (m N k:Nat) (b:β),n-k=m->k<=n->m<N->I k b->Za9 body N ((k:Int),b)=some (if (List.range' k m).all p then fin ((List.range' k m).foldl f b) else bad)/\((List.range' k m).all p=true->I n ((List.range' k m).foldl f b)):=by
  intro m
  induction m with
  | zero =>
   intro N k b h1 h2 h3 hb
   obtain rfl:k=n:=by omega
   cases N with
   | zero=>omega
   | succ N=>exact ⟨by rw [ZbX (hend b hb)];rfl,λ_=>hb⟩
  | succ m ih =>
   intro N k b h1 h2 h3 hb
   cases N with
   | zero=>omega
   | succ N =>
    rw [ZO,List.all_cons,List.foldl_cons]
    by_cases hp:p k=true
    ·obtain ⟨i1,i2⟩:=ih N (k+1) (f b k) (by omega) (by omega) (by omega) (hI k b (by omega) hb hp)
     rw [hp,Zj]
     exact ⟨by rw [Zdh (by rw [hstep k b (by omega) hb,Z3 hp]),i1],i2⟩
    refine ⟨?_,λh=>?_⟩
    ·rw [ZbX (by rw [hstep k b (by omega) hb,Z2 hp])];simp [hp]
    simp [hp] at h
 obtain ⟨h1,h2⟩:=key n N 0 b0 (by omega) (by omega) hN h0
 rw [← List.range_eq_range'] at h1 h2
 exact ⟨h1,h2⟩
theorem ZbA {n:Nat}(h:n<1000000):w64 ((n:Int)+1)=((n+1:Nat):Int):=by rw [Zbr (by omega) (by omega)];omega
theorem Zdp {α:Type}{l:List α}{k:Nat}(h:k<l.length):idx l (k:Int)=some l[k]:=by rw [Ze7,Zw h]
theorem Zfk {α:Type}{l:List α}{i:Int}(d:α)(h0:0<=i)(h:i<l.length):idx l i=some (l.getD i.toNat d):=by
 rw [ZnU h0 (by omega)]
 simp [Zq,Zw (show i.toNat<l.length by omega)]
theorem ZaX {α:Type}{l:List α}{k:Nat}(h:k<l.length)(d:α):l.getD k d=l[k]:=by simp [Zq,h]
end Go.Sh

namespace Go.Sh
open Go Go.Eng
def mkS (p:Int):Zae:=⟨p,0,1⟩
def perB (p:Int):Bool:=decide (1<=p)&&decide (p<=240)
def lcmL (P:List Int):Nat:=lcmP (P.map mkS)
def perU (P:List Int)(u:ZaD):Int:=P.getD u.Stream.toNat 0
def useB (P:List Int)(u:ZaD):Bool:=decide (0<=u.Stream/\u.Stream<(P.length:Int)/\0<=u.Port/\u.Port<48/\0<=u.From/\u.From<perU P u/\1<=u.Long/\u.Long<=perU P u)
def ZcJ (p:Z6):Bool:=decide (p.Periods.length<=12)&&decide (p.Uses.length<=192)&&p.Periods.all perB&&p.Uses.all (useB p.Periods)&&decide (lcmL p.Periods<=960)
theorem Zhe {p:Int}:perB p=true↔1<=p/\p<=240:=by simp [perB]
theorem Zmo {P:List Int}(h:P.all perB=true):allV (P.map mkS)=true:=by
 unfold allV
 rw [Zm] at h ⊢
 intro s hs
 obtain ⟨p,hp,rfl⟩:=List.mem_map.1 hs
 have:=Zhe.1 (h p hp)
 rw [Z0]
 show 1<=p/\p<=960/\(0:Int)<=0/\(0:Int)<p/\(1:Int)<=1/\(1:Int)<=p
 omega
theorem ZjI {N:Nat}(hN:2000<=N){P:List Int}(hl:P.length<=1000):Zdy N P=some (Zmk (P.map mkS)):=by
 unfold Zdy
 have hmk:Zh4 24 (P.length:Int) (P.length:Int) (Zae.mk 0 0 0)=some (List.replicate P.length (Zae.mk 0 0 0)):=by
  unfold Zh4;rw [Z3 (by omega)];simp
 rw [hmk,ZT]
 have hloop:∀ (n M k:Nat),P.length-k=n->k<=P.length->n<M->Za9 (λx:Int×List Zae=>ZbU N P x.1 x.2) M ((k:Int),(P.map mkS).take k++List.replicate (P.length-k) (Zae.mk 0 0 0))=some (P.map mkS):=by
  intro n
  induction n with
  | zero =>
   intro M k hn hk hM
   have:k=P.length:=by omega
   subst this
   cases M with
   | zero=>omega
   | succ M =>
    refine ZbX ?_
    simp only [ZbU]
    rw [Z2 (by simp)]
    simp [List.take_of_length_le]
  | succ n ih =>
   intro M k hn hk hM
   cases M with
   | zero=>omega
   | succ M =>
    have hlt:k<P.length:=by omega
    have hc:=ih M (k+1) (by omega) (by omega) (by omega)
    rw [Zdh (y:=(((k+1:Nat):Int),(P.map mkS).take (k+1)++List.replicate (P.length-(k+1)) (Zae.mk 0 0 0))),hc]
    simp only [ZbU]
    have hlen:((P.map mkS).take k++List.replicate (P.length-k) (Zae.mk 0 0 0)).length=P.length:=by simp;omega
    rw [Z3 (by simpa using hlt),Ze7,Zw hlt,ZT,Ze7,Zw (by omega),ZT,Zbr (by omega) (by omega)]
    have hset:List.set ((P.map mkS).take k++List.replicate (P.length-k) (Zae.mk 0 0 0)) k (mkS P[k])=(P.map mkS).take (k+1)++List.replicate (P.length-(k+1)) (Zae.mk 0 0 0):=by
     rw [List.set_append_right _ _ (by simp;omega)]
     have e1:k-((P.map mkS).take k).length=0:=by simp;omega
     rw [e1,show P.length-k=(P.length-(k+1))+1 by omega,List.replicate_succ,List.set_cons_zero,List.take_succ_eq_append_getElem (by simpa using hlt)]
     simp
    simp only [Zl]
    rw [show (Zae.mk P[k] 0 1)=mkS P[k] from rfl,hset]
    rfl
 have hc:=hloop P.length N 0 (by omega) (by omega) (by omega)
 simp only [List.take_zero,ZN,Nat.sub_zero] at hc
 rw [show ((0:Nat):Int)=0 from rfl] at hc
 rw [hc,ZT,Zg6 hN,ZT]
theorem ZoW {P:List Int}(h:P.all perB=true):0<lcmL P:=Zmd (Zmp (Zmo h))
theorem ZkM {P:List Int}{n:Nat}:lcmL P∣n↔∀ p∈P,p.toNat∣n:=by
 unfold lcmL
 rw [ZgU]
 simp [mkS]
theorem ZhS {N:Nat}(hN:2000<=N){P:List Int}(hl:P.length<=12)(h:P.all perB=true):Zdy N P=some (if lcmL P<=960 then ((lcmL P:Int),0) else (0,6)):=by
 rw [ZjI hN (by omega)]
 unfold Zmk
 rw [Z2 (by simp;omega),Z3 (Zmo h)]
 rfl
theorem Zgu {α ρ:Type}{l:List α}{p:α->Bool}{body:Int->Option (Int⊕ρ)}{bad fin:ρ}(hstep:∀ (k:Nat) (h:k<l.length),body (k:Int)=if p l[k]=true then some (.inl ((k+1:Nat):Int)) else some (.inr bad))
  (hend:body (l.length:Int)=some (.inr fin)) {N:Nat} (hN:l.length<N):Za9 body N 0=some (if l.all p=true then fin else bad):=by
 have:=ZkO hstep hend l.length N 0 (by omega) (by omega) hN
 rw [show ((0:Nat):Int)=0 from rfl] at this
 rw [this,List.drop_zero]
theorem ZnT {P:List Int}{u:ZaD}(h0:0<=u.Stream)(h1:u.Stream<(P.length:Int)):idx P u.Stream=some (perU P u):=Zfk 0 h0 h1
theorem ZfT {P:List Int}{u:ZaD}:useB P u=true↔0<=u.Stream/\u.Stream<(P.length:Int)/\0<=u.Port/\u.Port<48/\0<=u.From/\u.From<perU P u/\1<=u.Long/\u.Long<=perU P u:=by simp [useB]
theorem Zdw {N:Nat}(hN:2000<=N)(p:Z6):ZcF N p=some (if ZcJ p=true then 0 else 340):=by
 unfold ZcF ZcJ
 by_cases h1:p.Periods.length<=12
 ·by_cases h2:p.Uses.length<=192
  ·rw [Z2 (by simp;omega)]
   simp only [h1,h2,decide_true,Zj]
   rw [Zgu (l:=p.Periods) (p:=perB) (bad:=.inr 340) (fin:=.inl ()) (λk hk=>?_) (by simp [Zcj]) (by omega)]
   ·cases hP:p.Periods.all perB with
    | false=>simp
    | true =>
     simp only [Z4,ZT,Zj]
     rw [ZhS hN h1 hP,ZT]
     by_cases hc:lcmL p.Periods<=960
     ·rw [Z3 hc]
      simp only [ZZ,Zg,Z1]
      rw [Zgu (l:=p.Uses) (p:=useB p.Periods) (bad:=.inr 340) (fin:=.inl ()) (λk hk=>?_) (by simp [Zci]) (by omega)]
      ·cases hU:p.Uses.all (useB p.Periods) with
       | false=>simp
       | true=>simp [hc]
      simp only [Zci]
      rw [Z3 (by simpa using hk),Zdp hk,ZT]
      have hw:w64 ((k:Int)+1)=((k+1:Nat):Int):=ZbA (by omega)
      rw [hw]
      by_cases hc:0<=p.Uses[k].Stream/\p.Uses[k].Stream<(p.Periods.length:Int)/\0<=p.Uses[k].Port/\p.Uses[k].Port<48
      ·obtain ⟨c1,c2,c3,c4⟩:=hc
       rw [Z2 (by simp;omega),ZnT c1 c2]
       simp only [ZT]
       by_cases hu:useB p.Periods p.Uses[k]=true
       ·obtain ⟨_,_,_,_,u1,u2,u3,u4⟩:=ZfT.1 hu
        rw [Z2 (by simp;omega),Z3 hu]
       have hn:¬ (0<=p.Uses[k].From/\p.Uses[k].From<perU p.Periods p.Uses[k]/\1<=p.Uses[k].Long/\p.Uses[k].Long<=perU p.Periods p.Uses[k]):=λq=>hu (ZfT.2 ⟨c1,c2,c3,c4,q⟩)
       rw [Z2 hu,Z3 (by simp;omega)]
      have hu:¬ useB p.Periods p.Uses[k]=true:=λq=>hc (by obtain ⟨a,b,c,d,_⟩:=ZfT.1 q;exact ⟨a,b,c,d⟩)
      rw [Z3 (by simp;omega),Z2 hu]
     rw [Z2 hc];simp [hc]
   simp only [Zcj]
   rw [Z3 (by simpa using hk),Zdp hk]
   simp only [ZT]
   rw [ZbA (by omega)]
   by_cases c:perB p.Periods[k]=true
   ·have:=Zhe.1 c
    rw [Z2 (by simp;omega),Z3 c]
   rw [Z3,Z2 c]
   simp [perB] at c ⊢;omega
  rw [Z3 (by simp;omega)];simp [h2]
 rw [Z3 (by simp;omega)];simp [h1]
theorem Zku {p:Z6}:ZcJ p=true↔p.Periods.length<=12/\p.Uses.length<=192/\p.Periods.all perB=true/\p.Uses.all (useB p.Periods)=true/\lcmL p.Periods<=960:=by
 unfold ZcJ
 simp only [Ze,Z0]
 constructor
 ·rintro ⟨⟨⟨⟨a,b⟩,c⟩,d⟩,e⟩;exact ⟨a,b,c,d,e⟩
 rintro ⟨a,b,c,d,e⟩;exact ⟨⟨⟨⟨a,b⟩,c⟩,d⟩,e⟩
end Go.Sh
namespace Go.Sh
open Go Go.Eng
structure VP (p:Z6):Prop where
 len:p.Periods.length<=12
 uses:p.Uses.length<=192
 per:∀ q∈p.Periods,1<=q/\q<=240
 use:∀ u∈p.Uses,0<=u.Stream/\u.Stream<(p.Periods.length:Int)/\0<=u.Port/\u.Port<48/\0<=u.From/\u.From<perU p.Periods u/\1<=u.Long/\u.Long<=perU p.Periods u
 lcm:lcmL p.Periods<=960
 lpos:0<lcmL p.Periods
theorem VP.of {p:Z6}(h:ZcJ p=true):VP p:=by
 obtain ⟨h1,h2,h3,h4,h5⟩:=Zku.1 h
 exact ⟨h1,h2,λq hq=>Zhe.1 (List.all_eq_true.1 h3 q hq),λu hu=>ZfT.1 (List.all_eq_true.1 h4 u hu),h5,ZoW h3⟩
theorem Zpv {P:List Int}{u:ZaD}(h0:0<=u.Stream)(h1:u.Stream<(P.length:Int)):perU P u∈P:=by
 unfold perU
 rw [ZaX (by omega)]
 exact List.getElem_mem _
theorem VP.peru {p:Z6}(h:VP p){u:ZaD}(hu:u∈p.Uses):1<=perU p.Periods u/\perU p.Periods u<=240:=by
 obtain ⟨a,b,_⟩:=h.use u hu
 exact h.per _ (Zpv a b)
def ZdF (p:Z6)(u:ZaD)(x:Int):Zae:=⟨perU p.Periods u,(u.From+x)%perU p.Periods u,u.Long⟩
def u0:ZaD:=⟨0,0,0,0⟩
theorem VP.vspan {p:Z6}(h:VP p){u:ZaD}(hu:u∈p.Uses)(x:Int):VSpan (ZdF p u x):=by
 obtain ⟨_,_,_,_,_,_,h1,h2⟩:=h.use u hu
 obtain ⟨h3,h4⟩:=h.peru hu
 have h5:=Int.emod_nonneg (u.From+x) (show perU p.Periods u≠0 by omega)
 have h6:=Int.emod_lt_of_pos (u.From+x) (show 0<perU p.Periods u by omega)
 show 1<=perU p.Periods u/\perU p.Periods u<=960/\0<=(u.From+x)%perU p.Periods u/\(u.From+x)%perU p.Periods u<perU p.Periods u/\1<=u.Long/\u.Long<=perU p.Periods u
 omega
theorem VP.rem {p:Z6}(h:VP p){u:ZaD}(hu:u∈p.Uses){x:Int}(h0:0<=x)(h1:x<=1000000):remI (w64 (u.From+x)) (perU p.Periods u)=some ((u.From+x)%perU p.Periods u):=by
 obtain ⟨_,_,_,_,h5,h6,h7,h8⟩:=h.use u hu
 obtain ⟨h3,h4⟩:=h.peru hu
 rw [Zbr (by omega) (by omega),Zcd (by omega),Zk (by omega)]
theorem ZeF (N:Nat){p:Z6}(h:VP p){u:ZaD}(hu:u∈p.Uses){x:Int}(h0:0<=x)(h1:x<=1000000):Zcf N p u x=some (ZdF p u x):=by
 obtain ⟨a,b,_⟩:=h.use u hu
 unfold Zcf
 rw [ZnT a b,ZT,h.rem hu h0 h1,ZT]
 rfl
def offB (p:Z6)(i x:Int):Bool:=decide (0<=i/\i<(p.Periods.length:Int)/\0<=x/\x<p.Periods.getD i.toNat 0)
theorem Zbe {p:Z6}{i x:Int}:offB p i x=true↔0<=i/\i<(p.Periods.length:Int)/\0<=x/\x<p.Periods.getD i.toNat 0:=by simp [offB]
theorem Zd7 (N:Nat){p:Z6}{i x:Int}(h0:0<=i)(h1:i<(p.Periods.length:Int)):ZcA N p i x=some (offB p i x):=by
 unfold ZcA
 by_cases hx:x≥0
 ·rw [Z3 (by simpa using hx),Zfk 0 h0 h1]
  simp only [ZT]
  congr 1
  rw [Zf,Zbe]
  simp
  omega
 rw [Z2 (by simpa using hx),ZT]
 congr 1
 symm
 rw [Bool.eq_false_iff]
 intro q
 have:=Zbe.1 q
 omega
def hitB (p:Z6)(i a j b:Int)(k m:Nat):Bool :=
 decide (k≠m)&&(((p.Uses.getD k u0).Stream==i)&&(((p.Uses.getD m u0).Stream==j)&&(((p.Uses.getD k u0).Port==(p.Uses.getD m u0).Port) &&
  !(decide (SepD (ZdF p (p.Uses.getD k u0) a) (ZdF p (p.Uses.getD m u0) b) ((ZdF p (p.Uses.getD m u0) b).From-(ZdF p (p.Uses.getD k u0) a).From))))))
def ZbI (p:Z6)(i a j b:Int):Bool := !(allB p.Uses.length λk=>allB p.Uses.length λm => !(hitB p i a j b k m))
theorem ZoI {s:Zae}(hs:VSpan s):¬ SepD s s (s.From-s.From):=by
 have:=hs.bounds
 unfold SepD
 simp
 omega
theorem Zpl {u v:ZaD}(h:(((u.Stream==v.Stream)&&((u.Port==v.Port)&&((u.From==v.From)&&((u.Long==v.Long)&&true))))=true)):u=v:=by
 obtain ⟨a,b,c,d⟩:=u
 obtain ⟨a',b',c',d'⟩:=v
 simp at h
 obtain ⟨rfl,rfl,rfl,rfl⟩:=h
 rfl
theorem Zdo {N:Nat}(hN:2000<=N){p:Z6}(h:VP p){i a j b:Int}(ha:0<=a)(ha2:a<=1000)(hb:0<=b)(hb2:b<=1000)(hij:i=j->a=b):Zcg N p i a j b=some (ZbI p i a j b):=by
 have hl:=h.uses
 unfold Zcg Zff
 simp only [ZT]
 have round:∀ k m:Nat,∀ (hk:k<p.Uses.length) (hm:m<p.Uses.length),p.Uses[k].Stream=i->p.Uses[m].Stream=j →
   Zbb N p a b false p.Uses[k] p.Uses[m]=some (if SepD (ZdF p p.Uses[k] a) (ZdF p p.Uses[m] b) ((ZdF p p.Uses[m] b).From-(ZdF p p.Uses[k] a).From) then (false,0) else (true,1)):=by
  intro k m hk hm e1 e2
  unfold Zbb
  have hv1:=h.vspan (List.getElem_mem hk) a
  have hv2:=h.vspan (List.getElem_mem hm) b
  by_cases c:((p.Uses[k].Stream==p.Uses[m].Stream)&&((p.Uses[k].Port==p.Uses[m].Port)&&((p.Uses[k].From==p.Uses[m].From)&&((p.Uses[k].Long==p.Uses[m].Long)&&true))))=true
  ·rw [Z3 c]
   have e:=Zpl c
   have hab:a=b:=hij (by rw [← e1,← e2,e])
   subst hab
   rw [← e,Z2 (ZoI hv1)]
  have hA:=Zg8 hN (ZdF p p.Uses[k] a) (ZdF p p.Uses[m] b)
  rw [Z3 ⟨hv1,hv2⟩] at hA
  rw [Z2 c,ZeF N h (List.getElem_mem hk) ha (by omega),ZT,ZeF N h (List.getElem_mem hm) hb (by omega),ZT,hA,ZT]
  by_cases s:SepD (ZdF p p.Uses[k] a) (ZdF p p.Uses[m] b) ((ZdF p p.Uses[m] b).From-(ZdF p p.Uses[k] a).From)
  ·simp [s]
  simp [s]
 have loop:Zdf N (λ(s:Bool×Nat) (x16:ZaD) (x17:ZaD)=>Zhp (λv:Bool=>Zbb N p a b v x16 x17) s) p i j (false,0)=some (if ZbI p i a j b=true then (true,1) else (false,0)):=by
  unfold Zdf
  rw [(Zh6 (n:=p.Uses.length) (p:=λk=>allB p.Uses.length λm => !(hitB p i a j b k m)) (f:=λs _=>s) (bad:=.inr (true,1)) (fin:=λs=>.inl s) (λ_ s=>s=(false,0)) (λk s hk hs=>?_) (λ_ s _ hs _=>hs) (λs _=>by simp [ZbO]) (N:=N) (by omega) rfl).1]
  ·unfold ZbI
   have hf:∀ (l:List Nat),l.foldl (λ(s:Bool×Nat) _=>s) (false,0)=(false,0):=by
    intro l;induction l with
    | nil=>rfl
    | cons x l ih=>simpa using ih
   rw [hf]
   cases allB p.Uses.length λk=>allB p.Uses.length λm => !(hitB p i a j b k m)<;>rfl
  subst hs
  simp only [ZbO]
  have hw:w64 ((k:Int)+1)=((k+1:Nat):Int):=ZbA (by omega)
  rw [Z3 (by simpa using hk),Zdp hk,ZT,hw]
  by_cases c1:p.Uses[k].Stream=i
  ·rw [Z2 (by simpa using c1)]
   rw [(Zh6 (n:=p.Uses.length) (p:=λm => !(hitB p i a j b k m)) (f:=λs _=>s) (bad:=.inr (true,1)) (fin:=λs=>.inl s) (λ_ s=>s=(false,0)) (λm s hm hs=>?_) (λ_ s _ hs _=>hs) (λs _=>by simp [ZbN]) (N:=N) (by omega) rfl).1]
   ·have hf:∀ (l:List Nat),l.foldl (λ(s:Bool×Nat) _=>s) (false,0)=(false,0):=by
     intro l;induction l with
     | nil=>rfl
     | cons x l ih=>simpa using ih
    rw [hf]
    cases allB p.Uses.length λm => !(hitB p i a j b k m)<;>rfl
   subst hs
   simp only [ZbN]
   have hw2:w64 ((m:Int)+1)=((m+1:Nat):Int):=ZbA (by omega)
   rw [Z3 (by simpa using hm),Zdp hm,ZT,hw2]
   unfold hitB
   rw [ZaX hk,ZaX hm]
   by_cases c0:k=m
   ·subst c0;simp
   have c0':((m:Int)==(k:Int))=false:=by simp;omega
   rw [c0']
   simp only [Zg,Z1]
   by_cases c2:p.Uses[m].Stream=j
   ·rw [Z2 (by simpa using c2),ZT]
    by_cases c3:p.Uses[k].Port=p.Uses[m].Port
    ·rw [Z2 (by simp [c3])]
     unfold Zhp
     simp only [Z4]
     rw [round k m hk hm c1 c2]
     simp only [c0,c1,c2,c3,ne_eq,not_false_eq_true,decide_true,Zj,beq_self_eq_true,Bool.not_not]
     by_cases s:SepD (ZdF p p.Uses[k] a) (ZdF p p.Uses[m] b) ((ZdF p p.Uses[m] b).From-(ZdF p p.Uses[k] a).From)
     ·simp [s]
     simp [s]
    rw [Z3 (by simp;exact λq=>c3 q.symm)]
    simp [c3]
   rw [Z3 (by simpa using c2),ZT]
   simp [c2]
  rw [Z3 (by simpa using c1)]
  have:(allB p.Uses.length λm => !(hitB p i a j b k m))=true:=by
   rw [Zbl]
   intro m hm
   unfold hitB
   rw [ZaX hk]
   simp [c1]
  rw [this,Z3 rfl]
 rw [loop,ZT]
 cases ZbI p i a j b<;>rfl
def argB (p:Z6)(i a j b:Int):Bool:=offB p i a&&offB p j b && !(decide (i=j)&&decide (a≠b))
def ZbY (p:Z6)(i a j b:Int):Bool×Int:=if ZcJ p=true then (if argB p i a j b=true then (ZbI p i a j b,0) else (false,2)) else (false,340)
theorem ZgR {p:Z6}(h:VP p){i x:Int}(ho:offB p i x=true):0<=x/\x<240:=by
 obtain ⟨a,b,c,d⟩:=Zbe.1 ho
 rw [ZaX (by omega)] at d
 have:=h.per _ (List.getElem_mem (show i.toNat<p.Periods.length by omega))
 omega
theorem ZeI {N:Nat}(hN:2000<=N)(p:Z6)(i a j b:Int):Zch N p i a j b=some (ZbY p i a j b):=by
 unfold Zch ZbY
 rw [Zdw hN,ZT]
 cases hp:ZcJ p with
 | false=>rfl
 | true =>
  have h:=VP.of hp
  simp only [Z4,ZZ,Zg,Z1]
  by_cases c1:0<=i/\i<(p.Periods.length:Int)/\0<=j/\j<(p.Periods.length:Int)
  ·obtain ⟨i1,i2,j1,j2⟩:=c1
   rw [Z2 (by simp;omega),Zd7 N i1 i2,Zd7 N j1 j2]
   simp only [ZT]
   unfold argB
   cases o1:offB p i a with
   | false=>rfl
   | true =>
    cases o2:offB p j b with
    | false=>rfl
    | true =>
     simp only [Bool.not_true,Zg,Z1,Zj]
     have b1:=ZgR h o1
     have b2:=ZgR h o2
     by_cases c:i=j
     ·by_cases d:a=b
      ·rw [Zdo hN h b1.1 (by omega) b2.1 (by omega) (λ_=>d)]
       simp [c,d]
      simp [c,d]
     rw [Zdo hN h b1.1 (by omega) b2.1 (by omega) (λq=>absurd q c)]
     simp [c]
  rw [Z3 (by simp;omega)]
  have:argB p i a j b=false:=by
   unfold argB
   rw [Bool.eq_false_iff]
   intro q
   simp only [Ze] at q
   have q1:=Zbe.1 q.1.1
   have q2:=Zbe.1 q.1.2
   omega
  rw [this];rfl
end Go.Sh

namespace Go.Sh
open Go Go.Eng
def upF {σ:Type}(step:Nat->σ->Option σ):Nat->σ->Option σ
 | 0,s=>some s
 | n+1,s=>(upF step n s).bind (step n)
theorem Zox {σ:Type}{step:Nat->σ->Option σ}{k:Nat}{s:σ}(h:upF step k s=none):∀ n,k<=n->upF step n s=none:=by
 intro n hn
 induction n with
 | zero =>
  obtain rfl:k=0:=by omega
  exact h
 | succ n ih =>
  by_cases e:k=n+1
  ·subst e;exact h
  simp only [upF];rw [ih (by omega)];rfl
theorem Zme {σ τ ρ:Type}(mk:Int->σ->τ)(ix:τ->Int)(hix:∀ k s,ix (mk k s)=k){step:Nat->σ->Option σ}{body:τ->Option (τ⊕ρ)}{n:Nat}{s0:σ}{bad:ρ}{fin:σ->ρ}
  (hstep:∀ (k:Nat) (s:σ),k<n->upF step k s0=some s->body (mk k s)=match step k s with|some s'=>some (.inl (mk ((k+1:Nat):Int) s'))|none=>some (.inr bad))
  (hend:∀ s,upF step n s0=some s->body (mk n s)=some (.inr (fin s))) {N:Nat} (hN:n<N) :
  Za9 body N (mk 0 s0)=some (match upF step n s0 with|some s=>fin s|none=>bad):=by
 obtain ⟨r,hr,e⟩:=ZcR (body:=body) (λx=>∃ (k:Nat) (s:σ),x=mk k s/\k<=n/\upF step k s0=some s) (λx=>(n-ix x).toNat) (λr=>r=match upF step n s0 with|some s=>fin s|none=>bad) (λx hx=>by
  obtain ⟨k,s,rfl,k2,k3⟩:=hx
  by_cases c:k<n
  ·have hb:=hstep k s c k3
   cases hs:step k s with
   | some s' =>
    rw [hs] at hb
    left
    refine ⟨_,hb,⟨k+1,s',rfl,by omega,by simp only [upF];rw [k3];exact hs⟩,by rw [hix,hix];omega⟩
   | none =>
    rw [hs] at hb
    right
    refine ⟨_,hb,?_⟩
    have:upF step (k+1) s0=none:=by simp only [upF];rw [k3];exact hs
    rw [Zox this n (by omega)]
  right
  obtain rfl:k=n:=by omega
  exact ⟨_,hend s k3,by rw [k3]⟩) N (mk 0 s0) ⟨0,s0,rfl,by omega,rfl⟩ (by rw [hix];omega)
 rw [hr,e]
section
variable {N:Nat} {p:Z6} {f:List Z8}
def Zby (nP len c:Int)(a:Zam):Bool :=
 if a.By = -1 then decide (a.To=w64 (a.From+1)/\c<a.Next/\a.Next<len)
 else if a.Next=0 then (if a.By = -2 then decide (c=0/\a.From≠0) else decide (0<=a.By/\a.By<nP)) else false
def ZeN (nP len c per at_:Int)(a:Zam):Bool:=decide (a.From=at_/\a.From<a.To/\a.To<=per)&&Zby nP len c a
def Zbd (nP len c per:Int)(l:List Zam)(k:Nat)(at_:Int):Option Int:=(l[k]?).bind λa=>if ZeN nP len c per at_ a=true then some a.To else none
def Zgg (nP len c per:Int)(l:List Zam):Bool:=match upF (Zbd nP len c per l) l.length 0 with
 | some e=>e==per
 | none=>false
theorem Zgq (c:Nat)(a:Zam):Zcs N p f (c:Int) a=some (Zby p.Periods.length f.length c a):=by
 unfold Zcs Zby
 by_cases h1:a.By = -1
 ·rw [Z3 (by simpa using h1),Z3 h1]
  congr 1
  rw [Zf]
  simp only [Ze,beq_iff_eq,Z0,gt_iff_lt]
 rw [Z2 (by simpa using h1),Z2 h1]
 by_cases h2:a.Next=0
 ·rw [Z2 (by simpa using h2),Z3 h2]
  by_cases h3:a.By = -2
  ·rw [Z3 (by simpa using h3),Z3 h3]
   congr 1
   rw [Zf]
   simp
  rw [Z2 (by simpa using h3),Z2 h3]
  congr 1
  rw [Zf]
  simp
 rw [Z3 (by simpa using h2),Z2 h2]
def Zoj (nP len c per:Int)(l:List Zam):Int⊕Bool:=match upF (Zbd nP len c per l) l.length 0 with
 | some e=>.inl e
 | none=>.inr false
theorem Zm4 {c per:Int}{l:List Zam}{body:Int×Int->Option ((Int×Int)⊕(Int⊕Bool))}{nP len:Int}
  (hstep:∀ (k:Nat) (e:Int) (h:k<l.length),body (e,(k:Int))=if ZeN nP len c per e l[k]=true then some (.inl (l[k].To,((k+1:Nat):Int))) else some (.inr (.inr false)))
  (hend:∀ e,body (e,(l.length:Int))=some (.inr (.inl e))) (hN:l.length<N):Za9 body N (0,0)=some (Zoj nP len c per l):=by
 have:=Zme (λk (s:Int)=>(s,k)) (·.2) (λ_ _=>rfl) (ρ:=Int⊕Bool) (body:=body) (step:=Zbd nP len c per l) (n:=l.length) (s0:=0) (fin:=λe=>.inl e) (bad:=.inr false) (λk s hk _=>by
  rw [hstep k s hk]
  unfold Zbd
  rw [Zw hk,ZT]
  by_cases h:ZeN nP len c per s l[k]=true
  ·rw [Z3 h,Z3 h]
  rw [Z2 h,Z2 h]) (λs _=>hend s) hN
 rw [this]
 unfold Zoj
 cases upF (Zbd nP len c per l) l.length 0<;>rfl
theorem ZpJ {nP len c per:Int}{l:List Zam}:(match Zoj nP len c per l with | .inl e=>e==per | .inr b=>b)=Zgg nP len c per l:=by
 unfold Zoj Zgg
 cases upF (Zbd nP len c per l) l.length 0<;>rfl
def Za3 (p:Z6)(f:List Z8)(c:Nat):Bool:=match f[c]? with
 | some x=>decide (0<=x.Stream/\x.Stream<(p.Periods.length:Int))&&Zgg p.Periods.length f.length c (p.Periods.getD x.Stream.toNat 0) x.Arms
 | none=>false
theorem Zek {nP len c per e:Int}{a:Zam}(h:ZeN nP len c per e a=true):a.From=e/\a.From<a.To/\a.To<=per/\Zby nP len c a=true:=by
 simp only [ZeN,Ze,Z0] at h
 exact ⟨h.1.1,h.1.2.1,h.1.2.2,h.2⟩
theorem Ziz {c:Nat}(hc:c<f.length)(h0:0<=f[c].Stream)(h1:f[c].Stream<(p.Periods.length:Int))(hl:f[c].Arms.length<1000000)(hN:f[c].Arms.length<N) :
  ZdN N p f (c:Int)=some (Zgg p.Periods.length f.length c (p.Periods.getD f[c].Stream.toNat 0) f[c].Arms):=by
 obtain ⟨x,hx⟩:∃ x,x=f[c]:=⟨_,rfl⟩
 obtain ⟨per,hper⟩:∃ per,per=p.Periods.getD x.Stream.toNat 0:=⟨_,rfl⟩
 unfold ZdN
 rw [Zdp hc,ZT,← hx]
 rw [← hx] at h0 h1 hl hN
 rw [Zfk 0 h0 h1,ZT,← hper,ZT]
 rw [Zm4 (nP:=p.Periods.length) (len:=f.length) (c:=c) (per:=per) (l:=x.Arms) (λk e hk=>by
   simp only [Zb1]
   rw [Z3 (by simpa using hk),Zdp hk,ZT,Zgq,ZbA (by omega)]
   simp only [ZT]
   by_cases h:ZeN p.Periods.length f.length c per e x.Arms[k]=true
   ·obtain ⟨a1,a2,a3,a4⟩:=Zek h
    rw [Z3 h,Z2 (by simpa using a1),Z2 (by simpa using a2),Z2 (by simpa using a3),a4]
    rfl
   rw [Z2 h]
   by_cases a1:x.Arms[k].From=e
   ·by_cases a2:x.Arms[k].From<x.Arms[k].To
    ·by_cases a3:x.Arms[k].To<=per
     ·have a4:Zby p.Periods.length f.length c x.Arms[k]=false:=by
       cases hr:Zby p.Periods.length f.length c x.Arms[k] with
       | false=>rfl
       | true=>exact absurd (by simp [ZeN,a1 ▸ a2,a3,hr,a1]) h
      rw [Z2 (by simpa using a1),Z2 (by simpa using a2),Z2 (by simpa using a3),a4]
      rfl
     rw [Z2 (by simpa using a1),Z2 (by simpa using a2),Z3 (by simpa using a3)];rfl
    rw [Z2 (by simpa using a1),Z3 (by simpa using a2)];rfl
   rw [Z3 (by simpa using a1)];rfl) (λe=>by simp [Zb1]) hN,ZT,← ZpJ]
 cases Zoj p.Periods.length f.length c per x.Arms<;>rfl
end
end Go.Sh

namespace Go.Sh
open Go Go.Eng
theorem Zlf {σ:Type}{step:Nat->σ->Option σ}:∀ {n:Nat} {s0 s:σ},upF step n s0=some s->∀ k,k<n->∃ s1 s2,upF step k s0=some s1/\step k s1=some s2
 | 0,_,_,_,k,hk=>by omega
 | n+1,s0,s,h,k,hk=>by
  simp only [upF] at h
  obtain ⟨s1,h1,h2⟩:=bind_some h
  by_cases e:k=n
  ·subst e;exact ⟨s1,s,h1,h2⟩
  exact Zlf h1 k (by omega)
section
variable {N:Nat} {p:Z6} {f:List Z8}
theorem Zim {nP len c per:Int}{l:List Zam}(h:Zgg nP len c per l=true):∀ a∈l,Zby nP len c a=true:=by
 intro a ha
 obtain ⟨k,hk,rfl⟩:=List.getElem_of_mem ha
 unfold Zgg at h
 cases hu:upF (Zbd nP len c per l) l.length 0 with
 | none=>rw [hu] at h;cases h
 | some s =>
  obtain ⟨s1,s2,_,h2⟩:=Zlf hu k hk
  unfold Zbd at h2
  rw [Zw hk,ZT] at h2
  by_cases c1:ZeN nP len c per s1 l[k]=true
  ·exact (Zek c1).2.2.2
  rw [Z2 c1] at h2;cases h2
theorem ZcH {c:Nat}(hc:c<f.length):Za3 p f c=(decide (0<=f[c].Stream/\f[c].Stream<(p.Periods.length:Int))&&Zgg p.Periods.length f.length c (p.Periods.getD f[c].Stream.toNat 0) f[c].Arms):=by
 unfold Za3
 rw [Zw hc]
def bump (l:List Int)(a:Zam):List Int:=if a.By = -1 then l.set a.Next.toNat (w64 (l.getD a.Next.toNat 0+1)) else l
def Zm0 (f:List Z8)(k:Nat)(l:List Int):List Int:=match f[k]? with
 | some x=>x.Arms.foldl bump l
 | none=>l
def Zdg (f:List Z8):Nat->List Int->List Int
 | 0,l=>l
 | k+1,l=>Zm0 f k (Zdg f k l)
theorem Zj2 (l:List Int)(a:Zam):(bump l a).length=l.length:=by
 unfold bump
 by_cases h:a.By = -1
 ·rw [Z3 h];simp
 rw [Z2 h]
theorem Zij:∀ (as:List Zam) (l:List Int),(as.foldl bump l).length=l.length
 | [],_=>rfl
 | a::as,l=>by rw [List.foldl_cons,Zij as,Zj2]
theorem ZdA (f:List Z8)(l:List Int):∀ k,(Zdg f k l).length=l.length
 | 0=>rfl
 | k+1=>by
  unfold Zdg Zm0
  cases f[k]? with
  | none=>exact ZdA f l k
  | some x=>simp only;rw [Zij,ZdA f l k]
theorem Zof {l:List Int}{as:List Zam}{body:Int×List Int->Option ((Int×List Int)⊕List Int)}(hl:as.length<1000000)
  (hstep:∀ (k:Nat) (m:List Int) (h:k<as.length),m.length=l.length->body ((k:Int),m)=some (.inl (((k+1:Nat):Int),bump m as[k])))
  (hend:∀ m,body ((as.length:Int),m)=some (.inr m)) (hN:as.length<N):Za9 body N (0,l)=some (as.foldl bump l):=by
 obtain ⟨r,hr,e⟩:=ZcR (body:=body) (λx=>∃ k:Nat,x.1=k/\k<=as.length/\x.2=(as.take k).foldl bump l) (λx=>(as.length-x.1).toNat) (λr=>r=as.foldl bump l) (λx hx=>by
  obtain ⟨i,m⟩:=x
  obtain ⟨k,k1,k2,k3⟩:=hx
  simp only at k1 k3
  subst k1 k3
  by_cases c:k<as.length
  ·left
   refine ⟨_,hstep k _ c (by rw [Zij]),⟨k+1,rfl,by omega,?_⟩,by simp;omega⟩
   rw [List.take_succ_eq_append_getElem c,List.foldl_append]
   rfl
  right
  obtain rfl:k=as.length:=by omega
  exact ⟨_,hend _,by rw [List.take_length]⟩) N (0,l) ⟨0,rfl,by omega,rfl⟩ (by simp;omega)
 rw [hr,e]
theorem Zo5 {m:List Int}{a:Zam}{nP c:Int}(hr:Zby nP m.length c a=true)(hc:0<=c)(hb:a.By = -1):0<=a.Next/\a.Next<(m.length:Int):=by
 unfold Zby at hr
 rw [Z3 hb,Z0] at hr
 omega
end
end Go.Sh

namespace Go.Sh
open Go Go.Eng
section
variable {N:Nat} {p:Z6} {f:List Z8}
def ZfW (p:Z6)(f:List Z8)(k:Nat)(l:List Int):Option (List Int):=if Za3 p f k=true then some (Zm0 f k l) else none
theorem Zjt (l:List Int):∀ n,upF (ZfW p f) n l=if allB n (Za3 p f)=true then some (Zdg f n l) else none
 | 0=>by simp [upF,allB,Zdg]
 | n+1=>by
  simp only [upF]
  rw [Zjt l n]
  have e:allB (n+1) (Za3 p f)=(allB n (Za3 p f)&&Za3 p f n):=by
   unfold allB
   rw [List.range_succ,List.all_append]
   simp
  rw [e]
  cases h1:allB n (Za3 p f) with
  | false=>simp
  | true =>
   simp only [Z4,ZT,Zj]
   unfold ZfW
   cases h2:Za3 p f n<;>simp [Zdg]
def Zia (p:Z6)(f:List Z8):Bool :=
 decide (1<=f.length/\f.length<=2000)&&allB f.length (Za3 p f)&&((Zdg f f.length (List.replicate f.length 0)).drop 1).all (· == 1)
theorem Zfl {c:Nat}(h:Za3 p f c=true):∃ hc:c<f.length,0<=f[c].Stream/\f[c].Stream<(p.Periods.length:Int)/\Zgg p.Periods.length f.length c (p.Periods.getD f[c].Stream.toNat 0) f[c].Arms=true:=by
 by_cases hc:c<f.length
 ·rw [ZcH hc,Ze,Z0] at h
  exact ⟨hc,h.1.1,h.1.2,h.2⟩
 unfold Za3 at h
 rw [Zx (by omega)] at h
 cases h
theorem ZmY {c:Nat}{l:List Int}(h:Za3 p f c=true)(hl:l.length=f.length)(ha:∀ x∈f,x.Arms.length<1000000/\x.Arms.length<N){x:Z8}(hx:f[c]?=some x) :
  Za9 (λy:Int×(List Int)=>Zbv N x y.1 y.2) N (0,l)=some (Zm0 f c l):=by
 obtain ⟨hc,h0,h1,h2⟩:=Zfl h
 rw [Zw hc] at hx
 cases hx
 have hb:=ha _ (List.getElem_mem hc)
 rw [Zof hb.1 (λk m hk hm=>?_) (λm=>by simp [Zbv]) hb.2]
 ·unfold Zm0
  rw [Zw hc]
 have hr:=Zim h2 _ (List.getElem_mem hk)
 rw [← hl,← hm] at hr
 simp only [Zbv]
 rw [Z3 (by simpa using hk),Zdp hk,ZT,ZbA (by omega)]
 unfold bump
 by_cases b:f[c].Arms[k].By = -1
 ·obtain ⟨n0,n1⟩:=Zo5 hr (by omega) b
  rw [Z3 (by simpa using b),Z3 b,Zfk 0 n0 n1]
  rfl
 rw [Z2 (by simpa using b),Z2 b]
 rfl
theorem ZhQ (hf:f.length<N)(hN:2000<=N)(ha:∀ x∈f,x.Arms.length<1000000/\x.Arms.length<N):Zde N p f=some (Zia p f):=by
 unfold Zde Zia
 by_cases h1:1<=f.length/\f.length<=2000
 ·rw [Z2 (by simp;omega),decide_eq_true h1,Zj]
  have hm:Zh4 8 ((List.length f:Nat):Int) ((List.length f:Nat):Int) (0:Int)=some (List.replicate f.length 0):=by
   unfold Zh4
   rw [Z3 (by omega)]
   simp
  rw [hm,ZT]
  rw [Zme (λk (s:List Int)=>(k,s)) (·.1) (λ_ _=>rfl) (body:=λx:Int×(List Int)=>Zbw N p f x.1 x.2) (step:=ZfW p f) (n:=f.length) (s0:=List.replicate f.length 0) (bad:=.inr false) (fin:=λs=>.inl s) (λk s hk hs=>by
    have hsl:s.length=f.length:=by
     rw [Zjt] at hs
     by_cases q:allB k (Za3 p f)=true
     ·rw [Z3 q,ZW] at hs
      subst hs
      rw [ZdA];simp
     rw [Z2 q] at hs;cases hs
    simp only [Zbw]
    rw [Z3 (by simpa using hk),Zdp hk,ZT]
    unfold ZfW
    have hb:=ha _ (List.getElem_mem hk)
    by_cases c0:0<=f[k].Stream
    ·by_cases c1:f[k].Stream<(p.Periods.length:Int)
     ·rw [Z2 (by simpa using c0),Z2 (by simpa using c1),Ziz hk c0 c1 hb.1 hb.2,ZT,ZT,ZcH hk,decide_eq_true (show 0<=f[k].Stream/\f[k].Stream<(p.Periods.length:Int) from ⟨c0,c1⟩),Zj]
      cases h2:Zgg p.Periods.length f.length k (p.Periods.getD f[k].Stream.toNat 0) f[k].Arms with
      | false=>rfl
      | true =>
       have hch:Za3 p f k=true:=by rw [ZcH hk,decide_eq_true (show 0<=f[k].Stream/\f[k].Stream<(p.Periods.length:Int) from ⟨c0,c1⟩),h2];rfl
       simp only [Bool.not_true,Zg,Z1,Z4]
       rw [ZmY hch hsl ha (Zw hk),ZT,ZbA (by omega)]
     rw [Z2 (by simpa using c0),Z3 (by simpa using c1),ZT,Z3 rfl,ZcH hk,decide_eq_false (by omega)]
     rfl
    rw [Z3 (by simpa using c0),ZT,Z3 rfl,ZcH hk,decide_eq_false (by omega)]
    rfl) (λs _=>by simp [Zbw]) hf,ZT,Zjt]
  cases hall:allB f.length (Za3 p f) with
  | false=>rfl
  | true =>
   simp only [Z4,Zj]
   have hnl:=ZdA f (List.replicate f.length 0) f.length
   rw [List.length_replicate] at hnl
   obtain ⟨nm,hnm⟩:∃ nm,nm=Zdg f f.length (List.replicate f.length 0):=⟨_,rfl⟩
   rw [← hnm] at hnl ⊢
   have hsub:subI nm 1 ((List.length nm:Nat):Int)=some (nm.drop 1):=by
    unfold subI
    rw [Z3 (by omega)]
    simp
   rw [hsub,ZT]
   rw [Zgu (l:=nm.drop 1) (p:=λx=>x==1) (bad:=.inr false) (fin:=.inl ()) (λk hk=>?_) (by simp [ZbM]) (by rw [List.length_drop];omega),ZT]
   ·cases (nm.drop 1).all λx=>x==1<;>rfl
   simp only [ZbM]
   rw [Z3 (by simpa using hk),Zdp hk,ZT,ZbA (by rw [List.length_drop] at hk;omega)]
   by_cases e:(nm.drop 1)[k]=1
   ·rw [Z2 (by simpa using e),Z3 (by simpa using e)]
   rw [Z3 (by simpa using e),Z2 (by simpa using e)]
 rw [Z3 (by simp;omega),decide_eq_false h1]
 rfl
end
end Go.Sh

namespace Go.Sh
open Go Go.Eng
theorem Zol {n:Nat}{q:Nat->Nat->Bool}:(allB n λk=>allB n λm=>q k m)=allB n λm=>allB n λk=>q k m:=by
 rw [Zf]
 simp only [Zbl]
 exact ⟨λh m hm k hk=>h k hk m hm,λh k hk m hm=>h m hm k hk⟩
theorem ZnV {p:Z6}(h:VP p){i a j b:Int}{k m:Nat}(hk:k<p.Uses.length)(hm:m<p.Uses.length):hitB p i a j b k m=hitB p j b i a m k:=by
 have e:=ZoH (h.vspan (List.getElem_mem hk) a) (h.vspan (List.getElem_mem hm) b)
 unfold hitB
 rw [ZaX hk,ZaX hm,Zf]
 simp only [Ze,Z0,beq_iff_eq,Zh,decide_eq_false_iff_not]
 rw [e]
 constructor
 ·rintro ⟨a,b,c,d,e⟩;exact ⟨λq=>a q.symm,c,b,d.symm,e⟩
 rintro ⟨a,b,c,d,e⟩;exact ⟨λq=>a q.symm,c,b,d.symm,e⟩
theorem ZiV {p:Z6}(h:VP p)(i a j b:Int):ZbI p i a j b=ZbI p j b i a:=by
 unfold ZbI
 rw [Zol]
 congr 1
 exact ZdD λk hk=>ZdD λm hm=>by rw [ZnV h hm hk]
def ZeY (p:Z6)(l:List Int):Bool:=decide (l.length=p.Periods.length)&&allB l.length λk=>offB p k (l.getD k 0)
def ZdG (p:Z6)(l:List Int):Bool:=allB l.length λi=>allB (i+1) λj => !(ZbI p i (l.getD i 0) j (l.getD j 0))
def ZoY (p:Z6)(l:List Int):Bool×Int:=if ZcJ p=true then (if ZeY p l=true then (ZdG p l,0) else (false,2)) else (false,340)
theorem ZjL {p:Z6}{l:List Int}(h:ZeY p l=true):l.length=p.Periods.length/\∀ k,k<l.length->offB p k (l.getD k 0)=true:=by
 unfold ZeY at h
 rw [Ze,Z0,Zbl] at h
 exact h
theorem ZgO {N:Nat}(hN:2000<=N)(p:Z6)(l:List Int):Zef N p l=some (ZoY p l):=by
 unfold Zef ZoY
 rw [Zdw hN,ZT]
 cases hp:ZcJ p with
 | false=>rfl
 | true =>
  have h:=VP.of hp
  have hl:=h.len
  simp only [Z4,ZZ,Zg,Z1]
  by_cases hc:l.length=p.Periods.length
  ·rw [Z2 (by simp [hc])]
   rw [Zgt (n:=l.length) (p:=λk=>offB p k (l.getD k 0)) (bad:=.inr (false,2)) (fin:=.inl ()) (λk hk=>?_) (by simp [ZcE]) (by omega)]
   ·have e:ZeY p l=allB l.length λk=>offB p k (l.getD k 0):=by unfold ZeY;simp [hc]
    cases ho:allB l.length λk=>offB p k (l.getD k 0) with
    | false=>rw [e,ho];rfl
    | true =>
     rw [e,ho]
     simp only [Z4,ZT]
     rw [ho] at e
     obtain ⟨h1,h2⟩:=ZjL e
     unfold ZdG
     rw [Zgt (n:=l.length) (p:=λi=>allB (i+1) λj => !(ZbI p i (l.getD i 0) j (l.getD j 0))) (bad:=.inr (false,0)) (fin:=.inl ()) (λi hi=>?_) (by simp [ZcD]) (by omega)]
     ·cases allB l.length λi=>allB (i+1) λj => !(ZbI p i (l.getD i 0) j (l.getD j 0))<;>rfl
     simp only [ZcD]
     have hw:w64 ((i:Int)+1)=((i+1:Nat):Int):=ZbA (by omega)
     have hs:subI l 0 ((i+1:Nat):Int)=some (l.take (i+1)):=by
      unfold subI
      rw [Z3 (by omega)]
      simp
     have hlt:(l.take (i+1)).length=i+1:=by simp;omega
     rw [Z3 (by simpa using hi),Zdp hi,ZT,hw,hs,ZT,Zgt (n:=i+1) (p:=λj => !(ZbI p i (l.getD i 0) j (l.getD j 0))) (bad:=.inr (false,0)) (fin:=.inl ()) (λj hj=>?_) (by simp [ZcC,hlt]) (by omega)]
     ·cases allB (i+1) λj => !(ZbI p i (l.getD i 0) j (l.getD j 0))<;>rfl
     simp only [ZcC]
     have hj':j<l.length:=by omega
     have hw:w64 ((j:Int)+1)=((j+1:Nat):Int):=ZbA (by omega)
     have b1:=ZgR h (h2 i hi)
     have b2:=ZgR h (h2 j hj')
     rw [ZaX hi] at b1
     rw [ZaX hj'] at b2
     have ei:idx (l.take (i+1)) (j:Int)=some l[j]:=by
      rw [Zdp (by omega),List.getElem_take]
     rw [Z3 (by simp [hlt];omega),ei,ZT,Zdo hN h b2.1 (by omega) b1.1 (by omega) (λq=>by
      have:j=i:=by omega
      subst this;rfl),ZT,hw,ZaX hi,ZaX hj',ZiV h]
     cases ZbI p i l[i] j l[j]<;>rfl
   simp only [ZcE]
   have hw:w64 ((k:Int)+1)=((k+1:Nat):Int):=ZbA (by omega)
   rw [Z3 (by simpa using hk),Zdp hk,ZT,Zd7 N (by omega) (by omega),ZT,hw,ZaX hk]
   cases offB p k l[k]<;>rfl
  rw [Z3 (by simp;omega)]
  have:ZeY p l=false:=by unfold ZeY;simp [hc]
  rw [this];rfl
def Zkc:List Int:=[4,6,8,12,3,5,10,24]
theorem Zjs:∀ x∈Zkc,3<=x/\x<=24/\x.toNat∣120:=by decide
structure GP (p:Z6):Prop where
 prob:ZcJ p=true
 len:p.Periods.length<=5
 uses:p.Uses.length<=12
 tab:∀ x∈p.Periods,x∈Zkc
 port:∀ u∈p.Uses,u.Port<4
theorem Zio {α:Type}{b:Nat}{l:List α}{x:α}(hl:l.length<=1000)(hb:b<=1000):appI b l [x]=some (l++[x]):=by
 refine Zfr ?_ (by omega)
 simp;omega
theorem ZeM {N:Nat}(hN:2000<=N){d:Zbu}(hd:Zd8 d):∃ p,Zbt N d=some p/\GP p:=by
 obtain ⟨⟨_,d1⟩,⟨_,d2⟩⟩:=hd
 unfold Zbt
 obtain ⟨P,hP,P1,P2⟩:=ZcR (body:=λx:Int×(List Int)=>ZaZ N d x.1 x.2) (λx=>0<=x.1/\x.1<=5/\(x.2.length:Int)=x.1/\∀ q∈x.2,q∈Zkc) (λx=>(5-x.1).toNat) (λl=>l.length<=5/\∀ q∈l,q∈Zkc) (λx hx=>by
  obtain ⟨i,l⟩:=x
  obtain ⟨i0,i1,i2,i3⟩:=hx
  simp only at i0 i1 i2 i3
  simp only [ZaZ]
  by_cases c:i<(d.Periods.length:Int)/\i<5
  ·left
   obtain ⟨k,rfl⟩:∃ k:Nat,i=k:=⟨i.toNat,by omega⟩
   have hk:k<d.Periods.length:=by omega
   have hb:0<=d.Periods[k]/\d.Periods[k]<=255:=(d1 _ (List.getElem_mem hk)).u8
   have hm0:=Int.emod_nonneg d.Periods[k] (show (8:Int)≠0 by decide)
   have hm1:=Int.emod_lt_of_pos d.Periods[k] (show (0:Int)<8 by decide)
   have ht:(d.Periods[k]%8).toNat<Zkc.length:=by simp [Zkc];omega
   refine ⟨(((k+1:Nat):Int),l++[Zkc[(d.Periods[k]%8).toNat]]),?_,⟨by omega,by omega,by simp;omega,λq hq=>?_⟩,by omega⟩
   ·rw [Z3 (by simp;omega),Zdp hk,ZT,Zk hb.1,show ([4,6,8,12,3,5,10,24]:List Int)=Zkc from rfl,ZnU hm0 ht,ZT,Zio (by omega) (by omega),ZT,ZbA (by omega)]
   rcases List.mem_append.1 hq with q1|q1
   ·exact i3 q q1
   simp only [ZM] at q1
   subst q1
   exact List.getElem_mem ht
  right
  refine ⟨l,?_,by omega,i3⟩
  rw [Z2 (by simp;omega)]) N (0,[]) ⟨by omega,by omega,rfl,by simp⟩ (by simp;omega)
 rw [hP,ZT]
 have hper:P.all perB=true:=List.all_eq_true.2 λq hq=>by
  have:=Zjs q (P2 q hq)
  exact Zhe.2 (by omega)
 obtain ⟨U,hU,U1,U2⟩:=ZcR (body:=λx:Int×(List ZaD)=>ZaY N d P x.1 x.2) (λx=>0<=x.1/\x.1<=12/\(x.2.length:Int)=x.1/\∀ u∈x.2,useB P u=true/\u.Port<4) (λx=>(12-x.1).toNat) (λl=>l.length<=12/\∀ u∈l,useB P u=true/\u.Port<4) (λx hx=>by
  obtain ⟨i,l⟩:=x
  obtain ⟨i0,i1,i2,i3⟩:=hx
  simp only at i0 i1 i2 i3
  simp only [ZaY]
  by_cases c:i<(d.Uses.length:Int)/\i<12/\0<P.length
  ·left
   obtain ⟨c1,c2,c3⟩:=c
   obtain ⟨k,rfl⟩:∃ k:Nat,i=k:=⟨i.toNat,by omega⟩
   have hk:k<d.Uses.length:=by omega
   obtain ⟨b0,b1,b2,b3⟩:=d2 _ (List.getElem_mem hk)
   have b0:0<=d.Uses[k].x0/\d.Uses[k].x0<=255:=b0.u8
   have b1:0<=d.Uses[k].x1/\d.Uses[k].x1<=255:=b1.u8
   have b2:0<=d.Uses[k].x2/\d.Uses[k].x2<=255:=b2.u8
   have b3:0<=d.Uses[k].x3/\d.Uses[k].x3<=255:=b3.u8
   have s0:=Int.emod_nonneg d.Uses[k].x0 (show (P.length:Int)≠0 by omega)
   have s1:=Int.emod_lt_of_pos d.Uses[k].x0 (show 0<(P.length:Int) by omega)
   have hn:(d.Uses[k].x0%(P.length:Int)).toNat<P.length:=by omega
   obtain ⟨n,en⟩:∃ n,n=P[(d.Uses[k].x0%(P.length:Int)).toNat]:=⟨_,rfl⟩
   have hn3:=Zjs n (P2 n (by rw [en];exact List.getElem_mem hn))
   have f0:=Int.emod_nonneg d.Uses[k].x2 (show n≠0 by omega)
   have f1:=Int.emod_lt_of_pos d.Uses[k].x2 (show 0<n by omega)
   have g0:=Int.emod_nonneg d.Uses[k].x3 (show n≠0 by omega)
   have g1:=Int.emod_lt_of_pos d.Uses[k].x3 (show 0<n by omega)
   have g2:=Int.emod_nonneg (d.Uses[k].x3%n) (show (4:Int)≠0 by decide)
   have g3:=Int.emod_lt_of_pos (d.Uses[k].x3%n) (show (0:Int)<4 by decide)
   have g4:=Int.emod_nonneg (d.Uses[k].x3%n%4) (show n≠0 by omega)
   have g5:=Int.emod_lt_of_pos (d.Uses[k].x3%n%4) (show 0<n by omega)
   have p0:=Int.emod_nonneg d.Uses[k].x1 (show (4:Int)≠0 by decide)
   have p1:=Int.emod_lt_of_pos d.Uses[k].x1 (show (0:Int)<4 by decide)
   refine ⟨(((k+1:Nat):Int),l++[⟨d.Uses[k].x0%P.length,d.Uses[k].x1%4,d.Uses[k].x2%n,1+d.Uses[k].x3%n%4%n⟩]),?_,⟨by omega,by omega,by simp;omega,λu hu=>?_⟩,by omega⟩
   ·rw [Z3 (by simp;omega),Z3 (by simp;omega)]
    simp only [ZT]
    rw [Z3 (by simp;omega),Zdp hk,ZT,Zbr (by omega) (by omega),Zcd (by omega),ZT,Zk b0.1,ZnU s0 hn,ZT,← en,
     Zbr (x:=d.Uses[k].x2) (by omega) (by omega),Zcd (by omega),ZT,Zbr (x:=d.Uses[k].x3) (by omega) (by omega),Zcd (by omega),ZT,Zcd (by omega),ZT,
     Zk b1.1,Zk b2.1,Zk b3.1,Zk g0,Zk g2,Zbr (x:=d.Uses[k].x1%4) (by omega) (by omega),Zbr (x:=1+_) (by omega) (by omega),Zio (by omega) (by omega),ZT,ZbA (by omega)]
   rcases List.mem_append.1 hu with q1|q1
   ·exact i3 u q1
   simp only [ZM] at q1
   subst q1
   refine ⟨ZfT.2 ?_,p1⟩
   unfold perU
   simp only
   rw [ZaX hn,← en]
   omega
  right
  refine ⟨l,?_,by omega,i3⟩
  by_cases c1:i<(d.Uses.length:Int)
  ·rw [Z3 (by simpa using c1)]
   by_cases c2:i<12
   ·rw [Z3 (by simpa using c2),ZT,Z2 (by rw [Z0];omega)]
   rw [Z2 (by simpa using c2),ZT,Z2 (by simp)]
  rw [Z2 (by simpa using c1),ZT,Z2 (by simp)]) N (0,[]) ⟨by omega,by omega,rfl,by simp⟩ (by simp;omega)
 rw [hU,ZT]
 refine ⟨_,rfl,?_,P1,U1,P2,λu hu=>(U2 u hu).2⟩
 rw [Zku]
 refine ⟨by show P.length<=12;omega,by show U.length<=192;omega,hper,List.all_eq_true.2 λu hu=>(U2 u hu).1,?_⟩
 have hdv:lcmL P∣120:=ZkM.2 λq hq=>(Zjs q (P2 q hq)).2.2
 have:=Nat.le_of_dvd (by decide) hdv
 show lcmL P<=960
 omega
theorem ZjE {N:Nat}(hN:2000<=N){p:Z6}(h:VP p){a:List Int}(ha:∀ x∈a,InK .u8 x):∃ l,Zed N p a=some l/\ZeY p l=true:=by
 have hlen:=h.len
 unfold Zed
 obtain ⟨l,hl,l1,l2⟩:=ZcR (body:=λx:Int×(List Int)=>Zce N p a x.1 x.2) (λx=>0<=x.1/\x.1<=p.Periods.length/\(x.2.length:Int)=x.1/\∀ k,k<x.2.length->offB p k (x.2.getD k 0)=true) (λx=>(p.Periods.length-x.1).toNat) (λl=>l.length=p.Periods.length/\∀ k,k<l.length->offB p k (l.getD k 0)=true) (λx hx=>by
  obtain ⟨i,l⟩:=x
  obtain ⟨i0,i1,i2,i3⟩:=hx
  simp only at i0 i1 i2 i3
  simp only [Zce]
  by_cases c:i<(p.Periods.length:Int)
  ·left
   obtain ⟨k,rfl⟩:∃ k:Nat,i=k:=⟨i.toNat,by omega⟩
   have hk:k<p.Periods.length:=by omega
   have hq:=h.per _ (List.getElem_mem hk)
   have key:∃ x,(if (decide ((k:Int)<((List.length a:Nat):Int))) then ((idx a k).bind λe1010=>((idx p.Periods k).bind λe1011=>((remI (w64 (e1010)) e1011).bind λm1012=>(some m1012)))) else (some 0))=some x/\0<=x/\x<p.Periods[k]:=by
    by_cases c2:k<a.length
    ·have hb:0<=a[k]/\a[k]<=255:=(ha _ (List.getElem_mem c2)).u8
     refine ⟨a[k]%p.Periods[k],?_,Int.emod_nonneg _ (by omega),Int.emod_lt_of_pos _ (by omega)⟩
     rw [Z3 (by simpa using c2),Zdp c2,ZT,Zdp hk,ZT,Zbr (by omega) (by omega),Zcd (by omega),ZT,Zk hb.1]
    exact ⟨0,by rw [Z2 (by simpa using c2)],by omega,by omega⟩
   obtain ⟨x,hx,x0,x1⟩:=key
   refine ⟨(((k+1:Nat):Int),l++[x]),?_,⟨by omega,by omega,by simp;omega,λm hm=>?_⟩,by omega⟩
   ·rw [Z3 (by simpa using c),hx,ZT,Zio (by omega) (by omega),ZT,ZbA (by omega)]
   simp only [ZD,ZE,ZG] at hm
   by_cases e:m<l.length
   ·have:=i3 m e
    rw [ZaX e] at this
    rw [ZaX (by simp;omega),List.getElem_append_left e]
    exact this
   obtain rfl:m=k:=by omega
   rw [ZaX (by simp;omega),List.getElem_append_right (by omega)]
   simp only [show m-l.length=0 by omega,List.getElem_cons_zero]
   rw [Zbe]
   simp only [Zl]
   rw [ZaX hk]
   omega
  right
  refine ⟨l,?_,by omega,i3⟩
  rw [Z2 (by simpa using c)]) N (0,[]) ⟨by omega,by simp,rfl,by simp⟩ (by simp;omega)
 rw [hl,ZT]
 refine ⟨l,rfl,?_⟩
 unfold ZeY
 rw [Ze,Z0,Zbl]
 exact ⟨l1,l2⟩
end Go.Sh
namespace Go.Sh
open Go Go.Eng
theorem Zom (n:Nat)(p:Nat->Bool):allB (n+1) p=(allB n p&&p n):=by
 unfold allB
 rw [List.range_succ,List.all_append]
 simp
def Zk1 (p:Z6)(l:List Int):Bool:=allB l.length λi=>allB l.length λj => !(ZbI p i (l.getD i 0) j (l.getD j 0))
theorem ZfZ {p:Z6}(h:VP p)(l:List Int):ZdG p l=Zk1 p l:=by
 unfold ZdG Zk1
 rw [Zf]
 simp only [Zbl]
 constructor
 ·intro q i hi j hj
  rcases Nat.le_total j i with c|c
  ·exact q i hi j (by omega)
  have:=q j hj i (by omega)
  rwa [ZiV h] at this
 intro q i hi j hj
 exact q i hi j (by omega)
def Ze1 (p:Z6)(l:List Int)(by_:Int)(n:Nat):List Int:=(List.range n).map λk=>(l.getD k 0+by_)%(p.Periods.getD k 0)
theorem Zfj {p:Z6}{l:List Int}{by_:Int}{n k:Nat}(hk:k<n):(Ze1 p l by_ n).getD k 0=(l.getD k 0+by_)%(p.Periods.getD k 0):=by
 rw [ZaX (by simpa [Ze1] using hk)]
 simp [Ze1]
theorem ZnI {p:Z6}(h:VP p){l:List Int}(ho:ZeY p l=true)(by_:Int):ZeY p (Ze1 p l by_ l.length)=true:=by
 obtain ⟨h1,h2⟩:=ZjL ho
 unfold ZeY
 rw [Ze,Z0,Zbl]
 have hl:(Ze1 p l by_ l.length).length=l.length:=by simp [Ze1]
 refine ⟨by omega,λk hk=>?_⟩
 rw [hl] at hk
 rw [Zfj hk,Zbe]
 simp only [Zl]
 rw [ZaX (show k<p.Periods.length by omega)]
 have:=h.per _ (List.getElem_mem (show k<p.Periods.length by omega))
 have a:=Int.emod_nonneg (l.getD k 0+by_) (show p.Periods[k]≠0 by omega)
 have b:=Int.emod_lt_of_pos (l.getD k 0+by_) (show 0<p.Periods[k] by omega)
 omega
theorem Zhz {p:Z6}(h:VP p){u:ZaD}(hu:u∈p.Uses){i:Nat}(hi:u.Stream=(i:Int))(x by_:Int):ZdF p u ((x+by_)%p.Periods.getD i 0)=shift (ZdF p u x) by_:=by
 have e:perU p.Periods u=p.Periods.getD i 0:=by unfold perU;rw [hi];simp
 unfold ZdF shift
 simp only [← e]
 congr 1
 rw [Int.emod_add_emod,Int.add_emod_emod,Int.add_assoc]
theorem ZfO {p:Z6}(h:VP p)(i j:Nat)(a b by_:Int):ZbI p i ((a+by_)%p.Periods.getD i 0) j ((b+by_)%p.Periods.getD j 0)=ZbI p i a j b:=by
 unfold ZbI
 congr 1
 refine ZdD λk hk=>ZdD λm hm=>?_
 congr 1
 unfold hitB
 rw [ZaX hk,ZaX hm,Zf]
 simp only [Ze,Z0,beq_iff_eq,Zh,decide_eq_false_iff_not]
 refine and_congr_right λ_=>and_congr_right λc=>and_congr_right λd=>and_congr_right λ_=>?_
 rw [Zhz h (List.getElem_mem hk) c,Zhz h (List.getElem_mem hm) d,Zns (h.vspan (List.getElem_mem hk) a) (h.vspan (List.getElem_mem hm) b)]
theorem Zk0 {p:Z6}(h:VP p)(l:List Int)(by_:Int):Zk1 p (Ze1 p l by_ l.length)=Zk1 p l:=by
 have hl:(Ze1 p l by_ l.length).length=l.length:=by simp [Ze1]
 unfold Zk1
 rw [hl]
 refine ZdD λi hi=>ZdD λj hj=>?_
 rw [Zfj hi,Zfj hj,ZfO h]
end Go.Sh
namespace Go.Sh
open Go Go.Eng
theorem ZkI {κ υ:Type}[DecidableEq κ](m:List (κ×υ))(x y:κ)(v:υ):ZdV (Zeu m x v) y=if x=y then some v else ZdV m y:=by
 induction m with
 | nil =>
  unfold Zeu ZdV
  by_cases h:x=y<;>simp [h]
 | cons q m ih =>
  unfold Zeu
  by_cases h:q.1=x
  ·rw [Z3 h]
   unfold ZdV
   rw [List.find?_cons,List.find?_cons]
   by_cases e:x=y
   ·simp [e]
   simp [e,h]
  rw [Z2 h]
  have e1:ZdV (q::Zeu m x v) y=if q.1=y then some q.2 else ZdV (Zeu m x v) y:=by
   unfold ZdV
   rw [List.find?_cons]
   by_cases e:q.1=y<;>simp [e]
  have e2:ZdV (q::m) y=if q.1=y then some q.2 else ZdV m y:=by
   unfold ZdV
   rw [List.find?_cons]
   by_cases e:q.1=y<;>simp [e]
  rw [e1,e2,ih]
  by_cases e:q.1=y
  ·rw [Z3 e,Z3 e,Z2 (λe3=>h (by rw [e,e3]))]
  rw [Z2 e,Z2 e]
section
variable {N:Nat} {p:Z6}
def MOK (p:Z6)(m:List (Zah×Bool)):Prop:=∀ k b,ZdV m k=some b->b=(ZbY p k.i k.x_ k.j 0).1
theorem MOK.nil:MOK p []:=λk b h=>by simp [ZdV] at h
theorem MOK.set {m:List (Zah×Bool)}(h:MOK p m)(k:Zah):MOK p (Zeu m k (ZbY p k.i k.x_ k.j 0).1):=λk' b hb=>by
 rw [ZkI] at hb
 by_cases e:k=k'
 ·rw [Z3 e,ZW] at hb
  rw [← hb,e]
 rw [Z2 e] at hb
 exact h k' b hb
theorem Zkt {x y per:Int}(hp:1<=per)(hp2:per<=1000)(hx:0<=x)(hx2:x<=1000)(hy:0<=y)(hy2:y<=1000):ZeV N (w64 (x-y)) per=some ((x-y)%per):=by
 unfold ZeV
 have h1:=Int.lt_tmod_of_pos (x-y) (show 0<per by omega)
 have h2:=Int.tmod_lt_of_pos (x-y) (show 0<per by omega)
 rw [Zbr (x:=x-y) (by omega) (by omega),Zcd (by omega),ZT,Zbr (by omega) (by omega),Zcd (by omega),ZT,Zjq (by omega)]
theorem Zo4 (hN:2000<=N)(hp:ZcJ p=true){r:List (Zah×Bool)}{m:List (Zah×Bool)}(hm:MOK p m){i j:Nat}{x y:Int}(hi:offB p i x=true)(hj:offB p j y=true)(hij:i=j->x=y) :
  ∃ m',Zbh N (p,r) m i x j y=some (m',ZbI p i x j y)/\MOK p m':=by
 have h:=VP.of hp
 obtain ⟨i0,i1,x0,x1⟩:=Zbe.1 hi
 obtain ⟨j0,j1,y0,y1⟩:=Zbe.1 hj
 have xl:=ZgR h hi;have yl:=ZgR h hj
 have hpi:p.Periods.getD i 0∈p.Periods:=by rw [ZaX (by omega)];exact List.getElem_mem _
 have hpj:p.Periods.getD j 0∈p.Periods:=by rw [ZaX (by omega)];exact List.getElem_mem _
 have pi:=h.per _ hpi;have pj:=h.per _ hpj
 simp only [Zl] at x1 y1
 obtain ⟨q,hq⟩:∃ q,q=(x-y)%p.Periods.getD i 0:=⟨_,rfl⟩
 have q0:0<=q:=by rw [hq];exact Int.emod_nonneg _ (by omega)
 have q1:q<p.Periods.getD i 0:=by rw [hq];exact Int.emod_lt_of_pos _ (by omega)
 have ec:ZbY p i q j 0=(ZbI p i x j y,0):=by
  unfold ZbY
  have ea:argB p i q j 0=true:=by
   unfold argB
   have o1:offB p i q=true:=Zbe.2 ⟨by omega,by omega,q0,by rw [Zl];exact q1⟩
   have o2:offB p j 0=true:=Zbe.2 ⟨by omega,by omega,by omega,by rw [Zl];omega⟩
   rw [o1,o2]
   by_cases e:i=j
   ·have:=hij e
    have hz:q=0:=by rw [hq,this];simp
    simp [hz]
   have:¬ ((i:Int)=(j:Int)):=by omega
   simp [this]
  rw [Z3 hp,Z3 ea]
  congr 1
  have:=ZfO h i j x y (-y)
  rw [show y + -y=0 by omega,Int.zero_emod,show x + -y=x-y by omega,← hq] at this
  exact this
 unfold Zbh
 simp only
 rw [show idx p.Periods ((i:Nat):Int)=some (p.Periods.getD i 0) by rw [Zdp (by omega),ZaX (by omega)],ZT,Zkt pi.1 (by omega) x0 (by omega) y0 (by omega),ZT,← hq]
 cases hg:ZdV m (Zah.mk i q j) with
 | some b =>
  have hb:=hm _ _ hg
  simp only [ec] at hb
  refine ⟨m,?_,hm⟩
  unfold mhas ZiF
  rw [hg]
  simp [hb]
 | none =>
  refine ⟨Zeu m (Zah.mk i q j) (ZbY p i q j 0).1,?_,hm.set (Zah.mk i q j)⟩
  unfold mhas
  rw [hg,Z3 (by simp),ZeI hN,ec]
  rfl
end
end Go.Sh

namespace Go.Sh
open Go Go.Eng
section
variable {N:Nat} {p:Z6}
def AOK (p:Z6)(g:Zac):Prop:=∀ k:Nat,k<p.Periods.length->g.l.getD k 0 = -1∨offB p k (g.l.getD k 0)=true
theorem Zfb (g:Zac){k:Nat}(h:k<12):g.get (k:Int)=some (g.l.getD k 0):=by
 have hl:g.l.length=12:=rfl
 unfold Zac.get
 rw [Zdp (by omega),ZaX (by omega)]
theorem Zgf (g:Zac)(k j:Nat)(x:Int)(h:k<12):(g.set k x).l.getD j 0=if j=k then x else g.l.getD j 0:=by
 have hl:g.l.length=12:=rfl
 rw [Zac.l_set,Zl]
 simp only [Zq,Zz]
 by_cases e:k=j
 ·subst e
  rw [Z3 rfl,Z3 (by omega),Z3 rfl]
  rfl
 rw [Z2 e,Z2 (Ne.symm e)]
theorem AOK.set {g:Zac}(h:AOK p g)(hP:p.Periods.length<=12){s:Nat}(hs:s<p.Periods.length){x:Int}(hx:offB p s x=true):AOK p (g.set s x):=λk hk=>by
 rw [Zgf g s k x (by omega)]
 by_cases e:k=s
 ·subst e;rw [Z3 rfl];exact .inr hx
 rw [Z2 e];exact h k hk
def othO (g:Zac)(s b:Nat)(x:Int):Int:=if b=s then x else g.l.getD b 0
def refB (p:Z6)(s:Nat)(g:Zac)(a:Zam):Bool :=
 (decide (a.By.toNat=s) || !(g.l.getD a.By.toNat 0 == -1))&&allB (a.To-a.From).toNat λk=>ZbI p s (a.From+k) a.By.toNat (othO g s a.By.toNat (a.From+k))
structure Zpc (p:Z6) (s:Nat) (a:Zam):Prop where
 f0:0<=a.From
 lt:a.From<a.To
 le:a.To<=p.Periods.getD s 0
theorem Zlr {s:Nat}{a:Zam}(ha:Zpc p s a)(hs:s<p.Periods.length){k:Nat}(hk:k<(a.To-a.From).toNat):offB p s (a.From+k)=true:=by
 have:=ha.f0;have:=ha.lt;have:=ha.le
 exact Zbe.2 ⟨by omega,by omega,by omega,by rw [Zl];omega⟩
theorem Zhb (hN:2000<=N)(hp:ZcJ p=true){r m:List (Zah×Bool)}(hm:MOK p m){s:Nat}(hs:s<p.Periods.length){a:Zam}(ha:Zpc p s a)(b0:0<=a.By)(b1:a.By<(p.Periods.length:Int)){g:Zac}(hg:AOK p g) :
  ∃ m',ZcN N (λ(s:(List (Zah×Bool))) (x2578:Int) (x2579:Int) (x2580:Int) (x2581:Int)=>Zbh N (p,r) s x2578 x2579 x2580 x2581) (s:Int) g a m=some (m',refB p s g a)/\MOK p m':=by
 have h:=VP.of hp
 have hP:=h.len
 obtain ⟨b,hb⟩:∃ b:Nat,a.By=b:=⟨a.By.toNat,by omega⟩
 have f0:=ha.f0;have lt:=ha.lt;have le:=ha.le
 have hps:p.Periods.getD s 0∈p.Periods:=by rw [ZaX hs];exact List.getElem_mem _
 have ps:=h.per _ hps
 have hbn:a.By.toNat=b:=by omega
 unfold ZcN refB
 rw [hbn]
 by_cases none1:a.By≠s/\g.l.getD b 0 = -1
 ·have e1:(decide (b=s) || !(g.l.getD b 0 == -1))=false:=by
   rw [decide_eq_false (by omega),none1.2];rfl
  rw [e1,Bool.false_and]
  refine ⟨m,?_,hm⟩
  rw [Z3 (by simpa using none1.1),hb,Zfb g (by omega),ZT,none1.2]
  rfl
 have e1:(decide (b=s) || !(g.l.getD b 0 == -1))=true:=by
  by_cases q:b=s
  ·simp [q]
  have:¬ g.l.getD b 0 = -1:=λe=>none1 ⟨by omega,e⟩
  rw [beq_eq_false_iff_ne.2 this];simp
 rw [e1,Zj]
 have e2:(if (a.By != (s:Int))=true then ((g.get a.By).bind λe2=>(some (e2==(-1)))) else (some false))=some false:=by
  by_cases q:a.By=s
  ·rw [Z2 (by simpa using q)]
  rw [Z3 (by simpa using q),hb,Zfb g (by omega),ZT]
  have:¬ g.l.getD b 0 = -1:=λe=>none1 ⟨q,e⟩
  rw [beq_eq_false_iff_ne.2 this]
 rw [e2,ZT,Z2 (by simp)]
 obtain ⟨n,hn⟩:∃ n,n=(a.To-a.From).toNat:=⟨_,rfl⟩
 rw [← hn]
 obtain ⟨o,ho,eo⟩:=ZcR (body:=λx:Int×(List (Zah×Bool))=>Zbz N (λ(s:(List (Zah×Bool))) (x2578:Int) (x2579:Int) (x2580:Int) (x2581:Int)=>Zbh N (p,r) s x2578 x2579 x2580 x2581) (s:Int) g a x.1 x.2)
  (λx=>∃ k:Nat,x.1=a.From+k/\k<=n/\MOK p x.2/\allB k (λk=>ZbI p s (a.From+k) b (othO g s b (a.From+k)))=true) (λx=>(a.To-x.1).toNat)
  (λo=>∃ m',MOK p m'/\((o=.inl m'/\allB n (λk=>ZbI p s (a.From+k) b (othO g s b (a.From+k)))=true)∨(o=.inr (m',false)/\allB n (λk=>ZbI p s (a.From+k) b (othO g s b (a.From+k)))=false))) (λx hx=>by
   obtain ⟨i,m1⟩:=x
   obtain ⟨k,k1,k2,k3,k4⟩:=hx
   simp only at k1 k3
   subst k1
   simp only [Zbz]
   by_cases c:k<n
   ·rw [Z3 (by simp;omega),hb,Zfb g (by omega),ZT]
    have hx:=Zlr ha hs (k:=k) (by omega)
    have ej:(if ((b:Int)==(s:Int))=true then (some (a.From+(k:Int))) else (some (g.l.getD b 0)))=some (othO g s b (a.From+k)):=by
     unfold othO
     by_cases q:b=s
     ·rw [Z3 (by rw [beq_iff_eq];omega),Z3 q]
     rw [Z2 (by rw [beq_iff_eq];omega),Z2 q]
    rw [ej,ZT]
    have hy:offB p b (othO g s b (a.From+k))=true:=by
     unfold othO
     by_cases q:b=s
     ·rw [Z3 q,q];exact hx
     rw [Z2 q]
     rcases hg b (by omega) with e|e
     ·exact absurd ⟨by omega,e⟩ none1
     exact e
    obtain ⟨m2,hm2,hk2⟩:=Zo4 (N:=N) hN hp (r:=r) k3 hx hy (λe=>by unfold othO;rw [Z3 e.symm])
    rw [hm2,ZT]
    cases hme:ZbI p s (a.From+k) b (othO g s b (a.From+k)) with
    | true =>
     left
     refine ⟨(a.From+((k+1:Nat):Int),m2),?_,⟨k+1,rfl,by omega,hk2,by rw [Zom,k4,hme];rfl⟩,by simp only;omega⟩
     rw [Z2 (by simp),Zbr (by omega) (by omega)]
     congr 3
     omega
    | false =>
     right
     refine ⟨_,by rw [Z3 (by simp)],m2,hk2,.inr ⟨rfl,?_⟩⟩
     cases hq:allB n (λk=>ZbI p s (a.From+k) b (othO g s b (a.From+k))) with
     | false=>rfl
     | true=>have:=Zbl.1 hq k c;rw [hme] at this;cases this
   right
   obtain rfl:k=n:=by omega
   exact ⟨.inl m1,by rw [Z2 (by simp;omega)],m1,k3,.inl ⟨rfl,k4⟩⟩) N (a.From,m) ⟨0,by simp,by omega,hm,by simp [allB]⟩ (by simp only;omega)
 obtain ⟨m',hm',h1|h1⟩:=eo
 ·obtain ⟨rfl,h2⟩:=h1
  exact ⟨m',by rw [ho,ZT,h2],hm'⟩
 obtain ⟨rfl,h2⟩:=h1
 exact ⟨m',by rw [ho,ZT,h2],hm'⟩
end
end Go.Sh

namespace Go.Sh
open Go Go.Eng
section
variable {N:Nat} {p:Z6} {f:List Z8}
theorem ZfE {nP len c per:Int}{l:List Zam}:∀ {k:Nat} {e:Int},upF (Zbd nP len c per l) k 0=some e->0<=e
 | 0,e,h=>by simp only [upF,ZW] at h;omega
 | k+1,e,h=>by
  simp only [upF] at h
  obtain ⟨s,h1,h2⟩:=bind_some h
  have:=ZfE h1
  unfold Zbd at h2
  obtain ⟨a,h3,h4⟩:=bind_some h2
  by_cases q:ZeN nP len c per s a=true
  ·rw [Z3 q,ZW] at h4
   obtain ⟨a1,a2,_⟩:=Zek q
   omega
  rw [Z2 q] at h4;cases h4
theorem Zk5 {c:Nat}(h:Za3 p f c=true):∃ (hc:c<f.length) (s:Nat),f[c].Stream=s/\s<p.Periods.length/\∀ a∈f[c].Arms,Zpc p s a/\Zby p.Periods.length f.length c a=true:=by
 obtain ⟨hc,h0,h1,h2⟩:=Zfl h
 refine ⟨hc,f[c].Stream.toNat,by omega,by omega,λa ha=>?_⟩
 have hr:=Zim h2 a ha
 refine ⟨?_,hr⟩
 obtain ⟨k,hk,rfl⟩:=List.getElem_of_mem ha
 unfold Zgg at h2
 cases hu:upF (Zbd p.Periods.length f.length c (p.Periods.getD f[c].Stream.toNat 0) f[c].Arms) f[c].Arms.length 0 with
 | none=>rw [hu] at h2;cases h2
 | some s =>
  obtain ⟨s1,s2,h3,h4⟩:=Zlf hu k hk
  have:=ZfE h3
  unfold Zbd at h4
  rw [Zw hk,ZT] at h4
  by_cases q:ZeN p.Periods.length f.length c (p.Periods.getD f[c].Stream.toNat 0) s1 f[c].Arms[k]=true
  ·obtain ⟨a1,a2,a3,_⟩:=Zek q
   exact ⟨by omega,a2,a3⟩
  rw [Z2 q] at h4;cases h4
def armH (p:Z6)(s:Nat)(g:Zac)(rec_:Nat->Zac->Bool)(a:Zam):Bool :=
 if a.By = -1 then rec_ a.Next.toNat (g.set s a.From) else if 0<=a.By then refB p s g a else true
def hB (p:Z6)(f:List Z8):Nat->Nat->Zac->Bool
 | 0,_,_=>false
 | n+1,c,g=>match f[c]? with
  | none=>false
  | some x=>(g.l.getD x.Stream.toNat 0 == -1)&&x.Arms.all (armH p x.Stream.toNat g (hB p f n))
end
end Go.Sh
namespace Go.Sh
open Go Go.Eng
section
variable {N:Nat} {p:Z6} {f:List Z8}
def rOK (p:Z6)(s:Nat)(g:Zac)(a:Zam):Bool:=if a.By = -1 then true else if 0<=a.By then refB p s g a else true
def kids (s:Nat)(g:Zac)(as:List Zam):List Zag:=(as.filter λa=>a.By == -1).map λa=>⟨a.Next,g.set s a.From⟩
theorem ZjQ (s:Nat)(g:Zac)(as:List Zam):(kids s g as).length<=as.length:=by
 unfold kids
 rw [ZF]
 exact List.length_filter_le _ _
theorem ZkN (s:Nat)(g:Zac)(as:List Zam)(a:Zam):kids s g (as++[a])=kids s g as++(if a.By = -1 then [⟨a.Next,g.set s a.From⟩] else []):=by
 unfold kids
 rw [List.filter_append,List.map_append]
 congr 1
 by_cases h:a.By = -1
 ·rw [Z3 h];simp [List.filter,h]
 rw [Z2 h];simp [List.filter,beq_eq_false_iff_ne.2 h]
theorem Zoh (hN:2000<=N)(hp:ZcJ p=true){r m:List (Zah×Bool)}(hm:MOK p m){s:Nat}(hs:s<p.Periods.length){t:Zag}(hg:AOK p t.given){x:Z8}(hst:x.Stream=s){nP len c:Int}(hnP:nP=p.Periods.length)
  (harm:∀ a∈x.Arms,Zpc p s a/\Zby nP len c a=true) {l:List Zag} (hl:l.length<=100000000) (hA:x.Arms.length<1000000) (hAN:x.Arms.length<N) :
  ∃ m',MOK p m'/\Za9 (λy:Int×(List Zag)×(List (Zah×Bool))=>ZbF N (p,r) t x x y.1 y.2.1 y.2.2) N (0,l,m)=some (if x.Arms.all (rOK p s t.given)=true then .inl (l++kids s t.given x.Arms,m') else .inr false):=by
 have hP:=(VP.of hp).len
 obtain ⟨o,ho,m',hm',eo⟩:=ZcR (body:=λy:Int×(List Zag)×(List (Zah×Bool))=>ZbF N (p,r) t x x y.1 y.2.1 y.2.2)
  (λy=>∃ k:Nat,y.1=k/\k<=x.Arms.length/\y.2.1=l++kids s t.given (x.Arms.take k)/\MOK p y.2.2/\(x.Arms.take k).all (rOK p s t.given)=true) (λy=>(x.Arms.length-y.1).toNat)
  (λo=>∃ m',MOK p m'/\o=if x.Arms.all (rOK p s t.given)=true then .inl (l++kids s t.given x.Arms,m') else .inr false) (λy hy=>by
   obtain ⟨i,l1,m1⟩:=y
   obtain ⟨k,k1,k2,k3,k4,k5⟩:=hy
   simp only at k1 k3 k4
   subst k1 k3
   simp only [ZbF]
   by_cases c1:k<x.Arms.length
   ·obtain ⟨hok,hre⟩:=harm _ (List.getElem_mem c1)
    have hkl:=ZjQ s t.given (x.Arms.take k)
    rw [ZJ] at hkl
    have etake:x.Arms.take (k+1)=x.Arms.take k++[x.Arms[k]]:=List.take_succ_eq_append_getElem c1
    rw [Z3 (by simpa using c1),Zdp c1,ZT,ZbA (by omega)]
    by_cases b:x.Arms[k].By = -1
    ·left
     refine ⟨(((k+1:Nat):Int),l++kids s t.given (x.Arms.take (k+1)),m1),?_,⟨k+1,rfl,by omega,rfl,k4,?_⟩,by simp;omega⟩
     ·rw [Z3 (by simpa using b),hst,Zfb _ (by omega),ZT]
      simp only [Zcq]
      have ha:appI 104 (l++kids s t.given (x.Arms.take k)) [Zag.mk x.Arms[k].Next (t.given.set s x.Arms[k].From)]=some (l++kids s t.given (x.Arms.take k)++[Zag.mk x.Arms[k].Next (t.given.set s x.Arms[k].From)]):=by
       unfold appI
       rw [Z3 (by simp only [ZD,ZE,ZG];omega)]
      rw [ha,ZT,ZT,etake,ZkN,Z3 b,Zn]
     rw [etake,List.all_append,k5,Zj]
     simp [rOK,b]
    have hre2:=hre
    unfold Zby at hre2
    rw [Z2 b] at hre2
    rw [Z2 (by simpa using b)]
    have ek:kids s t.given (x.Arms.take (k+1))=kids s t.given (x.Arms.take k):=by rw [etake,ZkN,Z2 b,List.append_nil]
    by_cases b2:0<=x.Arms[k].By
    ·have b3:x.Arms[k].By<(p.Periods.length:Int):=by
      by_cases q:x.Arms[k].Next=0
      ·rw [Z3 q,Z2 (by omega),Z0] at hre2;omega
      rw [Z2 q] at hre2;cases hre2
     obtain ⟨m2,hm2,hk2⟩:=Zhb (N:=N) hN hp (r:=r) k4 hs hok b2 b3 hg
     rw [Z3 (by simpa using b2),hst,hm2,ZT,ZT]
     have er:rOK p s t.given x.Arms[k]=refB p s t.given x.Arms[k]:=by unfold rOK;rw [Z2 b,Z3 b2]
     cases hr:refB p s t.given x.Arms[k] with
     | true =>
      left
      refine ⟨(((k+1:Nat):Int),l++kids s t.given (x.Arms.take (k+1)),m2),?_,⟨k+1,rfl,by omega,rfl,hk2,?_⟩,by simp;omega⟩
      ·rw [Z2 (by simp),ek]
      rw [etake,List.all_append,k5,Zj,List.all_cons,er,hr];rfl
     | false =>
      right
      refine ⟨_,by rw [Z3 (by simp)],m2,hk2,?_⟩
      rw [Z2]
      rw [Zm]
      intro hq
      have:=hq _ (List.getElem_mem c1)
      rw [er,hr] at this
      cases this
    rw [Z2 (by simpa using b2),ZT]
    left
    refine ⟨(((k+1:Nat):Int),l++kids s t.given (x.Arms.take (k+1)),m1),?_,⟨k+1,rfl,by omega,rfl,k4,?_⟩,by simp;omega⟩
    ·rw [Z2 (by simp),ek]
    rw [etake,List.all_append,k5,Zj]
    simp [rOK,b,b2]
   right
   obtain rfl:k=x.Arms.length:=by omega
   rw [List.take_length] at k5 ⊢
   exact ⟨_,by rw [Z2 (by simp)],m1,k4,by rw [Z3 k5]⟩) N (0,l,m) ⟨0,rfl,by omega,by simp [kids],hm,by simp⟩ (by simp;omega)
 exact ⟨m',hm',by rw [ho,eo]⟩
end
end Go.Sh

namespace Go.Sh
open Go Go.Eng
theorem Zi5 {q q':Nat->Bool}{s:Nat}(h0:q s=false)(h1:q' s=true)(h:∀ k,k≠s->q' k=q k):∀ n,(List.range n).countP q'=(List.range n).countP q+(if s<n then 1 else 0)
 | 0=>by simp
 | n+1=>by
  rw [List.range_succ,List.countP_append,List.countP_append,Zi5 h0 h1 h n]
  by_cases e:n=s
  ·subst e
   simp [h0,h1]
  have:q' n=q n:=h n e
  simp only [List.countP_cons,List.countP_nil,this]
  by_cases c:s<n
  ·have c2:s<n+1:=by omega
   simp only [c,c2,Z4];omega
  have c2:¬ s<n+1:=by omega
  simp only [c,c2,Z1];omega
section
variable {N:Nat} {p:Z6} {f:List Z8}
def dep (p:Z6)(g:Zac):Nat:=(List.range p.Periods.length).countP λk=>g.l.getD k 0 != -1
theorem Zph (g:Zac):dep p g<=p.Periods.length:=by
 unfold dep
 have:=List.countP_le_length (p:=λk=>g.l.getD k 0 != -1) (l:=List.range p.Periods.length)
 simpa using this
theorem ZpF {g:Zac}(hP:p.Periods.length<=12){s:Nat}(hs:s<p.Periods.length)(h0:g.l.getD s 0 = -1){x:Int}(hx:x ≠ -1):dep p (g.set s x)=dep p g+1:=by
 unfold dep
 rw [Zi5 (q:=λk=>g.l.getD k 0 != -1) (q':=λk=>(g.set s x).l.getD k 0 != -1) (s:=s) (by rw [h0];rfl) (by rw [Zgf g s s x (by omega),Z3 rfl,bne_iff_ne];exact hx) (λk hk=>by rw [Zgf g s k x (by omega),Z2 hk]),Z3 hs]
def SI (p:Z6)(A:Nat):Nat->List Zag->Prop
 | 0,l=>l.length<=A/\∀ t∈l,dep p t.given=0
 | d+1,l=>∃ l1 B,l=l1++B/\SI p A d l1/\B.length<=A/\∀ t∈B,dep p t.given=d+1
theorem SI.len {A:Nat}:∀ {d:Nat} {l:List Zag},SI p A d l->l.length<=A*(d+1)
 | 0,l,h=>by rw [Nat.mul_one];exact h.1
 | d+1,l,h=>by
  obtain ⟨l1,B,rfl,h1,h2,_⟩:=h
  have:=SI.len h1
  rw [ZD,Nat.mul_add A (d+1) 1]
  omega
theorem SI.pop {A:Nat}{t:Zag}:∀ {d:Nat} {l:List Zag},SI p A d (l++[t])->SI p A (dep p t.given) l
 | 0,l,h=>by
  obtain ⟨h1,h2⟩:=h
  rw [h2 t (by simp)]
  exact ⟨by rw [ZD] at h1;omega,λu hu=>h2 u (by simp [hu])⟩
 | d+1,l,h=>by
  obtain ⟨l1,B,e,h1,h2,h3⟩:=h
  rcases List.eq_nil_or_concat B with rfl|⟨B',u,rfl⟩
  ·rw [List.append_nil] at e
   subst e
   exact SI.pop h1
  rw [List.concat_eq_append,← Zn] at e
  obtain ⟨rfl,e2⟩:=List.append_inj' e rfl
  cases e2
  rw [h3 t (by simp)]
  exact ⟨l1,B',rfl,h1,by rw [List.concat_eq_append,ZD] at h2;omega,λu hu=>h3 u (by simp [hu])⟩
theorem ZnX (hp:ZcJ p=true)(hall:∀ c,c<f.length->Za3 p f c=true){A:Nat}(ha:∀ x∈f,x.Arms.length<=A)(hA:A<1000000):∀ {n m c:Nat} {g:Zac} (hc:c<f.length) (h1:f.length-c<=n) (h2:f.length-c<=m) (hg:AOK p g),hB p f n c g=hB p f m c g
 | 0,m,c,g,hc,h1,h2,hg=>by omega
 | n+1,0,c,g,hc,h1,h2,hg=>by omega
 | n+1,m+1,c,g,hc,h1,h2,hg=>by
  have hP:=(VP.of hp).len
  obtain ⟨_,s,hs,hsl,harm⟩:=Zk5 (hall c hc)
  have hst:f[c].Stream.toNat=s:=by omega
  unfold hB
  rw [Zw hc]
  simp only
  congr 1
  rw [Zf,Zm,Zm]
  refine forall_congr' λa=>forall_congr' λhm=>?_
  obtain ⟨hok,hre⟩:=harm a hm
  have f0:=hok.f0;have lt:=hok.lt;have le:=hok.le
  unfold armH
  by_cases b:a.By = -1
  ·rw [Z3 b,Z3 b]
   unfold Zby at hre
   rw [Z3 b,Z0] at hre
   have hset:AOK p (g.set s a.From):=hg.set hP hsl (by have:=Zlr hok hsl (k:=0) (by omega);simpa using this)
   rw [hst,ZnX hp hall ha hA (n:=n) (m:=m) (c:=a.Next.toNat) (by omega) (by omega) (by omega) hset]
  rw [Z2 b,Z2 b]
theorem Zmn (s:Nat)(g:Zac)(R:Nat->Zac->Bool):∀ as:List Zam,as.all (armH p s g R)=(as.all (rOK p s g)&&(kids s g as).all λt=>R t.choice.toNat t.given)
 | []=>rfl
 | a::as=>by
  rw [List.all_cons,List.all_cons,Zmn s g R as]
  unfold kids
  by_cases h:a.By = -1
  ·rw [List.filter_cons_of_pos (by simpa using h),ZK,List.all_cons]
   have e1:armH p s g R a=R a.Next.toNat (g.set s a.From):=by unfold armH;rw [Z3 h]
   have e2:rOK p s g a=true:=by unfold rOK;rw [Z3 h]
   rw [e1,e2,Zj]
   cases R a.Next.toNat (g.set s a.From)<;>simp
  rw [List.filter_cons_of_neg (by simpa using h)]
  have e1:armH p s g R a=rOK p s g a:=by unfold armH rOK;rw [Z2 h,Z2 h]
  rw [e1,Bool.and_assoc]
def wt (p:Z6)(A:Nat)(t:Zag):Nat:=(A+1) ^ (13-dep p t.given)
def wts (p:Z6)(A:Nat)(l:List Zag):Nat:=(l.map (wt p A)).sum
theorem Zna (A:Nat)(a b:List Zag):wts p A (a++b)=wts p A a+wts p A b:=by simp [wts]
theorem Zpd {A W:Nat}:∀ {l:List Zag},(∀ t∈l,wt p A t=W)->wts p A l=l.length*W
 | [],_=>by simp [wts]
 | t::l,h=>by
  have:=Zpd (l:=l) λu hu=>h u (by simp [hu])
  unfold wts at this ⊢
  rw [ZK,List.sum_cons,this,h t (by simp),ZE,ZQ]
  omega
structure TOK (p:Z6) (f:List Z8) (t:Zag):Prop where
 c0:0<=t.choice
 c1:t.choice<(f.length:Int)
 g:AOK p t.given
def Zjr (p:Z6)(f:List Z8)(t:Zag):Bool:=hB p f f.length t.choice.toNat t.given
theorem Zmw (hp:ZcJ p=true)(hall:∀ c,c<f.length->Za3 p f c=true){A:Nat}(hA1:1<=A)(ha:∀ x∈f,x.Arms.length<=A)(hA:A<1000000){r:List (Zah×Bool)}{t0:Zag}(ht0:TOK p f t0)(hd0:dep p t0.given=0)
  (hN:2000+A<N) (hN2:(A+1) ^ 13<N) :
  Za9 (λx:(List Zag)×(List (Zah×Bool))=>ZbG N f (p,r) x.1 x.2) N ([t0],[])=some (if Zjr p f t0=true then .inl () else .inr false):=by
 have hP:=(VP.of hp).len
 obtain ⟨o,ho,eo⟩:=ZcR (body:=λx:(List Zag)×(List (Zah×Bool))=>ZbG N f (p,r) x.1 x.2)
  (λx=>MOK p x.2/\(∀ t∈x.1,TOK p f t)/\(∃ d,d<=12/\SI p A d x.1)/\x.1.all (Zjr p f)=Zjr p f t0) (λx=>wts p A x.1)
  (λo=>o=if Zjr p f t0=true then .inl () else .inr false) (λx hx=>by
   obtain ⟨l,m⟩:=x
   obtain ⟨h1,h2,⟨d,hd,h3⟩,h4⟩:=hx
   simp only at h1 h2 h3 h4
   simp only [ZbG]
   rcases List.eq_nil_or_concat l with rfl|⟨l0,t,rfl⟩
   ·right
    exact ⟨_,by rw [Z2 (by simp)],by rw [← h4];rfl⟩
   ·rw [List.concat_eq_append] at h2 h3 h4 ⊢
    have ht:=h2 t (by simp)
    obtain ⟨c,hc⟩:∃ c:Nat,t.choice=c:=⟨t.choice.toNat,by have:=ht.c0;omega⟩
    have hcl:c<f.length:=by have:=ht.c1;omega
    obtain ⟨_,s,hs,hsl,harm⟩:=Zk5 (hall c hcl)
    have hb:=ha _ (List.getElem_mem hcl)
    have hlen:=h3.len
    have hlen2:A*(d+1)<=A*13:=Nat.mul_le_mul_left A (by omega)
    rw [ZD,ZE,ZG] at hlen
    have e1:w64 (((List.length (l0++[t]):Nat):Int)-1)=(l0.length:Int):=by
     rw [ZD,ZE,ZG,Zbr (by omega) (by omega)];omega
    have e2:idx (l0++[t]) ((l0.length:Nat):Int)=some t:=by rw [Ze7];simp
    have e3:popI (l0++[t]) ((l0.length:Nat):Int)=some l0:=by
     unfold popI
     rw [Z3 (by simp;omega)]
     simp
    rw [Z3 (by simp),e1,e2,ZT,e3,ZT,hc,Zdp hcl,ZT,hs,Zfb t.given (by omega),ZT]
    have hstep:Zjr p f t=((t.given.l.getD s 0 == -1)&&f[c].Arms.all (armH p s t.given (hB p f f.length))):=by
     unfold Zjr
     rw [hc,Zl,ZnX hp hall ha hA hcl (n:=f.length) (m:=f.length+1) (by omega) (by omega) ht.g]
     show (match f[c]? with
      | none=>false
      | some x=>(t.given.l.getD x.Stream.toNat 0 == -1)&&x.Arms.all (armH p x.Stream.toNat t.given (hB p f f.length)))=_
     rw [Zw hcl]
     simp only [hs,Zl]
    have hbad:Zjr p f t=false->Zjr p f t0=false:=λhf=>by
     rw [← h4,List.all_append]
     simp [hf]
    by_cases hz:t.given.l.getD s 0 = -1
    ·rw [Z2 (by rw [hz];simp),ZT]
     obtain ⟨m',hm',hloop⟩:=Zoh (N:=N) (by omega) hp (r:=r) h1 hsl ht.g hs rfl harm (l:=l0) (by omega) (by omega) (by omega)
     rw [hloop,ZT]
     rw [Zmn,beq_iff_eq.2 hz,Zj] at hstep
     cases hr:f[c].Arms.all (rOK p s t.given) with
     | false =>
      right
      rw [hr,Bool.false_and] at hstep
      exact ⟨_,by rw [Z2 (by simp)],by rw [hbad hstep,Z2 (by simp)]⟩
     | true =>
      left
      rw [hr,Zj] at hstep
      have hkid:∀ u∈kids s t.given f[c].Arms,TOK p f u/\dep p u.given=dep p t.given+1:=λu hu=>by
       unfold kids at hu
       obtain ⟨a,haf,rfl⟩:=List.mem_map.1 hu
       obtain ⟨ha1,ha2⟩:=List.mem_filter.1 haf
       rw [beq_iff_eq] at ha2
       obtain ⟨hok,hre⟩:=harm a ha1
       unfold Zby at hre
       rw [Z3 ha2,Z0] at hre
       have hf0:=hok.f0
       have hlt:=hok.lt
       have ho:=Zlr hok hsl (k:=0) (by omega)
       exact ⟨⟨by simp only;omega,by simp only;omega,ht.g.set hP hsl (by simpa using ho)⟩,ZpF hP hsl hz (by omega)⟩
      have hpop:=SI.pop h3
      have hdl:=Zph (p:=p) t.given
      refine ⟨(l0++kids s t.given f[c].Arms,m'),by rw [Z3 rfl],⟨hm',λu hu=>?_,?_,?_⟩,?_⟩
      ·rcases List.mem_append.1 hu with hu|hu
       ·exact h2 u (by simp [hu])
       exact (hkid u hu).1
      ·by_cases hk0:kids s t.given f[c].Arms=[]
       ·exact ⟨dep p t.given,by omega,by simp only;rw [hk0,List.append_nil];exact hpop⟩
       obtain ⟨u,hu⟩:=List.exists_mem_of_ne_nil _ hk0
       have:=Zph (p:=p) u.given
       have:=(hkid u hu).2
       exact ⟨dep p t.given+1,by omega,l0,_,rfl,hpop,Nat.le_trans (ZjQ _ _ _) hb,λu hu=>(hkid u hu).2⟩
      ·rw [← h4]
       simp only [List.all_append,List.all_cons,List.all_nil,Bool.and_true]
       rw [hstep]
       rfl
      simp only
      rw [Zna,Zna]
      have w1:wts p A [t]=(A+1) ^ (13-dep p t.given):=by simp [wts,wt]
      have hdt:dep p t.given<=12:=by omega
      have w2:=Zpd (p:=p) (A:=A) (W:=(A+1) ^ (13-(dep p t.given+1))) (l:=kids s t.given f[c].Arms) (λu hu=>by unfold wt;rw [(hkid u hu).2])
      have w3:(A+1) ^ (13-dep p t.given)=(A+1) ^ (13-(dep p t.given+1))*(A+1):=by
       rw [← Nat.pow_succ]
       congr 1
       omega
      have w4:0<(A+1) ^ (13-(dep p t.given+1)):=Nat.pow_pos (by omega)
      have w5:=Nat.mul_le_mul_right ((A+1) ^ (13-(dep p t.given+1))) (Nat.le_trans (ZjQ s t.given f[c].Arms) hb)
      rw [w1,w2,w3,Nat.mul_add,Nat.mul_comm _ A]
      omega
    right
    rw [beq_eq_false_iff_ne.2 hz,Bool.false_and] at hstep
    exact ⟨_,by rw [Z3 (by simpa using hz)],by rw [hbad hstep,Z2 (by simp)]⟩) N ([t0],[]) ⟨MOK.nil,λt ht=>by simp only [ZM] at ht;subst ht;exact ht0,⟨0,by omega,by simp;omega,λt ht=>by simp only [ZM] at ht;subst ht;exact hd0⟩,by simp⟩ (by
   simp only [wts,wt,ZK,ZL,List.sum_cons,List.sum_nil,hd0]
   simpa using hN2)
 rw [ho,eo]
end
end Go.Sh

namespace Go.Sh
open Go Go.Eng
def g0:Zac:=⟨-1,-1,-1,-1,-1,-1,-1,-1,-1,-1,-1,-1⟩
theorem Zn0 (k:Nat)(h:k<12):g0.l.getD k 0 = -1:=by
 rcases k with _|_|_|_|_|_|_|_|_|_|_|_|k<;>first|rfl|omega
theorem ZoA (n M:Nat):Za9 (λx:Int×Zac=>Zcp M x.1 x.2) (n+13) (0,(Zac.mk 0 0 0 0 0 0 0 0 0 0 0 0))=some g0:=by kernel_rfl
section
variable {N:Nat} {p:Z6} {f:List Z8}
theorem Zn3 (h:Zia p f=true):1<=f.length/\f.length<=2000/\∀ c,c<f.length->Za3 p f c=true:=by
 unfold Zia at h
 simp only [Ze,Z0] at h
 exact ⟨h.1.1.1,h.1.1.2,Zbl.1 h.1.2⟩
theorem Zwn (hp:ZcJ p=true):AOK p g0:=λk hk=>.inl (Zn0 k (by have:=(VP.of hp).len;omega))
theorem Zrg (hp:ZcJ p=true):dep p g0=0:=by
 unfold dep
 rw [List.countP_eq_zero]
 intro k hk
 rw [List.mem_range] at hk
 rw [Zn0 k (by have:=(VP.of hp).len;omega)]
 simp
def Zhq (p:Z6)(f:List Z8):Bool:=hB p f f.length 0 g0
def Zk2 (p:Z6)(f:List Z8):Int:=if ZcJ p=true then (if Zia p f=true then (if Zhq p f=true then 0 else 351) else 350) else 340
theorem Zix (hp:ZcJ p=true)(hf:Zia p f=true){A:Nat}(hA1:1<=A)(ha:∀ x∈f,x.Arms.length<=A)(hA:A<1000000)(hN:2000+A<N)(hN2:(A+1) ^ 13<N):ZdM N p f=some (Zhq p f):=by
 obtain ⟨h1,h2,hall⟩:=Zn3 hf
 obtain ⟨n,rfl⟩:∃ n,N=n+13:=⟨N-13,by omega⟩
 unfold ZdM
 have e1:ZcO (n+13) p=some (p,[]):=rfl
 rw [e1,ZT,ZoA,ZT]
 have e2:Zcr (n+13) [] 0 g0=some [⟨0,g0⟩]:=rfl
 simp only [e2,ZT]
 rw [Zmw hp hall hA1 ha hA (t0:=⟨0,g0⟩) ⟨by simp,by simp only;omega,Zwn hp⟩ (Zrg hp) hN hN2,ZT]
 have e3:Zjr p f ⟨0,g0⟩=Zhq p f:=rfl
 rw [e3]
 cases Zhq p f<;>rfl
theorem ZiB {A:Nat}(hA1:1<=A)(ha:∀ x∈f,x.Arms.length<=A)(hA:A<1000000)(hfl:f.length<N)(hN:2000+A<N)(hN2:(A+1) ^ 13<N):ZcY N p f=some (Zk2 p f):=by
 unfold ZcY Zk2
 rw [Zdw (by omega),ZT]
 cases hp:ZcJ p with
 | false=>rfl
 | true =>
  simp only [Z4]
  rw [Z2 (by simp),ZhQ hfl (by omega) (λx hx=>by have:=ha x hx;omega),ZT]
  cases hf:Zia p f with
  | false=>rfl
  | true =>
   simp only [Z4]
   rw [Z2 (by simp),Zix hp hf hA1 ha hA hN hN2,ZT]
   cases Zhq p f<;>rfl
end
end Go.Sh
namespace Go.Sh
open Go Go.Eng
def ZeK (q:Nat->Bool):Nat->Option Nat
 | 0=>none
 | n+1=>match ZeK q n with
  | some j=>some j
  | none=>if q n=true then some n else none
theorem Zey {q:Nat->Bool}:∀ {n:Nat},ZeK q n=none↔∀ k,k<n->q k=false
 | 0=>by simp [ZeK]
 | n+1=>by
  have ih:=Zey (q:=q) (n:=n)
  simp only [ZeK]
  cases h:ZeK q n with
  | some j =>
   simp only [reduceCtorEq,false_iff]
   intro h2
   rw [ih.2 λk hk=>h2 k (by omega)] at h
   cases h
  | none =>
   simp only
   have h3:=ih.1 h
   constructor
   ·intro h2 k hk
    by_cases e:k=n
    ·subst e
     cases hq:q k with
     | false=>rfl
     | true=>rw [hq,Z3 rfl] at h2;cases h2
    exact h3 k (by omega)
   intro h2
   rw [h2 n (by omega),Z2 (by simp)]
theorem Zc0 {q:Nat->Bool}{j:Nat}:∀ {n:Nat},ZeK q n=some j↔j<n/\q j=true/\∀ k,k<j->q k=false
 | 0=>by simp [ZeK]
 | n+1=>by
  have ih:=Zc0 (q:=q) (j:=j) (n:=n)
  simp only [ZeK]
  cases h:ZeK q n with
  | some j' =>
   simp only [ZW]
   rw [h] at ih
   simp only [ZW] at ih
   constructor
   ·intro e
    obtain ⟨a,b,c⟩:=ih.1 e
    exact ⟨by omega,b,c⟩
   rintro ⟨a,b,c⟩
   by_cases e:j=n
   ·subst e
    obtain ⟨a',b',_⟩:=Zc0.1 h
    rw [c j' a'] at b'
    cases b'
   exact ih.2 ⟨by omega,b,c⟩
  | none =>
   simp only
   have h3:=Zey.1 h
   constructor
   ·intro h2
    split at h2
    ·rename_i hq
     cases h2
     exact ⟨by omega,hq,h3⟩
    cases h2
   rintro ⟨a,b,c⟩
   by_cases e:j=n
   ·subst e;rw [Z3 b]
   rw [h3 j (by omega)] at b;cases b
section
variable {N:Nat} {p:Z6}
def byS (p:Z6)(i:Nat)(x:Int)(all:List Int):Int:=match ZeK (λj=>ZbI p i x j (all.getD j 0)) (i+1) with
 | some j=>j
 | none => -1
def c00:Z8:=⟨0,[]⟩
def a00:Zam:=⟨0,0,0,0⟩
def ZfP (l:List Zam)(b:Int):Bool:=decide (b ≠ -1)&&decide (l≠[])&&decide ((l.getD (l.length-1) a00).By=b)
def ZkU (l:List Zam)(t:Int):List Zam:=l.set (l.length-1) { l.getD (l.length-1) a00 with To:=t }
def bS (p:Z6)(given:List Int)(c x:Nat):Int:=if c=0/\0<x then -2 else byS p given.length x (given++[(x:Int)])
def ZdE (p:Z6)(given:List Int)(c:Nat)(R:List Z8->List Int->Option (List Z8))(x:Nat)(s:List Z8):Option (List Z8):=
 if ZfP (s.getD c c00).Arms (bS p given c x)=true then some (s.set c ⟨(s.getD c c00).Stream,ZkU (s.getD c c00).Arms ((x:Int)+1)⟩)
 else if bS p given c x = -1 then (R s (given++[(x:Int)])).map λr=>r.set c ⟨(r.getD c c00).Stream,(r.getD c c00).Arms++[⟨x,(x:Int)+1,-1,s.length⟩]⟩
 else some (s.set c ⟨(s.getD c c00).Stream,(s.getD c c00).Arms++[⟨x,(x:Int)+1,bS p given c x,0⟩]⟩)
def ZfQ (p:Z6):Nat->List Z8->List Int->Option (List Z8)
 | 0,_,_=>none
 | n+1,f,given=>if 2000<=f.length then none else upF (ZdE p given f.length (ZfQ p n)) (p.Periods.getD given.length 0).toNat (f++[⟨given.length,[]⟩])
def Zdb (s:List Z8):Prop:=∀ y∈s,y.Arms.length<=240
structure GI (f:List Z8) (i x:Nat) (s:List Z8):Prop where
 pre:f <+: s
 lt:f.length<s.length
 le:s.length<=2000
 st:(s.getD f.length c00).Stream=i
 ar:(s.getD f.length c00).Arms.length<=x
 sm:Zdb s
def RK (R:List Z8->List Int->Option (List Z8)):Prop:=∀ s g r,s.length<=2000->Zdb s->R s g=some r->s <+: r/\r.length<=2000/\Zdb r
theorem Zdb.set {s:List Z8}(h:Zdb s){c:Nat}{y:Z8}(hy:y.Arms.length<=240):Zdb (s.set c y):=λz hz=>by
 rcases List.mem_or_eq_of_mem_set hz with hz|rfl
 ·exact h z hz
 exact hy
theorem Zl9 {α:Type}{l m:List α}{i:Nat}(x:α)(h:l <+: m)(hi:l.length<=i):l <+: m.set i x:=by
 obtain ⟨t,rfl⟩:=h
 rw [List.set_append_right _ _ hi]
 exact ⟨_,rfl⟩
theorem Zc7 {α:Type}{l m:List α}{i:Nat}(d:α)(h:l <+: m)(hi:i<l.length):m.getD i d=l.getD i d:=by
 obtain ⟨t,rfl⟩:=h
 simp [Zq,Zr hi]
theorem Zbq {α:Type}{l:List α}{i:Nat}(d x:α)(hi:i<l.length):(l.set i x).getD i d=x:=by
 simp [Zq,hi]
theorem Zn8 (l:List Zam)(t:Int):(ZkU l t).length=l.length:=by simp [ZkU]
theorem GI.set {f:List Z8}{i x x':Nat}{s:List Z8}(h:GI f i x s){l:List Zam}(hl:l.length<=x')(hx:x'<=240):GI f i x' (s.set f.length ⟨(s.getD f.length c00).Stream,l⟩):=
 {pre:=Zl9 _ h.pre (Nat.le_refl _)
  lt:=by rw [ZH];exact h.lt
  le:=by rw [ZH];exact h.le
  st:=by rw [Zbq _ _ h.lt];exact h.st
  ar:=by rw [Zbq _ _ h.lt];exact hl
  sm:=h.sm.set (by simp only;omega) }
theorem GI.step {f:List Z8}{given:List Int}{R:List Z8->List Int->Option (List Z8)}(hR:RK R){i x:Nat}{s s':List Z8}(h:GI f i x s)(hx:x<240)(hs:ZdE p given f.length R x s=some s'):GI f i (x+1) s':=by
 unfold ZdE at hs
 split at hs
 ·cases hs
  exact h.set (by rw [Zn8];have:=h.ar;omega) (by omega)
 split at hs
 ·cases hr:R s (given++[(x:Int)]) with
  | none=>rw [hr] at hs;cases hs
  | some r =>
   rw [hr] at hs
   cases hs
   obtain ⟨h1,h2,h3⟩:=hR s _ r h.le h.sm hr
   have h4:GI f i x r :=
    {pre:=h.pre.trans h1
     lt:=Nat.lt_of_lt_of_le h.lt h1.length_le
     le:=h2
     st:=by rw [Zc7 _ h1 h.lt];exact h.st
     ar:=by rw [Zc7 _ h1 h.lt];exact h.ar
     sm:=h3 }
   exact h4.set (by have:=h4.ar;rw [ZD,ZI];omega) (by omega)
 cases hs
 exact h.set (by have:=h.ar;rw [ZD,ZI];omega) (by omega)
theorem GI.start {f:List Z8}(i:Nat)(hf:f.length<2000)(hs:Zdb f):GI f i 0 (f++[⟨i,[]⟩]):=
 {pre:=List.prefix_append _ _
  lt:=by simp
  le:=by simp;omega
  st:=by simp [Zq]
  ar:=by simp [Zq]
  sm:=λy hy=>by
   rcases List.mem_append.1 hy with hy|hy
   ·exact hs y hy
   simp only [ZM] at hy;subst hy;simp }
theorem GI.loop {f:List Z8}{given:List Int}{R:List Z8->List Int->Option (List Z8)}(hR:RK R){i:Nat}{s0:List Z8}(h0:GI f i 0 s0) :
  ∀ {n:Nat} {s:List Z8},n<=240->upF (ZdE p given f.length R) n s0=some s->GI f i n s
 | 0,s,_,h=>by simp only [upF,ZW] at h;subst h;exact h0
 | n+1,s,hn,h=>by
  simp only [upF] at h
  cases hu:upF (ZdE p given f.length R) n s0 with
  | none=>rw [hu] at h;cases h
  | some s1 =>
   rw [hu] at h
   exact (GI.loop hR h0 (by omega) hu).step hR (by omega) h
theorem Zd0 (hp:VP p):∀ n,RK (ZfQ p n)
 | 0=>λs g r _ _ h=>by cases h
 | n+1=>λs g r h1 h2 h=>by
  simp only [ZfQ] at h
  split at h
  ·cases h
  rename_i hc
  have hper:(p.Periods.getD g.length 0).toNat<=240:=by
   by_cases e:g.length<p.Periods.length
   ·rw [ZaX e]
    have:=hp.per _ (List.getElem_mem e)
    omega
   rw [Zq,Zx (by omega)];simp
  have hG:=GI.loop (Zd0 hp n) (GI.start g.length (by omega) h2) hper h
  exact ⟨hG.pre,hG.le,hG.sm⟩
end
end Go.Sh
namespace Go.Sh
open Go Go.Eng
section
variable {N:Nat} {p:Z6}
def ZkJ (p:Z6):Option (List Z8):=if p.Periods.length=0 then none else ZfQ p p.Periods.length [] []
theorem Zlt (hp:VP p){r:List Z8}(h:ZkJ p=some r):r.length<=2000/\Zdb r:=by
 unfold ZkJ at h
 split at h
 ·cases h
 obtain ⟨_,h1,h2⟩:=Zd0 hp p.Periods.length [] [] r (by simp) (by intro y hy;cases hy) h
 exact ⟨h1,h2⟩
theorem u8 {x:Int}(h:InK .u8 x):0<=x/\x<=255:=h.u8
end
end Go.Sh
namespace Go.Sh
open Go Go.Eng
section
variable {N:Nat} {p:Z6} {f:List Z8}
theorem Zhr {σ:Type}{step step':Nat->σ->Option σ}:∀ {n:Nat} {s:σ},(∀ k,k<n->step k=step' k)->upF step n s=upF step' n s
 | 0,_,_=>rfl
 | n+1,s,h=>by
  simp only [upF]
  rw [Zhr (n:=n) λk hk=>h k (by omega),h n (by omega)]
theorem Zjp {σ:Type}{step step':Nat->σ->Option σ}(h:∀ k s s',step k s=some s'->step' k s=some s'):∀ {n:Nat} {s0 s:σ},upF step n s0=some s->upF step' n s0=some s
 | 0,_,_,e=>e
 | n+1,s0,s,e=>by
  simp only [upF] at e ⊢
  obtain ⟨s1,h1,h2⟩:=bind_some e
  rw [Zjp h h1,ZT]
  exact h _ _ _ h2
def cntA (as:List Zam)(m:Nat):Nat:=as.countP λa=>a.By == -1&&a.Next==(m:Int)
def cntC (f:List Z8)(m:Nat):Nat:=(f.map λx=>cntA x.Arms m).sum
theorem Zc1 (a b:List Z8)(m:Nat):cntC (a++b) m=cntC a m+cntC b m:=by simp [cntC]
theorem Zhg (x:Z8)(m:Nat):cntC [x] m=cntA x.Arms m:=by simp [cntC]
theorem Zk3 {nP len c:Int}{m:Nat}:∀ {as:List Zam} {l:List Int},(∀ a∈as,Zby nP len c a=true)->0<=c->(l.length:Int)=len->m<l.length->0<=l.getD m 0->l.getD m 0+as.length<=1000000000->(as.foldl bump l).getD m 0=l.getD m 0+cntA as m
 | [],l,_,_,_,_,_,_=>by simp [cntA]
 | a::as,l,h,h0,hl,hm,hn,hb=>by
  rw [List.foldl_cons]
  have ha:=h a (by simp)
  have hb':(bump l a).getD m 0=l.getD m 0+(if a.By = -1/\a.Next=(m:Int) then 1 else 0):=by
   unfold bump
   by_cases e:a.By = -1
   ·unfold Zby at ha
    rw [Z3 e,Z0] at ha
    rw [Z3 e]
    by_cases d:a.Next=(m:Int)
    ·rw [d,Zl,Z3 ⟨e,rfl⟩]
     rw [ZE] at hb
     rw [Zbq _ _ hm,Zbr (by omega) (by omega)]
    rw [Z2 (λq=>d q.2)]
    rw [Zq,ZA (by omega),← Zq]
    omega
   rw [Z2 e,Z2 (λq=>e q.1)]
   omega
  rw [ZE] at hb
  rw [Zk3 (nP:=nP) (len:=len) (c:=c) (λb hb=>h b (by simp [hb])) h0 (by rw [Zj2];exact hl) (by rw [Zj2];exact hm) (by rw [hb'];split<;>omega) (by rw [hb'];split<;>omega),hb']
  unfold cntA
  rw [List.countP_cons]
  by_cases e:a.By = -1/\a.Next=(m:Int)
  ·rw [Z3 e,Z3 (by simp [e.1,e.2])]
   omega
  rw [Z2 e,Z2 (by simpa using e)]
  omega
theorem ZkH {m:Nat}(hs:Zdb f)(hfl:f.length<=2000)(hall:∀ c,c<f.length->Za3 p f c=true)(hm:m<f.length):∀ {k:Nat},k<=f.length->(Zdg f k (List.replicate f.length 0)).getD m 0=cntC (f.take k) m/\cntC (f.take k) m<=240*k
 | 0,_=>by
  simp [Zdg,cntC,Zq,List.getElem?_replicate,hm]
 | k+1,hk=>by
  obtain ⟨ih,ih2⟩:=ZkH hs hfl hall hm (k:=k) (by omega)
  have hkl:k<f.length:=by omega
  obtain ⟨_,_,_,h5⟩:=Zfl (hall k hkl)
  have hsm:=hs _ (List.getElem_mem hkl)
  have ht:cntC (f.take (k+1)) m=cntC (f.take k) m+cntA f[k].Arms m:=by
   rw [List.take_add_one,Zw hkl,Option.toList_some,Zc1,Zhg]
  have hc:cntA f[k].Arms m<=f[k].Arms.length:=List.countP_le_length
  simp only [Zdg,Zm0]
  rw [Zw hkl]
  simp only
  have hln:(Zdg f k (List.replicate f.length 0)).length=f.length:=by rw [ZdA];simp
  rw [Zk3 (nP:=p.Periods.length) (len:=f.length) (c:=k) (Zim h5) (by omega) (by rw [hln]) (by rw [hln];exact hm) (by rw [ih];omega) (by rw [ih];omega),ih,ht]
  exact ⟨by omega,by omega⟩
theorem Zn2 (hs:Zdb f):Zia p f=true↔(1<=f.length/\f.length<=2000)/\(∀ c,c<f.length->Za3 p f c=true)/\∀ m,1<=m->m<f.length->cntC f m=1:=by
 unfold Zia
 simp only [Ze,Z0]
 rw [and_assoc]
 refine and_congr_right λh1=>?_
 rw [Zbl]
 refine and_congr_right λhall=>?_
 have hg:∀ m,m<f.length->(Zdg f f.length (List.replicate f.length 0)).getD m 0=cntC f m:=λm hm=>by
  have:=(ZkH hs h1.2 hall hm (k:=f.length) (Nat.le_refl _)).1
  rwa [List.take_length] at this
 have hln:(Zdg f f.length (List.replicate f.length 0)).length=f.length:=by rw [ZdA];simp
 rw [Zm]
 constructor
 ·intro h m m1 m2
  have h2:=h ((Zdg f f.length (List.replicate f.length 0)).getD m 0) (by
   rw [ZaX (by omega)]
   rw [List.mem_drop_iff_getElem]
   exact ⟨m-1,by omega,by congr 1;omega⟩)
  rw [hg m m2,beq_iff_eq] at h2
  omega
 intro h x hx
 rw [List.mem_drop_iff_getElem] at hx
 obtain ⟨i,hi,rfl⟩:=hx
 have h2:=hg (i+1) (by omega)
 rw [ZaX (by omega)] at h2
 have h3:=h (i+1) (by omega) (by omega)
 rw [beq_iff_eq]
 have e:(Zdg f f.length (List.replicate f.length 0))[1+i]'(by omega)=(Zdg f f.length (List.replicate f.length 0))[i+1]'(by omega):=by congr 1;omega
 rw [e,h2,h3]
 rfl
end
end Go.Sh

namespace Go.Sh
open Go Go.Eng
section
variable {p:Z6}
theorem Zkq {nP L L' c:Int}{a:Zam}(hL:L<=L')(h:Zby nP L c a=true):Zby nP L' c a=true:=by
 unfold Zby at h ⊢
 split
 ·rename_i hb
  rw [Z3 hb,Z0] at h
  rw [Z0]
  omega
 rename_i hb
 rw [Z2 hb] at h
 exact h
theorem Zm5 {nP L L' c per e:Int}{a:Zam}(hL:L<=L')(h:ZeN nP L c per e a=true):ZeN nP L' c per e a=true:=by
 unfold ZeN at h ⊢
 rw [Ze] at h ⊢
 exact ⟨h.1,Zkq hL h.2⟩
theorem ZgZ {nP L L' c per:Int}{l:List Zam}(hL:L<=L')(k:Nat)(e e':Int)(h:Zbd nP L c per l k e=some e'):Zbd nP L' c per l k e=some e':=by
 unfold Zbd at h ⊢
 cases hk:l[k]? with
 | none=>rw [hk] at h;cases h
 | some a =>
  rw [hk,ZT] at h
  rw [ZT]
  split at h
  ·rename_i hok
   rw [Z3 (Zm5 hL hok)]
   exact h
  cases h
theorem Zm3 {nP L L' c per:Int}{l:List Zam}(hL:L<=L')(h:Zgg nP L c per l=true):Zgg nP L' c per l=true:=by
 unfold Zgg at h ⊢
 cases hu:upF (Zbd nP L c per l) l.length 0 with
 | none=>rw [hu] at h;cases h
 | some e =>
  rw [hu] at h
  rw [Zjp (ZgZ hL) hu]
  exact h
theorem ZlD {s r:List Z8}{d:Nat}(h:s <+: r)(hd:Za3 p s d=true):Za3 p r d=true:=by
 obtain ⟨hc,_⟩:=Zfl hd
 have hl:=h.length_le
 have hc':d<r.length:=by omega
 have e:r[d]=s[d]:=by
  obtain ⟨t,rfl⟩:=h
  exact List.getElem_append_left hc
 rw [ZcH hc,Ze] at hd
 rw [ZcH hc',e,Ze]
 exact ⟨hd.1,Zm3 (by omega) hd.2⟩
theorem ZlC {s:List Z8}{c d:Nat}(y:Z8)(h:d≠c):Za3 p (s.set c y) d=Za3 p s d:=by
 unfold Za3
 rw [ZA (Ne.symm h),ZH]
theorem Zil {nP L c per e:Int}{l:List Zam}{a:Zam}(h:upF (Zbd nP L c per l) l.length 0=some e)(ha:ZeN nP L c per e a=true):upF (Zbd nP L c per (l++[a])) (l++[a]).length 0=some a.To:=by
 rw [ZD,ZI]
 simp only [upF]
 rw [Zhr (step':=Zbd nP L c per l) (λk hk=>by
  funext e
  unfold Zbd
  rw [Zr hk]),h,ZT]
 unfold Zbd
 rw [Zs (Nat.le_refl _),Nat.sub_self]
 simp only [Zu,ZT]
 rw [Z3 ha]
theorem Zoi {nP L c per e:Int}{l:List Zam}{a:Zam}(h:upF (Zbd nP L c per (l++[a])) (l++[a]).length 0=some e):∃ e0,upF (Zbd nP L c per l) l.length 0=some e0/\ZeN nP L c per e0 a=true/\e=a.To:=by
 rw [ZD,ZI] at h
 simp only [upF] at h
 rw [Zhr (step':=Zbd nP L c per l) (λk hk=>by
  funext e
  unfold Zbd
  rw [Zr hk])] at h
 obtain ⟨e0,h1,h2⟩:=bind_some h
 unfold Zbd at h2
 rw [Zs (Nat.le_refl _),Nat.sub_self] at h2
 simp only [Zu,ZT] at h2
 split at h2
 ·rename_i hok
  cases h2
  exact ⟨e0,h1,hok,rfl⟩
 cases h2
inductive HV (p:Z6) (s:List Z8):Nat->Zac->Prop
 | mk {c:Nat} {g:Zac} {ch:Z8} (hc:s[c]?=some ch) (hg:g.l.getD ch.Stream.toNat 0 = -1) (h1:∀ a∈ch.Arms,a.By = -1->c<a.Next.toNat) (h2:∀ a∈ch.Arms,a.By = -1->HV p s a.Next.toNat (g.set ch.Stream.toNat a.From))
   (h3:∀ a∈ch.Arms,a.By ≠ -1->0<=a.By->refB p ch.Stream.toNat g a=true):HV p s c g
theorem HV.ext {s s':List Z8}{c:Nat}{g:Zac}(h:HV p s c g):(∀ d y,c<=d->s[d]?=some y->s'[d]?=some y)->HV p s' c g:=by
 induction h with
 | mk hc hg h1 h2 h3 ih =>
  intro he
  exact .mk (he _ _ (Nat.le_refl _) hc) hg h1 (λa ha hb=>ih a ha hb λd y hd=>he d y (by have:=h1 a ha hb;omega)) h3
theorem HV.hB {s:List Z8}:∀ {n c:Nat} {g:Zac},HV p s c g->s.length<=c+n->hB p s n c g=true
 | 0,c,g,h,hn=>by
  cases h with
  | mk hc=>have:=(List.getElem?_eq_some_iff.1 hc).1;omega
 | n+1,c,g,h,hn=>by
  cases h with
  | mk hc hg h1 h2 h3 =>
   simp only [Go.Sh.hB]
   rw [hc]
   simp only [Ze,beq_iff_eq]
   refine ⟨hg,List.all_eq_true.2 λa ha=>?_⟩
   unfold armH
   by_cases hb:a.By = -1
   ·rw [Z3 hb]
    exact (h2 a ha hb).hB (by have:=h1 a ha hb;omega)
   rw [Z2 hb]
   by_cases h0:0<=a.By
   ·rw [Z3 h0];exact h3 a ha hb h0
   rw [Z2 h0]
def GA (given:List Int)(g:Zac):Prop:=∀ k,k<12->g.l.getD k 0=if k<given.length then given.getD k 0 else -1
theorem GA.snoc {given:List Int}{g:Zac}(h:GA given g)(hl:given.length<12)(x:Int):GA (given++[x]) (g.set given.length x):=λk hk=>by
 rw [Zgf g _ k _ hl]
 by_cases e:k=given.length
 ·subst e
  rw [Z3 rfl,Z3 (by simp)]
  simp [Zq]
 rw [Z2 e,h k hk]
 by_cases c:k<given.length
 ·rw [Z3 c,Z3 (by simp;omega)]
  simp [Zq,Zr c]
 rw [Z2 c,Z2 (by simp;omega)]
structure GS (p:Z6) (f:List Z8) (given:List Int) (r:List Z8):Prop where
 pre:f <+: r
 lt:f.length<r.length
 ch:∀ d,f.length<=d->d<r.length->Za3 p r d=true
 nm:∀ m,cntC r m=cntC f m+if f.length<m/\m<r.length then 1 else 0
 hv:∀ g,GA given g->HV p r f.length g
structure GL (p:Z6) (f:List Z8) (given:List Int) (x:Nat) (s:List Z8):Prop where
 pre:f <+: s
 lt:f.length<s.length
 st:(s.getD f.length c00).Stream=given.length
 ch:∀ d,f.length<d->d<s.length->Za3 p s d=true
 nm:∀ m,cntC s m=cntC f m+if f.length<m/\m<s.length then 1 else 0
 arms:upF (Zbd p.Periods.length s.length f.length (p.Periods.getD given.length 0) (s.getD f.length c00).Arms) (s.getD f.length c00).Arms.length 0=some (x:Int)
 hv:∀ g,GA given g->∀ a∈(s.getD f.length c00).Arms,(a.By = -1->f.length<a.Next.toNat/\HV p s a.Next.toNat (g.set given.length a.From))/\(a.By ≠ -1->0<=a.By->refB p given.length g a=true)
theorem Zo3 {s:List Z8}{c:Nat}(hc:c<s.length)(y:Z8)(m:Nat):cntC (s.set c y) m+cntA (s.getD c c00).Arms m=cntC s m+cntA y.Arms m:=by
 have e1:s=s.take c++([s.getD c c00]++s.drop (c+1)):=by
  rw [ZaX hc]
  simp
 have e2:s.set c y=s.take c++([y]++s.drop (c+1)):=by
  rw [List.set_eq_take_append_cons_drop,Z3 hc]
  rfl
 have h1:cntC s m=cntC (s.take c) m+(cntA (s.getD c c00).Arms m+cntC (s.drop (c+1)) m):=by
  conv=>lhs;rw [e1]
  rw [Zc1,Zc1,Zhg]
 rw [e2,Zc1,Zc1,Zhg]
 omega
theorem GL.put {f:List Z8}{given:List Int}{x:Nat}{s:List Z8}{r:List Z8}{l:List Zam}{x':Nat}(hsr:s <+: r)(h:GL p f given x s)
  (hch:∀ d,s.length<=d->d<r.length->Za3 p r d=true)
  (hnm:∀ m,cntC r m+cntA l m=cntC f m+cntA (s.getD f.length c00).Arms m+if f.length<m/\m<r.length then 1 else 0)
  (harms:upF (Zbd p.Periods.length r.length f.length (p.Periods.getD given.length 0) l) l.length 0=some (x':Int))
  (hhv:∀ g,GA given g->∀ a∈l,(a.By = -1->f.length<a.Next.toNat/\HV p r a.Next.toNat (g.set given.length a.From))/\(a.By ≠ -1->0<=a.By->refB p given.length g a=true)) :
  GL p f given x' (r.set f.length ⟨(r.getD f.length c00).Stream,l⟩):=by
 have hl:=hsr.length_le
 have hlr:f.length<r.length:=by have:=h.lt;omega
 have eg:r.getD f.length c00=s.getD f.length c00:=Zc7 c00 hsr h.lt
 exact
  {pre:=Zl9 _ (h.pre.trans hsr) (Nat.le_refl _)
   lt:=by rw [ZH];exact hlr
   st:=by rw [Zbq _ _ hlr,eg];exact h.st
   ch:=λd h1 h2=>by
    rw [ZH] at h2
    rw [ZlC _ (by omega)]
    by_cases c:d<s.length
    ·exact ZlD hsr (h.ch d h1 c)
    exact hch d (by omega) h2
   nm:=λm=>by
    have h1:=Zo3 hlr ⟨(r.getD f.length c00).Stream,l⟩ m
    have h2:=hnm m
    rw [eg] at h1
    simp only at h1
    rw [ZH]
    rw [eg]
    omega
   arms:=by rw [Zbq _ _ hlr,ZH];exact harms
   hv:=λg hg a ha=>by
    rw [Zbq _ _ hlr] at ha
    obtain ⟨h1,h2⟩:=hhv g hg a ha
    refine ⟨λhb=>⟨(h1 hb).1,(h1 hb).2.ext λd y hd hy=>?_⟩,h2⟩
    have:=(h1 hb).1
    rw [ZA (by omega)]
    exact hy }
theorem Zo7 (given:List Int)(c x:Nat):(bS p given c x = -2/\c=0/\0<x)∨bS p given c x = -1∨∃ j:Nat,bS p given c x=j/\j<=given.length/\ZbI p given.length x j ((given++[(x:Int)]).getD j 0)=true:=by
 unfold bS
 by_cases h:c=0/\0<x
 ·left;rw [Z3 h];exact ⟨rfl,h⟩
 right
 rw [Z2 h]
 unfold byS
 cases hf:ZeK (λj=>ZbI p given.length x j ((given++[(x:Int)]).getD j 0)) (given.length+1) with
 | none=>left;rfl
 | some j =>
  right
  obtain ⟨h1,h2,_⟩:=Zc0.1 hf
  exact ⟨j,rfl,by omega,h2⟩
theorem Znr {given:List Int}{x:Int}{j:Nat}{g:Zac}(hg:GA given g)(hl:given.length<12)(hj:j<=given.length):(given++[x]).getD j 0=othO g given.length j x/\(j≠given.length->g.l.getD j 0=given.getD j 0):=by
 unfold othO
 by_cases e:j=given.length
 ·subst e
  exact ⟨by rw [Z3 rfl];simp [Zq],λh=>absurd rfl h⟩
 have h1:=hg j (by omega)
 rw [Z3 (by omega)] at h1
 rw [Z2 e]
 exact ⟨by rw [h1];simp [Zq,Zr (show j<given.length by omega)],λ_=>h1⟩
theorem Zl2 {given:List Int}(hl:given.length<12)(ha:∀ y∈given,0<=y){g:Zac}(hg:GA given g){x:Nat}{j:Nat}(hj:j<=given.length)(hm:ZbI p given.length x j ((given++[(x:Int)]).getD j 0)=true):refB p given.length g ⟨x,(x:Int)+1,j,0⟩=true:=by
 unfold refB
 simp only [Zl]
 have e1:((x:Int)+1-(x:Int)).toNat=1:=by omega
 rw [e1,Ze]
 obtain ⟨s1,s2⟩:=Znr (x:=(x:Int)) hg hl hj
 refine ⟨?_,Zbl.2 λk hk=>?_⟩
 ·by_cases e:j=given.length
  ·rw [decide_eq_true e];rfl
  rw [s2 e,decide_eq_false e,Bool.false_or,Zh,beq_eq_false_iff_ne]
  have hjl:j<given.length:=by omega
  rw [ZaX hjl]
  have:=ha _ (List.getElem_mem hjl)
  omega
 obtain rfl:k=0:=by omega
 rw [show (x:Int)+((0:Nat):Int)=x by omega,← s1]
 exact hm
end
end Go.Sh

namespace Go.Sh
open Go Go.Eng
def okP (f:List Z8):Prop:=f.length<=3000/\Zdb f
def Big (N:Nat):Prop:=30000<=N/\(240+1) ^ 13<N
theorem big:∃ N,Big N:=⟨30000+(240+1) ^ 13,by unfold Big;omega⟩
section
variable {N:Nat} {p:Z6}
theorem Zrl (hN:Big N)(x:Z6){f:List Z8}(hf:okP f):ZcY N x f=some (Zk2 x f):=
 ZiB (A:=240) (by omega) hf.2 (by omega) (by have:=hf.1;have:=hN.1;omega) (by have:=hN.1;omega) hN.2
end
end Go.Sh
