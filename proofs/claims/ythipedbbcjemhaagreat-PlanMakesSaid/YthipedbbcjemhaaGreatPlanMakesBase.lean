/- Part of the proof. -/
import Derived.Test.YthipedbbcjemhaaGreatPlanMakesSh
import Derived.Test.YthipedbbcjemhaaGreatPlanMakesRd
import Derived.KernelRfl
set_option linter.all false
namespace Go.Sh
open Go Go.Eng
theorem ZaO {x:Int}(h : -9223372036854775808<=x)(h2:x<=9223372036854775807):w64 x=x:=by
 unfold w64 IntKind.wrap
 simp only [IntKind.bits,IntKind.signed]
 by_cases h0:0<=x
 ·have:x%(2 ^ 64:Int)=x:=Int.emod_eq_of_lt h0 (by omega)
  simp only [this]
  rw [Z8]
  simp;omega
 have:x%(2 ^ 64:Int)=x+2 ^ 64:=by
  rw [← Int.add_emod_right]
  exact Int.emod_eq_of_lt (by omega) (by omega)
 simp only [this]
 rw [Z9]
 ·omega
 simp;omega
theorem ZnZ {σ ρ:Type}(body:σ->Option (σ⊕ρ))(m:Nat)(x:σ):ZaY body (m+1) x=match body x with
  | none=>none
  | some (.inl y)=>ZaY body m y
  | some (.inr r)=>some r:=rfl
theorem ZcC {σ ρ:Type}{body:σ->Option (σ⊕ρ)}{m:Nat}{x y:σ}(h:body x=some (.inl y)):ZaY body (m+1) x=ZaY body m y:=by rw [ZnZ,h]
theorem Zbw {σ ρ:Type}{body:σ->Option (σ⊕ρ)}{m:Nat}{x:σ}{r:ρ}(h:body x=some (.inr r)):ZaY body (m+1) x=some r:=by rw [ZnZ,h]
theorem ZcS {σ ρ:Type}{body:σ->Option (σ⊕ρ)}(I:σ->Prop)(μ:σ->Nat)(Post:ρ->Prop)
  (step:∀ x,I x->(∃ y,body x=some (.inl y)/\I y/\μ y<μ x)∨(∃ r,body x=some (.inr r)/\Post r)):∀ (N:Nat) (x:σ),I x->μ x<N->∃ r,ZaY body N x=some r/\Post r
 | 0,x,_,h=>by omega
 | N+1,x,hI,h=>by
  rcases step x hI with ⟨y,h1,h2,h3⟩|⟨r,h1,h2⟩
  ·rw [ZcC h1]
   exact ZcS I μ Post step N y h2 (by omega)
  exact ⟨r,by rw [Zbw h1],h2⟩
theorem ZiT {α:Type}(l:List α)(k:Nat):idx l (k:Int)=l[k]?:=by
 unfold idx
 rw [Z9 (by omega)]
 rfl
theorem Zlw {α:Type}{l:List α}{i:Int}(h0:0<=i)(h:i.toNat<l.length):idx l i=some l[i.toNat]:=by
 unfold idx
 rw [Z9 h0]
 exact ZC h
theorem Zj4 {a b:Int}(h:b≠0):remI a b=some (a.tmod b):=by unfold remI;rw [Z8 h]
theorem Zi2 {k:IntKind}{a b:Int}(h:b≠0):quoI k a b=some (k.wrap (a.tdiv b)):=by unfold quoI;rw [Z8 h]
theorem Zna {α:Type}{l:List α}{k:Nat}(h:k<l.length):l.drop k=l[k]::l.drop (k+1):=List.drop_eq_getElem_cons h
theorem ZsQ {a b:Int}(hb:0<b):(a.tmod b+b).tmod b=a%b:=by
 have h1:0<=a.tmod b+b:=by have:=Int.lt_tmod_of_pos a hb;omega
 rw [Zm h1,Int.add_emod_right]
 rw [Int.tmod_eq_emod]
 split
 ·simp
 have:(b.natAbs:Int)=b:=by omega
 rw [this]
 simp
theorem ZpR {α ρ:Type}{l:List α}{p:α->Bool}{body:Int->Option (Int⊕ρ)}{bad fin:ρ}(hstep:∀ (k:Nat) (h:k<l.length),body (k:Int)=if p l[k]=true then some (.inl ((k+1:Nat):Int)) else some (.inr bad))
  (hend:body (l.length:Int)=some (.inr fin)):∀ (n N k:Nat),l.length-k=n->k<=l.length->n<N->ZaY body N (k:Int)=some (if (l.drop k).all p then fin else bad):=by
 intro n
 induction n with
 | zero =>
  intro N k hn hk hN
  have:k=l.length:=by omega
  subst this
  cases N with
  | zero=>omega
  | succ N=>rw [Zbw hend];simp
 | succ n ih =>
  intro N k hn hk hN
  cases N with
  | zero=>omega
  | succ N =>
   have hlt:k<l.length:=by omega
   rw [Zna hlt,List.all_cons]
   by_cases hp:p l[k]=true
   ·rw [ZcC (by rw [hstep k hlt,Z9 hp]),ih N (k+1) (by omega) (by omega) (by omega)]
    simp [hp]
   rw [Zbw (by rw [hstep k hlt,Z8 hp])]
   simp [hp]
theorem ZmY {ρ:Type}{q:Nat->Bool}{P:Nat}{body:Int->Option (Int⊕ρ)}{bad:ρ}{good:Nat->ρ}(hstep:∀ k:Nat,k<P->body (k:Int)=if q k=true then some (.inr (good k)) else some (.inl ((k+1:Nat):Int)))
  (hend:body (P:Int)=some (.inr bad)):∀ (n N k:Nat),P-k=n->k<=P->n<N->ZaY body N (k:Int)=some (match (List.range' k n).find? q with|some j=>good j|none=>bad):=by
 intro n
 induction n with
 | zero =>
  intro N k hn hk hN
  have:k=P:=by omega
  subst this
  cases N with
  | zero=>omega
  | succ N=>rw [Zbw hend];simp
 | succ n ih =>
  intro N k hn hk hN
  cases N with
  | zero=>omega
  | succ N =>
   have hlt:k<P:=by omega
   rw [ZR,Zu]
   by_cases hp:q k=true
   ·rw [Zbw (by rw [hstep k hlt,Z9 hp])]
    simp [hp]
   rw [ZcC (by rw [hstep k hlt,Z8 hp]),ih N (k+1) (by omega) (by omega) (by omega)]
   simp [hp]
end Go.Sh

namespace Go.Sh
open Go Go.Eng
def VSpan (s:ZaL):Prop:=1<=s.Period/\s.Period<=960/\0<=s.From/\s.From<s.Period/\1<=s.Long/\s.Long<=s.Period
instance (s:ZaL):Decidable (VSpan s):=by unfold VSpan;infer_instance
theorem ZlM (N:Nat)(s:ZaL):ZdO N s=some (if VSpan s then 0 else 330):=by
 unfold ZdO
 by_cases h:VSpan s
 ·rw [Z9 h]
  unfold VSpan at h
  rw [Z8 (by simp;omega),Z8 (by simp;omega)]
 rw [Z8 h]
 unfold VSpan at h
 by_cases h1:((decide (s.Period<1))||((decide (s.Period>960))||((decide (s.From<0))||(decide (s.From≥s.Period)))))=true
 ·rw [Z9 h1]
 rw [Z8 h1,Z9]
 simp at h1 ⊢
 omega
theorem Zlh (N:Nat){a b:Int}(hb:0<b)(hb2:b<=1000000):Zhx N a b=some (a%b):=by
 unfold Zhx
 have h1:=Int.lt_tmod_of_pos a hb
 have h2:=Int.tmod_lt_of_pos a hb
 have h3:=ZsQ (a:=a) hb
 rw [Zj4 (by omega),ZZ]
 by_cases h:a.tmod b<0
 ·rw [Z9 (by simpa using h),ZZ,ZaO (by omega) (by omega)]
  rw [Int.tmod_eq_of_lt (by omega) (by omega)] at h3
  rw [h3]
 rw [Z8 (by simpa using h),ZZ]
 rw [← h3,show a.tmod b+b=a.tmod b+b*1 by omega]
 have e:(a.tmod b+b).tmod b=(a.tmod b+b)%b:=Zm (by omega)
 rw [Int.mul_one,e,Int.add_emod_right]
 rw [Int.emod_eq_of_lt (by omega) (by omega)]
theorem ZlI (M:Nat):∀ (b N a:Nat),b<N->ZaY (λx:Int×Int=>Zdo M x.1 x.2) N ((a:Int),(b:Int))=some (Nat.gcd a b:Int):=by
 intro b
 induction b using Nat.strongRecOn with
 | _ b ih =>
  intro N a hN
  cases N with
  | zero=>omega
  | succ N =>
   by_cases hb:b=0
   ·subst hb
    rw [Zbw (r:=(a:Int))]
    ·simp
    simp [Zdo]
   have hlt:=Nat.mod_lt a (Nat.pos_of_ne_zero hb)
   rw [ZcC (y:=((b:Int),((a%b:Nat):Int)))]
   ·rw [ih (a%b) hlt N b (by omega)]
    rw [Nat.gcd_comm a b,Nat.gcd_rec b a,Nat.gcd_comm (a%b) b]
   simp only [Zdo]
   rw [Z9 (by simp;omega),Zj4 (by omega),ZZ,Zm (by omega)]
   rfl
theorem ZnB {N:Nat}{a b:Int}(ha:0<=a)(hb:0<=b)(hN:b.toNat<N):Zfu N a b=some (Nat.gcd a.toNat b.toNat:Int):=by
 unfold Zfu
 have:=ZlI N b.toNat N a.toNat hN
 rw [Zo ha,Zo hb] at this
 rw [this]
 rfl
theorem Zoq {a d:Int}(hd:0<d)(ha:0<=a):a.tmod d=0↔d.toNat∣a.toNat:=by
 rw [Zm ha]
 constructor
 ·intro h
  have h1:d∣a:=Int.dvd_of_emod_eq_zero h
  rw [← Zo ha,← Zo (show 0<=d by omega)] at h1
  exact Int.natCast_dvd_natCast.1 h1
 intro h
 have:((d.toNat:Nat):Int)∣((a.toNat:Nat):Int):=Int.natCast_dvd_natCast.2 h
 rw [Zo ha,Zo (by omega)] at this
 exact Int.emod_eq_zero_of_dvd this
def gP (a b:ZaL):Int:=(Nat.gcd a.Period.toNat b.Period.toNat:Int)
def SepD (a b:ZaL)(d:Int):Prop:=a.Long<=d%gP a b/\d%gP a b<=gP a b-b.Long
instance (a b:ZaL) (d:Int):Decidable (SepD a b d):=by unfold SepD;infer_instance
end Go.Sh

namespace Go.Sh
open Go Go.Eng
theorem VSpan.bounds {s:ZaL}(h:VSpan s):1<=s.Period/\s.Period<=960/\0<=s.From/\s.From<s.Period/\1<=s.Long/\s.Long<=s.Period:=h
end Go.Sh
namespace Go.Sh
open Go Go.Eng
theorem Zoe {α:Type}{b:Nat}{l m:List α}(h:l.length+m.length<=100000)(hb:b<=100000):appI b l m=some (l++m):=by
 unfold appI
 rw [Z9]
 have:(l.length+m.length)*b<=100000*100000:=Nat.mul_le_mul h hb
 omega
def allV (l:List ZaL):Bool:=l.all λs=>decide (VSpan s)
theorem ZjL {N:Nat}(hN:100<=N)(l:List ZaL):ZdW N l=some (if 32<l.length then 3 else if allV l then 0 else 330):=by
 unfold ZdW
 by_cases h:32<l.length
 ·rw [Z9 (by simp;omega),Z9 h]
 rw [Z8 (by simp;omega),Z8 h]
 have:=ZpR (l:=l) (p:=λs=>decide (VSpan s)) (body:=λx:Int=>ZbZ N l x) (bad:=.inr 330) (fin:=.inl ()) (λk hk=>by
  simp only [ZbZ]
  rw [Z9 (by simpa using hk),ZiT,ZC hk,ZZ,ZlM,ZZ]
  by_cases hv:VSpan l[k]
  ·simp only [hv,Zaa,Z5,Zg,Z7,decide_true]
   rw [ZaO (by omega) (by omega)];simp
  simp [hv]) (by simp [ZbZ]) l.length N 0 (by omega) (by omega) (by omega)
 rw [show ((0:Nat):Int)=0 from rfl] at this
 rw [this,ZZ,List.drop_zero]
 have e:(l.all λs=>decide (VSpan s))=allV l:=rfl
 rw [e]
 cases allV l<;>rfl
end Go.Sh
namespace Go.Sh
open Go Go.Eng
def lcmP:List ZaL->Nat
 | []=>1
 | s::l=>Nat.lcm s.Period.toNat (lcmP l)
theorem ZqS:∀ {l:List ZaL},(∀ s∈l,VSpan s)->0<lcmP l
 | [],_=>by decide
 | s::l,h=>by
  have h1:=(h s (by simp)).bounds
  exact Nat.lcm_pos (by omega) (ZqS λt ht=>h t (by simp [ht]))
theorem Zlv:∀ {l:List ZaL} {n:Nat},lcmP l∣n↔∀ s∈l,s.Period.toNat∣n
 | [],n=>by simp [lcmP]
 | s::l,n=>by
  simp only [lcmP,List.mem_cons,forall_eq_or_imp]
  rw [Nat.lcm_dvd_iff,Zlv]
theorem ZkM {N:Nat}(hN:2000<=N){ps:List Int}(hps:∀ p∈ps,1<=p/\p<=960):∀ (n M k:Nat) (m:Nat),ps.length-k=n->k<=ps.length->n<M->1<=m->m<=960->ps.length<=1000 →
  ∃ r,ZaY (λx:Int×Int=>Zcd N 960 ps x.1 x.2) M ((m:Int),(k:Int))=some r ∧
   (r<=960->r=((ps.drop k).foldl (λa p=>Nat.lcm a p.toNat) m:Nat))/\(960<r->960<(ps.drop k).foldl (λa p=>Nat.lcm a p.toNat) m):=by
 have mono:∀ (l:List Int) (a:Nat),(∀ p∈l,1<=p)->0<a->a<=l.foldl (λa p=>Nat.lcm a p.toNat) a:=by
  intro l
  induction l with
  | nil=>intro a _ _;exact Nat.le_refl _
  | cons p l ih =>
   intro a hp ha
   simp only [Zv]
   have h1:=hp p (by simp)
   have hpos:0<Nat.lcm a p.toNat:=Nat.lcm_pos ha (by omega)
   exact Nat.le_trans (Nat.le_of_dvd hpos (Nat.dvd_lcm_left _ _)) (ih _ (λq hq=>hp q (by simp [hq])) hpos)
 intro n
 induction n with
 | zero =>
  intro M k m hn hk hM hm hm2 hl
  have:k=ps.length:=by omega
  subst this
  cases M with
  | zero=>omega
  | succ M =>
   refine ⟨(m:Int),Zbw (by simp only [Zcd];rw [Z8 (by simp)]),λ_=>?_,λh=>?_⟩
   ·simp
   omega
 | succ n ih =>
  intro M k m hn hk hM hm hm2 hl
  cases M with
  | zero=>omega
  | succ M =>
   have hlt:k<ps.length:=by omega
   obtain ⟨p1,p2⟩:=hps ps[k] (List.getElem_mem hlt)
   have hg:0<Nat.gcd m ps[k].toNat:=Nat.gcd_pos_of_pos_left _ (by omega)
   have hq:(m:Int).tdiv (Nat.gcd m ps[k].toNat:Int)=((m/Nat.gcd m ps[k].toNat:Nat):Int):=by
    rw [Zl (by omega)];rfl
   have hqle:m/Nat.gcd m ps[k].toNat<=m:=Nat.div_le_self _ _
   have hmul:((m/Nat.gcd m ps[k].toNat:Nat):Int)*ps[k]=(Nat.lcm m ps[k].toNat:Int):=by
    have e1:ps[k]=(ps[k].toNat:Int):=by omega
    have e2:Nat.lcm m ps[k].toNat=m/Nat.gcd m ps[k].toNat*ps[k].toNat:=by
     rw [Nat.lcm,Nat.mul_comm m,Nat.mul_div_assoc _ (Nat.gcd_dvd_left _ _),Nat.mul_comm]
    rw [e2,Int.natCast_mul,← e1]
   have hlcm:Nat.lcm m ps[k].toNat<=960*960:=by
    have h1:m/Nat.gcd m ps[k].toNat*ps[k].toNat<=960*960:=Nat.mul_le_mul (by omega) (by omega)
    have e2:Nat.lcm m ps[k].toNat=m/Nat.gcd m ps[k].toNat*ps[k].toNat:=by
     rw [Nat.lcm,Nat.mul_comm m,Nat.mul_div_assoc _ (Nat.gcd_dvd_left _ _),Nat.mul_comm]
    omega
   have hlpos:0<Nat.lcm m ps[k].toNat:=Nat.lcm_pos (by omega) (by omega)
   have hbody:Zcd N 960 ps (m:Int) (k:Int)=if 960<Nat.lcm m ps[k].toNat then some (.inr (Nat.lcm m ps[k].toNat:Int)) else some (.inl ((Nat.lcm m ps[k].toNat:Int),((k+1:Nat):Int))):=by
    simp only [Zcd]
    rw [Z9 (by simpa using hlt),ZiT,ZC hlt,ZZ,ZnB (by omega) (by omega) (by omega),ZZ,Zn,Zi2 (by omega),ZZ,hq]
    have hq0:(0:Int)<=((m/Nat.gcd m ps[k].toNat:Nat):Int):=Int.natCast_nonneg _
    have hq1:((m/Nat.gcd m ps[k].toNat:Nat):Int)<=960:=Int.ofNat_le.2 (Nat.le_trans hqle hm2)
    have e3:IntKind.i64.wrap ((m/Nat.gcd m ps[k].toNat:Nat):Int)=((m/Nat.gcd m ps[k].toNat:Nat):Int):=ZaO (Int.le_trans (by decide) hq0) (Int.le_trans hq1 (by decide))
    rw [e3,hmul,ZaO (by omega) (by omega),ZaO (by omega) (by omega)]
    by_cases hc:960<Nat.lcm m ps[k].toNat
    ·rw [Z9 (by simp;omega),Z9 hc]
    rw [Z8 (by simp;omega),Z8 hc];simp
   rw [Zna hlt,Zv]
   by_cases hc:960<Nat.lcm m ps[k].toNat
   ·refine ⟨(Nat.lcm m ps[k].toNat:Int),Zbw (by rw [hbody,Z9 hc]),λh=>?_,λ_=>?_⟩
    ·omega
    exact Nat.lt_of_lt_of_le hc (mono _ _ (λq hq=>(hps q (List.mem_of_mem_drop hq)).1) hlpos)
   rw [ZcC (by rw [hbody,Z8 hc])]
   exact ih M (k+1) _ (by omega) (by omega) (by omega) (by omega) (by omega) hl
theorem Zn4:∀ (l:List ZaL) (m:Nat),(l.map ZaL.Period).foldl (λa p=>Nat.lcm a p.toNat) m=Nat.lcm m (lcmP l)
 | [],m=>by simp [lcmP,Nat.lcm_one_right]
 | s::l,m=>by simp only [ZM,Zv,lcmP];rw [Zn4 l,Nat.lcm_assoc]
def Zq2 (l:List ZaL):Int×Int:=if 32<l.length then (0,3) else if allV l=true then (if lcmP l<=960 then ((lcmP l:Int),0) else (0,6)) else (0,330)
theorem Zq9 {l:List ZaL}(h:allV l=true):∀ s∈l,VSpan s:=by
 unfold allV at h
 rw [Zp] at h
 exact λs hs=>by simpa using h s hs
theorem ZlL {N:Nat}(hN:2000<=N)(l:List ZaL):Zfb N l=some (Zq2 l):=by
 unfold Zfb Zq2
 rw [ZjL (by omega)]
 simp only [ZZ]
 by_cases h:32<l.length
 ·simp [h]
 by_cases hv:allV l=true
 ·simp only [h,hv,Zaa,Z7,Z5,Zg]
  have hmk:ZiP 8 (l.length:Int) (l.length:Int) (0:Int)=some (List.replicate l.length 0):=by
   unfold ZiP;rw [Z9 (by omega)];simp
  rw [hmk,ZZ]
  have hloop:∀ (n M k:Nat),l.length-k=n->k<=l.length->n<M->ZaY (λx:Int×List Int=>ZcI N l x.1 x.2) M ((k:Int),(l.map ZaL.Period).take k++List.replicate (l.length-k) 0)=some (l.map ZaL.Period):=by
   intro n
   induction n with
   | zero =>
    intro M k hn hk hM
    have:k=l.length:=by omega
    subst this
    cases M with
    | zero=>omega
    | succ M =>
     refine Zbw ?_
     simp only [ZcI]
     rw [Z8 (by simp)]
     simp [ZV]
   | succ n ih =>
    intro M k hn hk hM
    cases M with
    | zero=>omega
    | succ M =>
     have hlt:k<l.length:=by omega
     have hc:=ih M (k+1) (by omega) (by omega) (by omega)
     rw [ZcC (y:=(((k+1:Nat):Int),(l.map ZaL.Period).take (k+1)++List.replicate (l.length-(k+1)) 0)),hc]
     simp only [ZcI]
     have hlen:((l.map ZaL.Period).take k++List.replicate (l.length-k) 0).length=l.length:=by simp;omega
     rw [Z9 (by simpa using hlt),ZiT,ZC hlt,ZZ,ZiT,ZC (by omega),ZZ,ZaO (by omega) (by omega)]
     have hset:List.set ((l.map ZaL.Period).take k++List.replicate (l.length-k) 0) k l[k].Period=(l.map ZaL.Period).take (k+1)++List.replicate (l.length-(k+1)) 0:=by
      rw [ZT _ _ (by simp;omega)]
      have e1:k-((l.map ZaL.Period).take k).length=0:=by simp;omega
      rw [e1,show l.length-k=(l.length-(k+1))+1 by omega,List.replicate_succ,List.set_cons_zero,ZW (by simpa using hlt)]
      simp
     simp only [Zn,hset]
     rfl
  have hc:=hloop l.length N 0 (by omega) (by omega) (by omega)
  simp only [List.take_zero,ZQ,Nat.sub_zero] at hc
  rw [show ((0:Nat):Int)=0 from rfl] at hc
  rw [hc,ZZ]
  have hVl:=Zq9 hv
  obtain ⟨r,h1,h2,h3⟩:=ZkM hN (ps:=l.map ZaL.Period) (λp hp=>by
   obtain ⟨s,hs,rfl⟩:=List.mem_map.1 hp
   have:=(hVl s hs).bounds;omega) l.length N 0 1 (by simp) (by omega) (by omega) (by omega) (by omega) (by simp;omega)
  rw [List.drop_zero,Zn4,Nat.lcm_one_left] at h2 h3
  have hf:ZfX N 960 (l.map ZaL.Period)=some r:=by
   unfold ZfX
   have h1':ZaY (λx:Int×Int=>Zcd N 960 (l.map ZaL.Period) x.1 x.2) N (1,0)=some r:=h1
   rw [h1',ZZ]
  rw [hf,ZZ]
  by_cases hc2:960<r
  ·rw [Z9 (by simpa using hc2),Z8 (by have:=h3 hc2;omega)]
  have:=h2 (by omega)
  rw [Z8 (by simpa using hc2),Z9 (by omega),this]
 simp [h,hv]
end Go.Sh
namespace Go.Sh
open Go Go.Eng
def allB (n:Nat)(p:Nat->Bool):Bool:=(List.range n).all p
theorem Zb9 {n:Nat}{p:Nat->Bool}:allB n p=true↔∀ k,k<n->p k=true:=by simp [allB]
theorem Zof {n:Nat}{p q:Nat->Bool}(h:∀ k,k<n->p k=q k):allB n p=allB n q:=by
 rw [Zf,Zb9,Zb9]
 exact ⟨λhp k hk=>by rw [← h k hk];exact hp k hk,λhp k hk=>by rw [h k hk];exact hp k hk⟩
theorem Ztn (n:Nat)(p q:Nat->Bool):allB n (λk=>p k&&q k)=(allB n p&&allB n q):=by
 rw [Zf,Ze,Zb9,Zb9,Zb9]
 simp only [Ze]
 exact ⟨λh=>⟨λk hk=>(h k hk).1,λk hk=>(h k hk).2⟩,λh k hk=>⟨h.1 k hk,h.2 k hk⟩⟩
theorem ZbD {ρ:Type}{n:Nat}{p:Nat->Bool}{body:Int->Option (Int⊕ρ)}{bad fin:ρ}(hstep:∀ k:Nat,k<n->body (k:Int)=if p k=true then some (.inl ((k+1:Nat):Int)) else some (.inr bad))
  (hend:body (n:Int)=some (.inr fin)) {N:Nat} (hN:n<N):ZaY body N 0=some (if allB n p then fin else bad):=by
 have key:∀ (m N k:Nat),n-k=m->k<=n->m<N->ZaY body N (k:Int)=some (if (List.range' k m).all p then fin else bad):=by
  intro m
  induction m with
  | zero =>
   intro N k h1 h2 h3
   obtain rfl:k=n:=by omega
   cases N with
   | zero=>omega
   | succ N=>rw [Zbw hend];rfl
  | succ m ih =>
   intro N k h1 h2 h3
   cases N with
   | zero=>omega
   | succ N =>
    rw [ZR,List.all_cons]
    by_cases hp:p k=true
    ·rw [ZcC (by rw [hstep k (by omega),Z9 hp]),ih N (k+1) (by omega) (by omega) (by omega),hp,Zk]
    rw [Zbw (by rw [hstep k (by omega),Z8 hp])]
    simp [hp]
 have:=key n N 0 (by omega) (by omega) hN
 rw [← ZS] at this
 exact this
theorem ZmX {β ρ:Type}{n:Nat}{p:Nat->Bool}{f:β->Nat->β}{body:Int×β->Option ((Int×β)⊕ρ)}{bad:ρ}{fin:β->ρ}(I:Nat->β->Prop)
  (hstep:∀ k b,k<n->I k b->body ((k:Int),b)=if p k=true then some (.inl (((k+1:Nat):Int),f b k)) else some (.inr bad)) (hI:∀ k b,k<n->I k b->p k=true->I (k+1) (f b k))
  (hend:∀ b,I n b->body ((n:Int),b)=some (.inr (fin b))) {N:Nat} (hN:n<N) {b0:β} (h0:I 0 b0):ZaY body N (0,b0)=some (if allB n p then fin ((List.range n).foldl f b0) else bad)/\(allB n p=true->I n ((List.range n).foldl f b0)):=by
 have key:∀ (m N k:Nat) (b:β),n-k=m->k<=n->m<N->I k b->ZaY body N ((k:Int),b)=some (if (List.range' k m).all p then fin ((List.range' k m).foldl f b) else bad)/\((List.range' k m).all p=true->I n ((List.range' k m).foldl f b)):=by
  intro m
  induction m with
  | zero =>
   intro N k b h1 h2 h3 hb
   obtain rfl:k=n:=by omega
   cases N with
   | zero=>omega
   | succ N=>exact ⟨by rw [Zbw (hend b hb)];rfl,λ_=>hb⟩
  | succ m ih =>
   intro N k b h1 h2 h3 hb
   cases N with
   | zero=>omega
   | succ N =>
    rw [ZR,List.all_cons,Zv]
    by_cases hp:p k=true
    ·obtain ⟨i1,i2⟩:=ih N (k+1) (f b k) (by omega) (by omega) (by omega) (hI k b (by omega) hb hp)
     rw [hp,Zk]
     exact ⟨by rw [ZcC (by rw [hstep k b (by omega) hb,Z9 hp]),i1],i2⟩
    refine ⟨?_,λh=>?_⟩
    ·rw [Zbw (by rw [hstep k b (by omega) hb,Z8 hp])];simp [hp]
    simp [hp] at h
 obtain ⟨h1,h2⟩:=key n N 0 b0 (by omega) (by omega) hN h0
 rw [← ZS] at h1 h2
 exact ⟨h1,h2⟩
theorem Zd7 {β ρ:Type}{n:Nat}{f:β->Nat->β}{body:Int×β->Option ((Int×β)⊕ρ)}{fin:β->ρ}(I:Nat->β->Prop)
  (hstep:∀ k b,k<n->I k b->body ((k:Int),b)=some (.inl (((k+1:Nat):Int),f b k))) (hI:∀ k b,k<n->I k b->I (k+1) (f b k))
  (hend:∀ b,I n b->body ((n:Int),b)=some (.inr (fin b))) {N:Nat} (hN:n<N) {b0:β} (h0:I 0 b0):ZaY body N (0,b0)=some (fin ((List.range n).foldl f b0))/\I n ((List.range n).foldl f b0):=by
 have key:∀ (m N k:Nat) (b:β),n-k=m->k<=n->m<N->I k b->ZaY body N ((k:Int),b)=some (fin ((List.range' k m).foldl f b))/\I n ((List.range' k m).foldl f b):=by
  intro m
  induction m with
  | zero =>
   intro N k b h1 h2 h3 hb
   obtain rfl:k=n:=by omega
   cases N with
   | zero=>omega
   | succ N=>exact ⟨by rw [Zbw (hend b hb)];rfl,hb⟩
  | succ m ih =>
   intro N k b h1 h2 h3 hb
   cases N with
   | zero=>omega
   | succ N =>
    obtain ⟨i1,i2⟩:=ih N (k+1) (f b k) (by omega) (by omega) (by omega) (hI k b (by omega) hb)
    exact ⟨by rw [ZcC (hstep k b (by omega) hb),i1];rfl,i2⟩
 obtain ⟨h1,h2⟩:=key n N 0 b0 (by omega) (by omega) hN h0
 rw [← ZS] at h1 h2
 exact ⟨h1,h2⟩
theorem Zm4 {α β:Type}(d:α)(l:List α)(f:β->α->β)(b:β):(List.range l.length).foldl (λb k=>f b (l.getD k d)) b=l.foldl f b:=by
 have h:(List.range l.length).map (λk=>l.getD k d)=l:=Zsh l.length d l rfl rfl
 conv=>rhs;rw [← h]
 rw [List.foldl_map]
theorem ZtD {n:Nat}(h:n<1000000):w64 (n:Int)=n:=ZaO (by omega) (by omega)
theorem ZaW {n:Nat}(h:n<1000000):w64 ((n:Int)+1)=((n+1:Nat):Int):=by rw [ZaO (by omega) (by omega)];omega
theorem ZcT {α:Type}{l:List α}{k:Nat}(h:k<l.length):idx l (k:Int)=some l[k]:=by rw [ZiT,ZC h]
theorem ZcB {α:Type}{l:List α}{i:Int}(d:α)(h0:0<=i)(h:i<l.length):idx l i=some (l.getD i.toNat d):=by
 rw [Zlw h0 (by omega)]
 simp [Zw,ZC (show i.toNat<l.length by omega)]
theorem Znb {α:Type}[BEq α][LawfulBEq α](l:List α)(x:α):(match (List.range' 0 l.length).find? (λk=>x==l.getD k x) with|some j=>(j:Int)|none => -1)≥0↔l.contains x=true:=by
 rw [← ZS]
 cases h:(List.range l.length).find? (λk=>x==l.getD k x) with
 | none =>
  simp only [List.find?_eq_none,ZO] at h
  constructor
  ·intro h;exact absurd h (by decide)
  intro hc
  rw [Zt] at hc
  obtain ⟨k,hk,rfl⟩:=List.getElem_of_mem hc
  exact absurd (by simp [Zw,hk]) (h k hk)
 | some j =>
  have h1:=List.find?_some h
  have h2:=List.mem_of_find?_eq_some h
  simp only [ZO] at h2
  constructor
  ·intro _
   rw [Zt]
   have:l.getD j x=l[j]:=by simp [Zw,h2]
   rw [this] at h1
   rw [eq_of_beq h1]
   exact List.getElem_mem h2
  intro _;exact Int.natCast_nonneg j
theorem Zf7 {N:Nat}{l:List Bool}(h:l.length<N)(h':l.length<1000)(x:Bool):ZbT N l x=some (l.contains x):=by
 unfold ZbT ZcP
 have:=ZmY (q:=λk=>x==l.getD k x) (P:=l.length) (body:=λi=>Zbh N l x i) (bad:=.inl ()) (good:=λk=>.inr (k:Int)) (λk hk=>by
  unfold Zbh
  rw [Z9 (by simp;omega),ZcT hk,ZZ]
  have:l.getD k x=l[k]:=by simp [Zw,hk]
  simp only [this]
  split
  ·rfl
  rw [ZaW (by omega)]) (by unfold Zbh;rw [Z8 (by simp)]) l.length N 0 (by omega) (by omega) h
 rw [show ((0:Nat):Int)=0 from rfl] at this
 rw [this]
 have hc:=Znb l x
 cases hf:(List.range' 0 l.length).find? (λk=>x==l.getD k x) with
 | none =>
  rw [hf] at hc
  have hcf:l.contains x=false:=by
   cases hl:l.contains x with
   | false=>rfl
   | true=>exact absurd (hc.2 hl) (by decide)
  rw [hcf];rfl
 | some j =>
  rw [hf] at hc
  have:=hc.1 (Int.natCast_nonneg j)
  simp only [ZZ,this]
  simp
theorem ZgA {N:Nat}{l:List Int}(h:l.length<N)(h':l.length<1000)(x:Int):Zb3 N l x=some (l.contains x):=by
 unfold Zb3 Zdg
 have:=ZmY (q:=λk=>x==l.getD k x) (P:=l.length) (body:=λi=>Zbr N l x i) (bad:=.inl ()) (good:=λk=>.inr (k:Int)) (λk hk=>by
  unfold Zbr
  rw [Z9 (by simp;omega),ZcT hk,ZZ]
  have:l.getD k x=l[k]:=by simp [Zw,hk]
  simp only [this]
  split
  ·rfl
  rw [ZaW (by omega)]) (by unfold Zbr;rw [Z8 (by simp)]) l.length N 0 (by omega) (by omega) h
 rw [show ((0:Nat):Int)=0 from rfl] at this
 rw [this]
 have hc:=Znb l x
 cases hf:(List.range' 0 l.length).find? (λk=>x==l.getD k x) with
 | none =>
  rw [hf] at hc
  have hcf:l.contains x=false:=by
   cases hl:l.contains x with
   | false=>rfl
   | true=>exact absurd (hc.2 hl) (by decide)
  rw [hcf];rfl
 | some j =>
  rw [hf] at hc
  have:=hc.1 (Int.natCast_nonneg j)
  simp only [ZZ,this]
  simp
theorem ZhV {N:Nat}{l:List Int}(h:l.length<N)(h':l.length<1000)(x:Int):ZgW N l x=some (l.contains x):=by
 unfold ZgW
 have:=ZbD (n:=l.length) (p:=λk => !(l.getD k 0==x)) (body:=λi=>ZeW N l x i) (bad:=.inr true) (fin:=.inl ()) (λk hk=>by
  unfold ZeW
  rw [Z9 (by simp;omega),ZcT hk,ZZ]
  have:l.getD k 0=l[k]:=by simp [Zw,hk]
  simp only [this,ZaW (show k<1000000 by omega)]
  cases l[k]==x<;>rfl) (by unfold ZeW;rw [Z8 (by simp)]) h
 rw [this]
 by_cases hc:l.contains x=true
 ·rw [Z8,hc];rfl
  rw [Zb9]
  rw [Zt] at hc
  obtain ⟨k,hk,rfl⟩:=List.getElem_of_mem hc
  intro h
  have:=h k hk
  simp [Zw,hk] at this
 rw [Z9]
 ·simp only [Bool.not_eq_true] at hc;rw [hc];rfl
 rw [Zb9]
 intro k hk
 have hne:l[k]≠x:=λe=>hc (by rw [Zt,← e];exact List.getElem_mem hk)
 simp [Zw,hk,hne]
end Go.Sh

namespace Go.Sh
open Go Go.Eng
def stB (t:Zag)(x:Int):Bool:=t.Station.getD x.toNat false
def Ze4 (t:Zag)(x:Int):Bool:=decide (0<=x)&&decide (x<t.Nodes)
def dL:ZaF:=⟨0,0,0,0⟩
def lk (t:Zag)(k:Nat):ZaF:=t.Links.getD k dL
def Zfj (t:Zag)(l:ZaF):Bool :=
 Ze4 t l.A&&(Ze4 t l.B&&(!(l.A==l.B)&&(!(stB t l.A&&stB t l.B)&&(decide (l.Per≥1)&&(decide (l.Per<=1000)&&(decide (l.Delay≥0)&&decide (l.Delay<=10000)))))))
def ZgK (l:ZaF)(a b:Int):Bool:=(l.A==a&&l.B==b)||(l.A==b&&l.B==a)
def nojB (t:Zag)(k:Nat):Bool:=allB k λj => !ZgK (lk t j) (lk t k).A (lk t k).B
def bump (b:List Int)(x:Int):List Int:=b.set x.toNat (w64 (b.getD x.toNat 0+1))
def Zng (b:List Int)(l:ZaF):List Int:=bump (bump b l.A) l.B
def degs (t:Zag):List Int:=(List.range t.Links.length).foldl (λb k=>Zng b (lk t k)) (List.replicate t.Nodes.toNat 0)
def degB (t:Zag)(n:Nat):Bool := !(stB t n)||(decide (1<=(degs t).getD n 0)&&decide ((degs t).getD n 0<=2))
def Zhu (l:List Bool)(k:ZaF):List Bool:=if l.getD k.A.toNat false||l.getD k.B.toNat false then (l.set k.A.toNat true).set k.B.toNat true else l
def Ziv (t:Zag)(l:List Bool):List Bool:=(List.range t.Links.length).foldl (λb k=>Zhu b (lk t k)) l
def ZgG (t:Zag)(m:Int):List Bool:=(List.range t.Nodes.toNat).foldl (λl _=>Ziv t l) ((List.replicate t.Nodes.toNat false).set m.toNat true)
def Ze8 (t:Zag):Bool :=
 decide (2<=t.Nodes)&&(decide (t.Nodes<=12)&&(((t.Station.length:Int)==t.Nodes)&&(decide (t.Links.length<=24) &&
  (allB t.Links.length (λk=>Zfj t (lk t k)&&nojB t k)&&(allB t.Nodes.toNat (λn=>(ZgG t 0).getD n false&&degB t n))))))
section
variable {N:Nat} {t:Zag}
theorem ZpN {k:Nat}(h:k<t.Links.length):idx t.Links (k:Int)=some (lk t k):=by
 rw [ZcT h];simp [lk,Zw,h]
theorem Zf9 (hS:(t.Station.length:Int)=t.Nodes){x:Int}(h:Ze4 t x=true):idx t.Station x=some (stB t x):=by
 simp only [Ze4,Ze,Z6] at h
 exact ZcB false h.1 (by omega)
theorem Zj9 (x:Int):Zgr N t x=some (Ze4 t x):=by simp [Zgr,Ze4]
theorem Zpb (x:Int):Zhq N t x=some (Ze4 t x):=by simp [Zhq,Ze4]
theorem Zkb (hS:(t.Station.length:Int)=t.Nodes)(l:ZaF):Zgs N t l=some (Zfj t l):=by
 unfold Zgs Zfj
 rw [Zj9,Zj9]
 simp only [ZZ]
 cases hA:Ze4 t l.A with
 | false=>rfl
 | true =>
  cases hB:Ze4 t l.B with
  | false=>rfl
  | true =>
   rw [Zf9 hS hA,Zf9 hS hB]
   cases (l.A==l.B)<;>cases stB t l.A<;>cases stB t l.B<;>rfl
theorem Zjz (l:ZaF)(a b:Int):ZfC N l a b=some (ZgK l a b):=by
 unfold ZfC ZgK
 cases l.A==a<;>cases l.B==b<;>cases l.A==b<;>cases l.B==a<;>rfl
theorem Zo1 (a b:Int):(a==b)=(b==a):=by
 by_cases h:a=b
 ·subst h;rfl
 rw [beq_false_of_ne h,beq_false_of_ne (Ne.symm h)]
theorem Zr9 (hL:t.Links.length<100)(hN:t.Links.length<N){k:Nat}(hk:k<t.Links.length) :
  ZaY (λx:Int=>Zdv N t (k:Int) (lk t k) x) N 0=some (if nojB t k then .inl () else .inr false):=by
 refine ZbD (n:=k) (λj hj=>?_) ?_ (by omega)
 ·unfold Zdv
  rw [Z9 (by simp;omega),ZpN (by omega),ZZ,Zjz,ZZ,ZaW (by omega)]
  cases ZgK (lk t j) (lk t k).A (lk t k).B<;>rfl
 unfold Zdv
 rw [Z8 (by simp)]
theorem ZsP (hL:t.Links.length<100)(hN:t.Links.length<N){k:Nat}(hk:k<t.Links.length):ZfT N (k:Int) t=some (nojB t k):=by
 unfold ZfT
 rw [ZpN hk,ZZ]
 have hsub:subI t.Links 0 (k:Int)=some (t.Links.take k):=by
  unfold subI
  rw [Z9 ⟨by omega,by omega,by omega⟩]
  simp
 rw [hsub,ZZ]
 have hlen:(t.Links.take k).length=k:=by simp;omega
 have:=ZbD (n:=k) (p:=λj => !ZgK (lk t j) (lk t k).A (lk t k).B) (body:=λx:Int=>Zc5 N (lk t k) (t.Links.take k) x) (bad:=.inr false) (fin:=.inl ()) (λj hj=>by
  unfold Zc5
  have hj':j<(t.Links.take k).length:=by omega
  rw [Z9 (by rw [hlen];simp;omega),ZcT hj',ZZ,ZaW (by omega)]
  have e:(t.Links.take k)[j]=lk t j:=by simp [lk,Zw,show j<t.Links.length by omega]
  rw [e]
  unfold ZgK
  rw [Zo1 (lk t k).A (lk t j).A,Zo1 (lk t k).B (lk t j).B,Zo1 (lk t k).A (lk t j).B,Zo1 (lk t k).B (lk t j).A]
  cases (lk t j).A==(lk t k).A<;>cases (lk t j).B==(lk t k).B<;>cases (lk t j).A==(lk t k).B<;>cases (lk t j).B==(lk t k).A<;>rfl) (by unfold Zc5;rw [Z8 (by rw [hlen];simp)]) (N:=N) (by omega)
 rw [this]
 unfold nojB
 cases allB k λj => !ZgK (lk t j) (lk t k).A (lk t k).B<;>rfl
theorem Zoo (hS:(t.Station.length:Int)=t.Nodes)(hL:t.Links.length<100)(hN:t.Links.length<N):Zho N t=some (allB t.Links.length (λk=>Zfj t (lk t k)&&nojB t k)):=by
 unfold Zho
 have:=ZbD (n:=t.Links.length) (p:=λk=>Zfj t (lk t k)&&nojB t k) (body:=λx:Int=>ZdL N t x) (bad:=.inr false) (fin:=.inl ()) (λk hk=>by
  unfold ZdL
  rw [Z9 (by simp;omega),ZsP hL hN hk,ZaW (by omega)]
  unfold ZgQ ZgP ZgO
  rw [ZpN hk]
  simp only [ZZ,Zpb]
  unfold Zfj
  cases hA:Ze4 t (lk t k).A with
  | false=>rfl
  | true =>
   cases hB:Ze4 t (lk t k).B with
   | false=>rfl
   | true =>
    simp only [Zaa,ZZ]
    rw [Zf9 hS hA,Zf9 hS hB]
    simp only [bne,ZZ]
    generalize (decide ((lk t k).Per≥1)&&(decide ((lk t k).Per<=1000)&&(decide ((lk t k).Delay≥0)&&decide ((lk t k).Delay<=10000))))=q
    cases ((lk t k).A==(lk t k).B)<;>cases stB t (lk t k).A<;>cases stB t (lk t k).B<;>cases nojB t k<;>cases q<;>rfl) (by unfold ZdL;rw [Z8 (by simp)]) (N:=N) hN
 rw [this]
 cases allB t.Links.length (λk=>Zfj t (lk t k)&&nojB t k)<;>rfl
theorem Zq4 (b:List Int)(x:Int):(bump b x).length=b.length:=by simp [bump]
theorem Znf (b:List Int)(l:ZaF):(Zng b l).length=b.length:=by simp [Zng,Zq4]
theorem Zdm {l:ZaF}(h:Zfj t l=true):Ze4 t l.A=true/\Ze4 t l.B=true/\l.A≠l.B:=by
 simp only [Zfj,Ze] at h
 refine ⟨h.1,h.2.1,?_⟩
 have:=h.2.2.1
 intro e
 simp [e] at this
theorem ZgI {x:Int}:Ze4 t x=true↔0<=x/\x<t.Nodes:=by simp [Ze4]
theorem Zq5 {b:List Int}(hb:(b.length:Int)=t.Nodes){l:ZaF}(hA:Ze4 t l.A=true)(hB:Ze4 t l.B=true) :
  idx b l.A=some (b.getD l.A.toNat 0)/\idx (b.set l.A.toNat (w64 (b.getD l.A.toNat 0+1))) l.B=some ((bump b l.A).getD l.B.toNat 0):=by
 rw [ZgI] at hA hB
 exact ⟨ZcB 0 hA.1 (by omega),ZcB 0 hB.1 (by simp;omega)⟩
theorem Zmf (hT:allB t.Links.length (λk=>Zfj t (lk t k)&&nojB t k)=true)(hn:0<=t.Nodes)(hL:t.Links.length<100)(hN:t.Links.length<N) :
  ZaY (λx:Int×(List Int)=>Zcw N t x.1 x.2) N (0,List.replicate t.Nodes.toNat 0)=some (degs t)/\((degs t).length:Int)=t.Nodes:=by
 have:=Zd7 (n:=t.Links.length) (f:=λb k=>Zng b (lk t k)) (body:=λx:Int×(List Int)=>Zcw N t x.1 x.2) (fin:=λb=>b) (λ_ b=>(b.length:Int)=t.Nodes)
  (λk b hk hb=>by
   have hl:=Zb9.1 hT k hk
   simp only [Ze] at hl
   obtain ⟨hA,hB,_⟩:=Zdm hl.1
   obtain ⟨i1,i2⟩:=Zq5 hb hA hB
   show Zcw N t k b=_
   unfold Zcw
   rw [Z9 (by simp;omega),ZpN hk,ZZ,i1]
   simp only [ZZ,i2,ZaW (show k<1000000 by omega)]
   rfl)
  (λk b hk hb=>by rw [Znf];exact hb)
  (λb hb=>by show Zcw N t t.Links.length b=_;unfold Zcw;rw [Z8 (by simp)]) hN (b0:=List.replicate t.Nodes.toNat 0) (by simp;omega)
 exact this
theorem Zrn (hS:(t.Station.length:Int)=t.Nodes)(hn:0<=t.Nodes)(hL:t.Links.length<100)(hN:t.Links.length<N) :
  ZaY (λx:Int×(List Int)=>Zca N t x.1 x.2) N (0,List.replicate t.Nodes.toNat 0)=some (if allB t.Links.length (λk=>Zfj t (lk t k)&&nojB t k) then .inl (degs t) else .inr false):=by
 refine (ZmX (ρ:=List Int⊕Bool) (body:=λx:Int×(List Int)=>Zca N t x.1 x.2) (n:=t.Links.length) (f:=λb k=>Zng b (lk t k)) (p:=λk=>Zfj t (lk t k)&&nojB t k) (fin:=λb=>.inl b) (bad:=.inr false) (λ_ b=>(b.length:Int)=t.Nodes)
  (λk b hk hb=>?_) (λk b hk hb _=>by rw [Znf];exact hb) (λb hb=>by show Zca N t t.Links.length b=_;unfold Zca;rw [Z8 (by simp)]) hN (b0:=List.replicate t.Nodes.toNat 0) (by simp;omega)).1
 show Zca N t k b=_
 unfold Zca
 rw [Z9 (by simp;omega),ZpN hk,ZZ,Zkb hS,ZZ]
 cases hl:Zfj t (lk t k) with
 | false=>rfl
 | true =>
  obtain ⟨hA,hB,_⟩:=Zdm hl
  obtain ⟨i1,i2⟩:=Zq5 hb hA hB
  rw [Zr9 hL hN hk]
  cases nojB t k with
  | false=>rfl
  | true =>
   simp only [Zi,Zg,Z7,Zaa,ZZ,i1,i2,ZaW (show k<1000000 by omega),Bool.and_self]
   rfl
theorem Zmq (l:List Bool)(k:ZaF):(Zhu l k).length=l.length:=by unfold Zhu;split<;>simp
theorem ZqF {l:List Bool}{i:Nat}(h:l.getD i false=true):l.set i true=l:=by
 apply List.ext_getElem?
 intro j
 rw [ZF]
 by_cases e:i=j
 ·subst e
  rw [Z9 rfl]
  split
  ·rename_i hl
   rw [ZC hl]
   simp [Zw,hl] at h
   rw [h]
  rename_i hl
  rw [ZD (by omega)]
 rw [Z8 e]
theorem Zh3 {l:List Bool}{i j:Nat}(h:l.getD j false=true):(l.set i true).getD j false=true:=by
 rw [Zw] at h ⊢
 rw [ZF]
 split
 ·split
  ·rfl
  rename_i e hl
  rw [ZD (by omega)] at h
  cases h
 exact h
theorem Zme (hT:allB t.Links.length (λk=>Zfj t (lk t k)&&nojB t k)=true)(hL24:t.Links.length<=24)(hN:t.Links.length<N)(c:Zc3)(hc:∀ k:Nat,k<24->c.get (k:Int)=some false){l:List Bool}(hl:(l.length:Int)=t.Nodes) :
  ZaY (λx:Int×(List Bool)=>Zcv N t c x.1 x.2) N (0,l)=some (Ziv t l)/\((Ziv t l).length:Int)=t.Nodes:=by
 have:=Zd7 (n:=t.Links.length) (f:=λb k=>Zhu b (lk t k)) (body:=λx:Int×(List Bool)=>Zcv N t c x.1 x.2) (fin:=λb=>b) (λ_ b=>(b.length:Int)=t.Nodes)
  (λk b hk hb=>by
   have hl:=Zb9.1 hT k hk
   simp only [Ze] at hl
   obtain ⟨hA,hB,_⟩:=Zdm hl.1
   rw [ZgI] at hA hB
   have i1:idx b (lk t k).A=some (b.getD (lk t k).A.toNat false):=ZcB false hA.1 (by omega)
   have i2:idx b (lk t k).B=some (b.getD (lk t k).B.toNat false):=ZcB false hB.1 (by omega)
   have i3:idx (b.set (lk t k).A.toNat true) (lk t k).B=some ((b.set (lk t k).A.toNat true).getD (lk t k).B.toNat false):=ZcB false hB.1 (by simp;omega)
   show Zcv N t c k b=_
   unfold Zcv
   rw [Z9 (by simp;omega),ZpN hk,ZZ,hc k (by omega)]
   simp only [ZZ,i1,i2,i3,ZaW (show k<1000000 by omega),Bool.not_false,Zaa]
   unfold Zhu
   cases h1:b.getD (lk t k).A.toNat false with
   | false=>cases h2:b.getD (lk t k).B.toNat false<;>simp
   | true=>cases h2:b.getD (lk t k).B.toNat false with
    | false=>simp
    | true=>simp [ZqF h1,ZqF h2])
  (λk b hk hb=>by rw [Zmq];exact hb)
  (λb hb=>by show Zcv N t c t.Links.length b=_;unfold Zcv;rw [Z8 (by simp)]) hN (b0:=l) hl
 exact this
theorem Zlk (hT:allB t.Links.length (λk=>Zfj t (lk t k)&&nojB t k)=true)(hL24:t.Links.length<=24)(hN:t.Links.length<N){l:List Bool}(hl:(l.length:Int)=t.Nodes) :
  ZaY (λx:Int×(List Bool)=>Zcb N t [] x.1 x.2) N (0,l)=some (Ziv t l)/\((Ziv t l).length:Int)=t.Nodes:=by
 have:=Zd7 (n:=t.Links.length) (f:=λb k=>Zhu b (lk t k)) (body:=λx:Int×(List Bool)=>Zcb N t [] x.1 x.2) (fin:=λb=>b) (λ_ b=>(b.length:Int)=t.Nodes)
  (λk b hk hb=>by
   have hl:=Zb9.1 hT k hk
   simp only [Ze] at hl
   obtain ⟨hA,hB,_⟩:=Zdm hl.1
   rw [ZgI] at hA hB
   have i1:idx b (lk t k).A=some (b.getD (lk t k).A.toNat false):=ZcB false hA.1 (by omega)
   have i2:idx b (lk t k).B=some (b.getD (lk t k).B.toNat false):=ZcB false hB.1 (by omega)
   have i3:idx (b.set (lk t k).A.toNat true) (lk t k).B=some ((b.set (lk t k).A.toNat true).getD (lk t k).B.toNat false):=ZcB false hB.1 (by simp;omega)
   show Zcb N t [] k b=_
   unfold Zcb
   rw [Z9 (by simp;omega),ZpN hk,ZZ,ZhV (by simp;omega) (by simp)]
   simp only [ZZ,i1,i2,i3,ZaW (show k<1000000 by omega),List.contains_nil,Bool.not_false,Zaa]
   unfold Zhu
   cases h1:b.getD (lk t k).A.toNat false<;>cases h2:b.getD (lk t k).B.toNat false<;>simp)
  (λk b hk hb=>by rw [Zmq];exact hb)
  (λb hb=>by show Zcb N t [] t.Links.length b=_;unfold Zcb;rw [Z8 (by simp)]) hN (b0:=l) hl
 exact this
theorem ZoP {α:Type}{b:Nat}{n:Int}(z:α)(h0:0<=n)(h1:n<=1000)(hb:b<=1000):ZiP b n n z=some (List.replicate n.toNat z):=by
 unfold ZiP
 have:n*(b:Int)<=1000*1000:=Int.mul_le_mul h1 (by omega) (by omega) (by omega)
 rw [Z9 ⟨h0,Int.le_refl _,by omega,by omega⟩]
theorem ZjZ (hT:allB t.Links.length (λk=>Zfj t (lk t k)&&nojB t k)=true)(hL24:t.Links.length<=24)(h0:1<=t.Nodes)(h12:t.Nodes<=12)(hN:30<=N)(c:Zc3)(hc:∀ k:Nat,k<24->c.get (k:Int)=some false){m:Int}(hm0:0<=m)(hm:m<t.Nodes) :
  Zhp N t m c=some (ZgG t m)/\((ZgG t m).length:Int)=t.Nodes:=by
 unfold Zhp
 rw [ZoP _ (by omega) (by omega) (by omega),ZZ,ZcB false hm0 (by simp;omega),ZZ]
 have:=Zd7 (n:=t.Nodes.toNat) (f:=λb _=>Ziv t b) (body:=λx:Int×(List Bool)=>ZcO N t c x.1 x.2) (fin:=λb=>b) (λ_ b=>(b.length:Int)=t.Nodes)
  (λk b hk hb=>by
   show ZcO N t c k b=_
   unfold ZcO
   rw [Z9 (by simp;omega),(Zme hT hL24 (by omega) c hc hb).1,ZZ,ZaW (by omega)])
  (λk b hk hb=>(Zme hT hL24 (N:=N) (by omega) c hc hb).2)
  (λb hb=>by show ZcO N t c t.Nodes.toNat b=_;unfold ZcO;rw [Z8 (by simp;omega)]) (N:=N) (by omega) (b0:=(List.replicate t.Nodes.toNat false).set m.toNat true) (by simp;omega)
 rw [this.1]
 exact ⟨rfl,this.2⟩
theorem ZnH (hT:allB t.Links.length (λk=>Zfj t (lk t k)&&nojB t k)=true)(hL24:t.Links.length<=24)(h0:1<=t.Nodes)(h12:t.Nodes<=12)(hN:30<=N){m:Int}(hm0:0<=m)(hm:m<t.Nodes) :
  ZgF N t m []=some (ZgG t m):=by
 unfold ZgF
 rw [ZoP _ (by omega) (by omega) (by omega),ZZ,ZcB false hm0 (by simp;omega),ZZ]
 have:=Zd7 (n:=t.Nodes.toNat) (f:=λb _=>Ziv t b) (body:=λx:Int×(List Bool)=>Zcz N t [] x.1 x.2) (fin:=λb=>b) (λ_ b=>(b.length:Int)=t.Nodes)
  (λk b hk hb=>by
   show Zcz N t [] k b=_
   unfold Zcz
   rw [Z9 (by simp;omega),(Zlk hT hL24 (by omega) hb).1,ZZ,ZaW (by omega)])
  (λk b hk hb=>(Zlk hT hL24 (N:=N) (by omega) hb).2)
  (λb hb=>by show Zcz N t [] t.Nodes.toNat b=_;unfold Zcz;rw [Z8 (by simp;omega)]) (N:=N) (by omega) (b0:=(List.replicate t.Nodes.toNat false).set m.toNat true) (by simp;omega)
 rw [this.1]
 rfl
theorem Zjx (hN:40<=N):ZfA N t=some (Ze8 t):=by
 unfold ZfA Ze8
 by_cases h1:2<=t.Nodes
 ·by_cases h2:t.Nodes<=12
  ·by_cases h3:(t.Station.length:Int)=t.Nodes
   ·by_cases h4:t.Links.length<=24
    ·rw [Z8 (by simp;omega),ZoP _ (by omega) (by omega) (by omega),ZZ,Zrn h3 (by omega) (by omega) (by omega),ZZ]
     have e:decide (2<=t.Nodes)=true/\decide (t.Nodes<=12)=true/\((t.Station.length:Int)==t.Nodes)=true/\decide (t.Links.length<=24)=true:=by simp [h1,h2,h3,h4]
     rw [e.1,e.2.1,e.2.2.1,e.2.2.2]
     simp only [Zk]
     cases hT:allB t.Links.length (λk=>Zfj t (lk t k)&&nojB t k) with
     | false=>rfl
     | true =>
      simp only [Zaa,Zk]
      rw [ZnH hT h4 (by omega) h2 (by omega) (by omega) (by omega),ZZ]
      have hd:=(Zmf (N:=N) hT (by omega) (by omega) (by omega)).2
      have hr:=(ZjZ (N:=N) hT h4 (by omega) h2 (by omega) ⟨false,false,false,false,false,false,false,false,false,false,false,false,false,false,false,false,false,false,false,false,false,false,false,false⟩ (by decide) (m:=0) (by omega) (by omega)).2
      have:=ZbD (n:=t.Nodes.toNat) (p:=λn=>(ZgG t 0).getD n false&&degB t n) (body:=λx:Int=>Zdu N t (degs t) (ZgG t 0) x) (bad:=.inr false) (fin:=.inl ()) (λk hk=>by
       unfold Zdu
       have j1:idx (ZgG t 0) (k:Int)=some ((ZgG t 0).getD k false):=ZcB false (by omega) (by omega)
       have j2:idx t.Station (k:Int)=some (stB t k):=ZcB false (by omega) (by omega)
       have j3:idx (degs t) (k:Int)=some ((degs t).getD k 0):=ZcB 0 (by omega) (by omega)
       rw [Z9 (by simp;omega),j1,j2,j3,ZaW (by omega)]
       simp only [ZZ]
       unfold degB
       cases (ZgG t 0).getD k false with
       | false=>rfl
       | true =>
        cases stB t k with
        | false=>rfl
        | true =>
         simp only [Zi,Zg,Z7,Zaa,Zk,Bool.false_or]
         generalize (degs t).getD k 0=d
         by_cases g1:d<1
         ·simp [g1,show ¬ (1<=d) by omega]
         by_cases g2:d>2
         ·simp [g1,g2,show ¬ (d<=2) by omega]
         simp [g1,g2,show 1<=d by omega,show d<=2 by omega]) (by unfold Zdu;rw [Z8 (by simp;omega)]) (N:=N) (by omega)
      rw [this]
      cases allB t.Nodes.toNat (λn=>(ZgG t 0).getD n false&&degB t n)<;>rfl
    rw [Z9 (by simp;omega)];simp [h4]
   rw [Z9 (by simp [h3])];simp [h3]
  rw [Z9 (by simp;omega)];simp [h2]
 rw [Z9 (by simp;omega)];simp [h1]
theorem ZnN (l:List Bool):l.contains false = !(allB l.length λn=>l.getD n false):=by
 rw [Zf,Zt,Zh,← Bool.not_eq_true,Zb9]
 constructor
 ·intro h hh
  obtain ⟨k,hk,e⟩:=List.getElem_of_mem h
  have:=hh k hk
  simp [Zw,hk,e] at this
 intro h
 simp only [Classical.not_forall] at h
 obtain ⟨k,hk,e⟩:=h
 simp [Zw,hk] at e
 rw [← e]
 exact List.getElem_mem hk
theorem Zgg (hN:40<=N):Zfs N t=some (if Ze8 t then 0 else 260):=by
 unfold Zfs Ze8
 by_cases h1:2<=t.Nodes
 ·by_cases h2:t.Nodes<=12
  ·by_cases h3:(t.Station.length:Int)=t.Nodes
   ·rw [Z8 (by simp [h3];omega)]
    by_cases h4:t.Links.length<=24
    ·rw [Z8 (by simp;omega),Zoo h3 (by omega) (by omega),ZZ,ZZ]
     have e:decide (2<=t.Nodes)=true/\decide (t.Nodes<=12)=true/\((t.Station.length:Int)==t.Nodes)=true/\decide (t.Links.length<=24)=true:=by simp [h1,h2,h3,h4]
     rw [e.1,e.2.1,e.2.2.1,e.2.2.2]
     simp only [Zk]
     cases hT:allB t.Links.length (λk=>Zfj t (lk t k)&&nojB t k) with
     | false=>rfl
     | true =>
      simp only [Zi,Zg,Z7,Zk]
      rw [ZoP _ (by omega) (by omega) (by omega),ZZ,(Zmf hT (by omega) (by omega) (by omega)).1,ZZ]
      have hd:=(Zmf (N:=N) hT (by omega) (by omega) (by omega)).2
      have hr:=ZjZ (N:=N) hT h4 (by omega) h2 (by omega) ⟨false,false,false,false,false,false,false,false,false,false,false,false,false,false,false,false,false,false,false,false,false,false,false,false⟩ (by decide) (m:=0) (by omega) (by omega)
      have:=ZbD (n:=t.Station.length) (p:=λn=>degB t n) (body:=λx:Int=>ZdM N t (degs t) x) (bad:=.inr 260) (fin:=.inl ()) (λk hk=>by
       unfold ZdM
       have j2:idx t.Station (k:Int)=some (stB t k):=ZcB false (by omega) (by omega)
       have j3:idx (degs t) (k:Int)=some ((degs t).getD k 0):=ZcB 0 (by omega) (by omega)
       rw [Z9 (by simp;omega),j2,j3,ZaW (by omega)]
       simp only [ZZ]
       unfold degB
       cases stB t k with
       | false=>rfl
       | true =>
        simp only [Zaa,Zi,Bool.false_or]
        generalize (degs t).getD k 0=d
        by_cases g1:d<1
        ·simp [g1,show ¬ (1<=d) by omega]
        by_cases g2:d>2
        ·simp [g1,g2,show ¬ (d<=2) by omega]
        simp [g1,g2,show 1<=d by omega,show d<=2 by omega]) (by unfold ZdM;rw [Z8 (by simp)]) (N:=N) (by omega)
      rw [this,ZZ,Ztn]
      have hsl:t.Station.length=t.Nodes.toNat:=by omega
      rw [hsl]
      cases hD:allB t.Nodes.toNat (λn=>degB t n) with
      | false=>simp
      | true =>
       simp only [Zaa,Bool.and_true]
       rw [hr.1,ZZ,Zf7 (by omega) (by omega),ZZ,ZnN,show (ZgG t 0).length=t.Nodes.toNat by omega]
       cases allB t.Nodes.toNat (λn=>(ZgG t 0).getD n false)<;>rfl
    rw [Z9 (by simp;omega)];simp [h4]
   rw [Z9 (by simp [h3])];simp [h3]
  rw [Z9 (by simp;omega)];simp [h2]
 rw [Z9 (by simp;omega)];simp [h1]
end
end Go.Sh

namespace Go.Sh
open Go Go.Eng
theorem Zhb {α:Type}{b:Nat}{l m:List α}(h:l.length+m.length<=1000)(hb:b<=1000):appI b l m=some (l++m):=by
 unfold appI
 have:(l.length+m.length)*b<=1000*1000:=Nat.mul_le_mul h hb
 rw [Z9 ⟨by omega,by omega⟩]
def at0 (r:List Int)(k:Nat):Int:=r.getD k 0
def Zc9 (t:Zag)(p:Int):Bool:=decide (0<=p)&&decide (p<2*(t.Links.length:Int))
def plk (t:Zag)(p:Int):ZaF:=t.Links.getD (Int.tdiv p 2).toNat dL
def frm (t:Zag)(p:Int):Int:=if (Int.tmod p 2==1)=true then (plk t p).B else (plk t p).A
def too (t:Zag)(p:Int):Int:=if (Int.tmod p 2==1)=true then (plk t p).A else (plk t p).B
def Zbm (t:Zag)(r:List Int):List Int:=frm t (at0 r 0)::r.map (too t)
def nd (t:Zag)(r:List Int)(k:Nat):Int:=(Zbm t r).getD k 0
def okAt (t:Zag)(r:List Int)(k:Nat):Bool :=
 Zc9 t (at0 r k)&&(((k==0)||((frm t (at0 r k)==nd t r k) && !stB t (nd t r k))) && !((Zbm t r).take (k+1)).contains (nd t r (k+1)))
def ZbK (t:Zag)(r:List Int):Bool:=decide (1<=r.length)&&(decide (r.length<=8)&&allB r.length (okAt t r))
section
variable {N:Nat} {t:Zag}
structure Good (t:Zag):Prop where
 n2:2<=t.Nodes
 n12:t.Nodes<=12
 st:(t.Station.length:Int)=t.Nodes
 l24:t.Links.length<=24
 links:∀ k,k<t.Links.length->Zfj t (lk t k)=true/\nojB t k=true
 nodes:∀ n,n<t.Nodes.toNat->(ZgG t 0).getD n false=true/\degB t n=true
theorem ZbQ:Ze8 t=true↔Good t:=by
 unfold Ze8
 simp only [Ze,Z6,beq_iff_eq,Zb9]
 exact ⟨λ⟨a,b,c,d,e,f⟩=>⟨a,b,c,d,e,f⟩,λh=>⟨h.n2,h.n12,h.st,h.l24,h.links,h.nodes⟩⟩
theorem Zsc {p:Int}(hp:Zc9 t p=true):0<=Int.tdiv p 2/\Int.tdiv p 2<t.Links.length:=by
 simp only [Zc9,Ze,Z6] at hp
 rw [Zl hp.1]
 omega
theorem Zlq (hL:t.Links.length<=1000){p:Int}(hp:Zc9 t p=true):idx t.Links (w64 (Int.tdiv p 2))=some (plk t p):=by
 obtain ⟨h1,h2⟩:=Zsc hp
 rw [ZaO (by omega) (by omega)]
 exact ZcB dL h1 h2
theorem Zew (hL:t.Links.length<=1000){p:Int}(hp:Zc9 t p=true):Zdd N t p=some (frm t p):=by
 unfold Zdd frm;rw [Zlq hL hp];simp only [ZZ];split<;>rfl
theorem ZeV (hL:t.Links.length<=1000){p:Int}(hp:Zc9 t p=true):Zea N t p=some (too t p):=by
 unfold Zea too;rw [Zlq hL hp];simp only [ZZ];split<;>rfl
theorem ZjB (hL:t.Links.length<=1000){p:Int}(hp:Zc9 t p=true):ZfD N t p=some (plk t p).Delay:=by
 unfold ZfD;rw [Zlq hL hp];rfl
theorem Zlm (hL:t.Links.length<=1000){p:Int}(hp:Zc9 t p=true):ZhB N t p=some (plk t p).Per:=by
 unfold ZhB;rw [Zlq hL hp];rfl
theorem ZoC (hL:t.Links.length<=1000)(p:Int):ZhA N t p=some (Zc9 t p):=by
 unfold ZhA Zc9;rw [ZaO (by omega) (by omega)]
theorem ZgL (g:Good t){p:Int}(hp:Zc9 t p=true):Ze4 t (frm t p)=true/\Ze4 t (too t p)=true/\frm t p≠too t p:=by
 obtain ⟨h1,h2⟩:=Zsc hp
 have:=Zdm (g.links (Int.tdiv p 2).toNat (by omega)).1
 unfold frm too
 split
 ·exact ⟨this.2.1,this.1,Ne.symm this.2.2⟩
 exact this
theorem Zd1 {α:Type}{l:List α}{k:Nat}(h:k<l.length)(d:α):l.getD k d=l[k]:=by simp [Zw,h]
theorem ZjS {r:List Int}{k:Nat}(h:k<r.length):at0 r k=r[k]:=Zd1 h 0
theorem Zey (r:List Int):(Zbm t r).length=r.length+1:=by simp [Zbm]
theorem Zhj {r:List Int}{k:Nat}(h:k<r.length):nd t r (k+1)=too t (at0 r k):=by
 unfold nd Zbm
 rw [List.getD_cons_succ,Zd1 (by simpa using h),ZjS h,List.getElem_map]
theorem ZtV (r:List Int):nd t r 0=frm t (at0 r 0):=rfl
theorem ZpJ {r:List Int}{k:Nat}(h:k<(Zbm t r).length):(Zbm t r)[k]=nd t r k:=by unfold nd;rw [Zd1 h]
theorem ZtW (g:Good t){r:List Int}(hp:∀ k,k<r.length->Zc9 t (at0 r k)=true)(h1:1<=r.length){k:Nat}(hk:k<=r.length):Ze4 t (nd t r k)=true:=by
 cases k with
 | zero=>exact (ZgL g (hp 0 (by omega))).1
 | succ k=>rw [Zhj (by omega)];exact (ZgL g (hp k (by omega))).2.1
theorem Zhg (hL:t.Links.length<=1000){r:List Int}(h1:1<=r.length)(h12:r.length<=100)(hp:∀ k,k<r.length->Zc9 t (at0 r k)=true)(hN:200<=N):ZdP N t r=some (Zbm t r):=by
 unfold ZdP
 have e0:idx r 0=some (at0 r 0):=by unfold at0;exact ZcB 0 (Int.le_refl _) (by omega)
 rw [e0,ZZ,Zew hL (hp 0 (by omega)),ZZ]
 have hlen:=Zey (t:=t) r
 have:=Zd7 (n:=r.length) (f:=λb k=>(Zbm t r).take (k+2)) (body:=λx:Int×(List Int)=>Zcy N t r x.1 x.2) (fin:=λb=>b) (λk b=>b=(Zbm t r).take (k+1))
  (λk b hk hb=>by
   show Zcy N t r k b=_
   unfold Zcy
   subst hb
   rw [Z9 (by simp;omega),ZcT hk,ZZ]
   have e:r[k]=at0 r k:=(ZjS hk).symm
   rw [e,ZeV hL (hp k hk),ZZ,Zhb (by simp;omega) (by omega),ZZ,ZaW (by omega)]
   rw [← Zhj hk,← ZpJ (by omega),List.take_append_getElem])
  (λk b hk hb=>rfl)
  (λb hb=>by show Zcy N t r r.length b=_;unfold Zcy;rw [Z8 (by simp)]) (N:=N) (by omega) (b0:=[frm t (at0 r 0)]) (by simp [Zbm])
 rw [this.1,ZZ,this.2,ZV (by omega)]
theorem ZnF (g:Good t){r:List Int}(h12:r.length<=100)(hN:200<=N):Zdr N t r=some (ZbK t r):=by
 have hL:t.Links.length<=1000:=by have:=g.l24;omega
 unfold Zdr ZbK
 by_cases h1:1<=r.length
 ·by_cases h8:r.length<=8
  ·rw [Z8 (by simp;omega)]
   have a1:=ZbD (n:=r.length) (p:=λk=>Zc9 t (at0 r k)) (body:=λx:Int=>Zdq N t r x) (bad:=.inr false) (fin:=.inl ()) (λk hk=>by
    unfold Zdq
    rw [Z9 (by simp;omega),ZcT hk,ZZ,ZoC hL,ZZ,ZaW (by omega),ZjS hk]
    cases Zc9 t r[k]<;>rfl) (by unfold Zdq;rw [Z8 (by simp)]) (N:=N) (by omega)
   rw [a1,ZZ]
   simp only [h1,h8,decide_true,Zk]
   cases hp:allB r.length (λk=>Zc9 t (at0 r k)) with
   | false =>
    have:allB r.length (okAt t r)=false:=by
     rw [← Bool.not_eq_true,Zb9]
     rw [← Bool.not_eq_true,Zb9] at hp
     intro h
     exact hp λk hk=>by have:=h k hk;simp only [okAt,Ze] at this;exact this.1
    rw [this];rfl
   | true =>
    rw [Zb9] at hp
    simp only [Zaa]
    rw [Zhg hL h1 h12 hp hN,ZZ]
    have hlen:=Zey (t:=t) r
    have a2:=ZbD (n:=r.length+1) (p:=λi => !((Zbm t r).take i).contains (nd t r i) && !(decide (0<i)&&(decide (i<r.length)&&(stB t (nd t r i) || !(frm t (at0 r i)==nd t r i)))))
     (body:=λx:Int=>Zdp N t r (Zbm t r) x) (bad:=.inr false) (fin:=.inl ()) (λi hi=>by
     unfold Zdp
     have hi':i<(Zbm t r).length:=by omega
     have hsub:subI (Zbm t r) 0 (i:Int)=some ((Zbm t r).take i):=by
      unfold subI
      rw [Z9 ⟨by omega,by omega,by omega⟩]
      simp
     rw [Z9 (by simp;omega),hsub,ZZ,ZcT hi',ZZ,ZpJ hi',ZhV (by simp;omega) (by simp;omega),ZZ,ZaW (by omega)]
     cases hc:((Zbm t r).take i).contains (nd t r i) with
     | true=>rfl
     | false =>
      by_cases hi0:0<i
      ·by_cases hil:i<r.length
       ·have e1:decide ((i:Int)>0)=true:=by simp;omega
        have e2:decide ((i:Int)<(r.length:Int))=true:=by simp;omega
        rw [e1,e2,ZcT hil]
        have e3:r[i]=at0 r i:=(ZjS hil).symm
        rw [e3]
        simp only [Zg,Z7,Zaa,ZZ]
        rw [Zf9 g.st (ZtW g hp h1 (by omega)),Zew hL (hp i hil)]
        simp only [hi0,hil,decide_true,Zk,Bool.not_false,bne,ZZ]
        cases stB t (nd t r i)<;>cases (frm t (at0 r i)==nd t r i)<;>rfl
       have e1:decide ((i:Int)>0)=true:=by simp;omega
       have e2:decide ((i:Int)<(r.length:Int))=false:=by simp;omega
       rw [e1,e2];simp [hil]
      have e1:decide ((i:Int)>0)=false:=by simp;omega
      rw [e1];simp [hi0]) (by unfold Zdp;rw [Z8 (by simp;omega)]) (N:=N) (by omega)
    rw [a2,ZZ]
    have:allB (r.length+1) (λi => !((Zbm t r).take i).contains (nd t r i) && !(decide (0<i)&&(decide (i<r.length)&&(stB t (nd t r i) || !(frm t (at0 r i)==nd t r i)))))=allB r.length (okAt t r):=by
     rw [Zf,Zb9,Zb9]
     constructor
     ·intro h k hk
      have q1:=h k (by omega)
      have q2:=h (k+1) (by omega)
      simp only [Ze] at q1 q2
      simp only [okAt,Ze]
      refine ⟨hp k hk,?_,q2.1⟩
      by_cases hk0:k=0
      ·simp [hk0]
      have:=q1.2
      simp only [show 0<k by omega,hk,decide_true,Zk,Zh,Bool.or_eq_false_iff] at this
      simp only [Zj,Ze,Zh]
      right
      exact ⟨by simpa using this.2,this.1⟩
     intro h i hi
     simp only [Ze]
     constructor
     ·cases i with
      | zero=>simp
      | succ i =>
       have:=h i (by omega)
       simp only [okAt,Ze] at this
       exact this.2.2
     by_cases hi0:0<i
     ·by_cases hil:i<r.length
      ·have:=h i hil
       simp only [okAt,Ze,Zj,Zh] at this
       have h2:=this.2.1
       rcases h2 with h2|⟨h2,h3⟩
       ·simp at h2;omega
       simp [h2,h3]
      simp [hil]
     simp [hi0]
    rw [this]
    cases allB r.length (okAt t r)<;>rfl
  rw [Z9 (by simp;omega)];simp [h8]
 rw [Z9 (by simp;omega)];simp [h1]
theorem Zm1 {σ:Type}(hL:t.Links.length<=1000)(y:σ->Int->ZbU->Option (σ×Bool)){r:List Int}(g:σ){k:Nat}(hk:k<r.length)(hk':k<1000):Za4 N y r ⟨t⟩ (k:Int) g =
  if Zc9 t (at0 r k)=true then (y g k ⟨at0 r k,frm t (at0 r k),too t (at0 r k)⟩).bind λq=>if (!q.2)=true then some (.inr q.1) else some (.inl (((k+1:Nat):Int),q.1)) else some (.inr g):=by
 unfold Za4
 rw [Z9 (by simp;omega),ZcT hk,ZZ,← ZjS hk,ZaW (by omega)]
 simp only
 have hpo:(if decide (at0 r k<0)=true then some true else some (decide (at0 r k≥w64 (2*(t.Links.length:Int)))))=some (!Zc9 t (at0 r k)):=by
  rw [ZaO (by omega) (by omega)]
  unfold Zc9
  by_cases h1:at0 r k<0
  ·rw [Z9 (by simpa using h1)];simp [show ¬ (0<=at0 r k) by omega]
  rw [Z8 (by simpa using h1)]
  by_cases h2:at0 r k<2*(t.Links.length:Int)
  ·rw [decide_eq_false (by omega),decide_eq_true (show 0<=at0 r k by omega),decide_eq_true h2];rfl
  rw [decide_eq_true (by omega),decide_eq_true (show 0<=at0 r k by omega),decide_eq_false h2];rfl
 rw [hpo,ZZ]
 cases hp:Zc9 t (at0 r k) with
 | false=>rfl
 | true =>
  rw [Zlq hL hp]
  simp only [Zi,Zg,Z7,ZZ,Zaa]
  unfold frm too
  split<;>rfl
theorem ZqW {σ:Type}(y:σ->Int->ZbU->Option (σ×Bool)){r:List Int}(g:σ):Za4 N y r ⟨t⟩ (r.length:Int) g=some (.inr g):=by
 unfold Za4
 rw [Z8 (by simp)]
theorem Znk {a:Zau}{x:Int}(h0:0<=x)(h:x<12):a.get x=some (a.l.getD x.toNat false):=by
 unfold Zau.get
 exact ZcB false h0 (by show x<((12:Nat):Int);omega)
theorem Zp1 {a:Zau}{x:Int}{v:Bool}{y:Nat}(h0:0<=x)(h:x<12):(a.set x v).l.getD y false=if y=x.toNat then v else a.l.getD y false:=by
 rw [Zau.l_set]
 have hlen:a.l.length=12:=rfl
 rw [Zw,Zw,ZF]
 by_cases e:y=x.toNat
 ·subst e
  rw [Z9 rfl,Z9 (by omega),Z9 rfl]
  rfl
 rw [Z8 (Ne.symm e),Z8 e]
def VInv (t:Zag)(r:List Int)(k:Nat)(v:Int×Int×Zau):Prop :=
 v.1=k/\(0<k->v.2.1=nd t r k)/\∀ x:Nat,x<12->v.2.2.l.getD x false=(decide (0<k)&&((Zbm t r).take (k+1)).contains (x:Int))
theorem Zio {r:List Int}{k:Nat}(h:k<(Zbm t r).length):(Zbm t r).take (k+1)=(Zbm t r).take k++[nd t r k]:=by
 rw [← ZpJ h,List.take_append_getElem]
theorem Zrg (g:Good t){r:List Int}{k:Nat}(hk:k<r.length)(h12:r.length<=100)(hpre:∀ j,j<k->Zc9 t (at0 r j)=true)(hp:Zc9 t (at0 r k)=true){v:Int×Int×Zau}(hv:VInv t r k v) :
  ∃ v' e,Zbz N ⟨t⟩ v.1 v.2.1 v.2.2 (k:Int) ⟨at0 r k,frm t (at0 r k),too t (at0 r k)⟩=some (v',e)/\((e=0/\okAt t r k=true/\VInv t r (k+1) v')∨(e=1/\okAt t r k=false/\v'.1=k)):=by
 obtain ⟨good,at_,seen⟩:=v
 obtain ⟨e1,e2,e3⟩:=hv
 simp only at e1 e2 e3
 subst e1
 obtain ⟨f1,f2,f3⟩:=ZgL g hp
 rw [ZgI] at f1 f2
 have hn:=g.n12
 have hlen:=Zey (t:=t) r
 have hpk:∀ j,j<k+1->Zc9 t (at0 r j)=true:=λj hj=>by
  by_cases e:j=k
  ·subst e;exact hp
  exact hpre j (by omega)
 have hmem:∀ (s:Zau),(∀ x:Nat,x<12->s.l.getD x false=((Zbm t r).take (k+1)).contains (x:Int)) →
   s.l.getD (too t (at0 r k)).toNat false=((Zbm t r).take (k+1)).contains (nd t r (k+1)) ∧
   (((Zbm t r).take (k+1)).contains (nd t r (k+1))=false->VInv t r (k+1) (w64 ((k:Int)+1),too t (at0 r k),s.set (too t (at0 r k)) true)):=by
  intro s hs
  constructor
  ·rw [hs _ (by omega),Zhj hk,Zo f2.1]
  intro hc
  refine ⟨by simp only;rw [ZaW (by omega)],λ_=>(Zhj hk).symm,λx hx=>?_⟩
  simp only
  rw [Zp1 f2.1 (by omega),Zio (by omega),List.contains_append,Zhj hk]
  simp only [show 0<k+1 by omega,decide_true,Zk,List.contains_cons,List.contains_nil,Bool.or_false]
  by_cases e:x=(too t (at0 r k)).toNat
  ·rw [Z9 e]
   have:((x:Int)==too t (at0 r k))=true:=by simp;omega
   rw [this,Bool.or_true]
  rw [Z8 e,hs x hx]
  have:((x:Int)==too t (at0 r k))=false:=by simp;omega
  rw [this,Bool.or_false]
 unfold Zbz okAt
 by_cases hk0:k=0
 ·subst hk0
  rw [Z9 (by simp)]
  simp only
  rw [Znk f1.1 (by omega),ZZ,Znk f2.1 (by omega),ZZ]
  have hs0:∀ x:Nat,x<12->(seen.set (frm t (at0 r 0)) true).l.getD x false=((Zbm t r).take (0+1)).contains (x:Int):=λx hx=>by
   rw [Zp1 f1.1 (by omega)]
   have he:seen.l.getD x false=false:=by rw [e3 x hx];simp
   rw [he]
   show _=[frm t (at0 r 0)].contains (x:Int)
   simp only [List.contains_cons,List.contains_nil,Bool.or_false]
   by_cases e:x=(frm t (at0 r 0)).toNat
   ·rw [Z9 e];symm;simp;omega
   rw [Z8 e];symm;simp;omega
  obtain ⟨m1,m2⟩:=hmem _ hs0
  rw [m1]
  have hc:((Zbm t r).take (0+1)).contains (nd t r (0+1))=false:=by
   show [frm t (at0 r 0)].contains _=false
   rw [Zhj hk]
   simp only [List.contains_cons,List.contains_nil,Bool.or_false]
   simp [Ne.symm f3]
  rw [hc]
  refine ⟨_,0,rfl,.inl ⟨rfl,?_,m2 hc⟩⟩
  rw [hp];rfl
 rw [Z8 (by simp;omega)]
 simp only
 have ha:=e2 (by omega)
 subst ha
 have hst:idx t.Station (nd t r k)=some (stB t (nd t r k)):=by
  apply Zf9 g.st
  obtain ⟨j,rfl⟩:∃ j,k=j+1:=⟨k-1,by omega⟩
  rw [Zhj (by omega)]
  exact (ZgL g (hpre j (by omega))).2.1
 have hs1:∀ x:Nat,x<12->seen.l.getD x false=((Zbm t r).take (k+1)).contains (x:Int):=λx hx=>by rw [e3 x hx];simp [show 0<k by omega]
 obtain ⟨m1,m2⟩:=hmem _ hs1
 rw [hst,hp,show (k==0)=false by simp [hk0]]
 simp only [ZZ,bne,Bool.false_or,Zk]
 cases hf:(frm t (at0 r k)==nd t r k) with
 | false=>exact ⟨_,1,rfl,.inr ⟨rfl,rfl,rfl⟩⟩
 | true =>
  cases hs:stB t (nd t r k) with
  | true=>exact ⟨_,1,rfl,.inr ⟨rfl,rfl,rfl⟩⟩
  | false =>
   simp only [Zi,Zg,Z7,ZZ]
   rw [Znk f2.1 (by omega),ZZ,ZZ,m1]
   cases hc:((Zbm t r).take (k+1)).contains (nd t r (k+1)) with
   | true=>exact ⟨_,1,rfl,.inr ⟨rfl,rfl,rfl⟩⟩
   | false=>exact ⟨_,0,rfl,.inl ⟨rfl,rfl,m2 hc⟩⟩
theorem Zrh (g:Good t){r:List Int}(h12:r.length<=100):∀ (n N k:Nat) (v:Int×Int×Zau),r.length-k=n->k<=r.length->n<N->(∀ j,j<k->okAt t r j=true)->VInv t r k v->∀ M:Nat,
  ∃ s:(Int×Int×Zau)×Nat,ZaY (λx:Int×((Int×Int×Zau)×Nat)=>Za4 M (λ(s:(Int×Int×Zau)×Nat) (x522:Int) (x523:ZbU)=>Zim (λv:Int×Int×Zau=>Zbz M ⟨t⟩ v.1 v.2.1 v.2.2 x522 x523) s) r ⟨t⟩ x.1 x.2) N ((k:Int),(v,0))=some s ∧
   (s.2=0∨s.2=1)/\(s.1.1==(r.length:Int))=allB r.length (okAt t r):=by
 have hL:t.Links.length<=1000:=by have:=g.l24;omega
 intro n
 induction n with
 | zero =>
  intro N k v h1 h2 h3 hpre hv M
  obtain rfl:k=r.length:=by omega
  cases N with
  | zero=>omega
  | succ N =>
   refine ⟨(v,0),by rw [Zbw (ZqW _ _)],.inl rfl,?_⟩
   rw [hv.1,Zb9.2 hpre]
   simp
 | succ n ih =>
  intro N k v h1 h2 h3 hpre hv M
  have hk:k<r.length:=by omega
  cases N with
  | zero=>omega
  | succ N =>
   have hbad:okAt t r k=false->(((k:Nat):Int)==(r.length:Int))=allB r.length (okAt t r):=λhb=>by
    have e1:(((k:Nat):Int)==(r.length:Int))=false:=by simp;omega
    rw [e1];symm
    rw [← Bool.not_eq_true,Zb9]
    intro h;rw [h k hk] at hb;cases hb
   cases hp:Zc9 t (at0 r k) with
   | false =>
    refine ⟨(v,0),?_,.inl rfl,?_⟩
    ·rw [Zbw]
     show Za4 M _ r ⟨t⟩ (k:Int) (v,0)=_
     rw [Zm1 hL _ _ hk (by omega),Z8 (by rw [hp];simp)]
    simp only [hv.1]
    exact hbad (by unfold okAt;rw [hp];rfl)
   | true =>
    obtain ⟨v',e,s1,s2⟩:=Zrg (N:=M) g hk h12 (λj hj=>by have:=hpre j hj;simp only [okAt,Ze] at this;exact this.1) hp hv
    have hy:Za4 M (λ(s:(Int×Int×Zau)×Nat) (x522:Int) (x523:ZbU)=>Zim (λv:Int×Int×Zau=>Zbz M ⟨t⟩ v.1 v.2.1 v.2.2 x522 x523) s) r ⟨t⟩ (k:Int) (v,0) =
      if (!(e==0))=true then some (.inr (v',e)) else some (.inl (((k+1:Nat):Int),(v',e))):=by
     rw [Zm1 hL _ _ hk (by omega),Z9 hp]
     simp only [Zim,Zaa,s1,Z1,ZZ]
    rcases s2 with ⟨rfl,s3,s4⟩|⟨rfl,s3,s4⟩
    ·rw [ZcC (y:=(((k+1:Nat):Int),(v',0))) hy]
     exact ih N (k+1) v' (by omega) (by omega) (by omega) (λj hj=>by
      by_cases e:j=k
      ·subst e;exact s3
      exact hpre j (by omega)) s4 M
    refine ⟨(v',1),by rw [Zbw (r:=(v',1)) hy],.inr rfl,?_⟩
    rw [s4];exact hbad s3
theorem Zhe (g:Good t){r:List Int}(h12:r.length<=100)(hN:200<=N):Zck N ⟨t⟩ r=some (ZbK t r):=by
 unfold Zck ZbK
 by_cases h1:1<=r.length
 ·by_cases h8:r.length<=8
  ·rw [Z8 (by simp;omega)]
   simp only [h1,h8,decide_true,Zk]
   obtain ⟨s,s1,s2,s3⟩:=Zrh g h12 r.length N 0 (0,0,⟨false,false,false,false,false,false,false,false,false,false,false,false⟩) (by omega) (by omega) (by omega) (λj hj=>by omega) ⟨rfl,λh=>by omega,λx hx=>by
    simp only [Nat.lt_irrefl,decide_false,Bool.false_and]
    revert x
    decide⟩ N
   unfold ZdE Zc0
   simp only [ZZ]
   rw [show ((0:Nat):Int)=0 from rfl] at s1
   rw [s1]
   simp only [ZZ]
   rcases s2 with e|e
   ·rw [e];simp only [beq_self_eq_true,Zaa,ZZ];rw [s3]
   rw [e];simp only [show ((1:Nat)==0)=false from rfl,beq_self_eq_true,Zg,Z7,Zaa,ZZ];rw [s3]
  rw [Z9 (by simp;omega)];simp [h8]
 rw [Z9 (by simp;omega)];simp [h1]
end
end Go.Sh

namespace Go.Sh
open Go Go.Eng
def mkS (p:Int):ZaL:=⟨p,0,1⟩
def perB (p:Int):Bool:=decide (1<=p)&&decide (p<=240)
def lcmL (P:List Int):Nat:=lcmP (P.map mkS)
def perU (P:List Int)(u:ZaB):Int:=P.getD u.Stream.toNat 0
theorem Zkf {p:Int}:perB p=true↔1<=p/\p<=240:=by simp [perB]
theorem Zq8 {P:List Int}(h:P.all perB=true):allV (P.map mkS)=true:=by
 unfold allV
 rw [Zp] at h ⊢
 intro s hs
 obtain ⟨p,hp,rfl⟩:=List.mem_map.1 hs
 have:=Zkf.1 (h p hp)
 rw [Z6]
 show 1<=p/\p<=960/\(0:Int)<=0/\(0:Int)<p/\(1:Int)<=1/\(1:Int)<=p
 omega
theorem ZoF {N:Nat}(hN:2000<=N){P:List Int}(hl:P.length<=1000):Ze2 N P=some (Zq2 (P.map mkS)):=by
 unfold Ze2
 have hmk:ZiP 24 (P.length:Int) (P.length:Int) (ZaL.mk 0 0 0)=some (List.replicate P.length (ZaL.mk 0 0 0)):=by
  unfold ZiP;rw [Z9 (by omega)];simp
 rw [hmk,ZZ]
 have hloop:∀ (n M k:Nat),P.length-k=n->k<=P.length->n<M->ZaY (λx:Int×List ZaL=>ZdU N P x.1 x.2) M ((k:Int),(P.map mkS).take k++List.replicate (P.length-k) (ZaL.mk 0 0 0))=some (P.map mkS):=by
  intro n
  induction n with
  | zero =>
   intro M k hn hk hM
   have:k=P.length:=by omega
   subst this
   cases M with
   | zero=>omega
   | succ M =>
    refine Zbw ?_
    simp only [ZdU]
    rw [Z8 (by simp)]
    simp [ZV]
  | succ n ih =>
   intro M k hn hk hM
   cases M with
   | zero=>omega
   | succ M =>
    have hlt:k<P.length:=by omega
    have hc:=ih M (k+1) (by omega) (by omega) (by omega)
    rw [ZcC (y:=(((k+1:Nat):Int),(P.map mkS).take (k+1)++List.replicate (P.length-(k+1)) (ZaL.mk 0 0 0))),hc]
    simp only [ZdU]
    have hlen:((P.map mkS).take k++List.replicate (P.length-k) (ZaL.mk 0 0 0)).length=P.length:=by simp;omega
    rw [Z9 (by simpa using hlt),ZiT,ZC hlt,ZZ,ZiT,ZC (by omega),ZZ,ZaO (by omega) (by omega)]
    have hset:List.set ((P.map mkS).take k++List.replicate (P.length-k) (ZaL.mk 0 0 0)) k (mkS P[k])=(P.map mkS).take (k+1)++List.replicate (P.length-(k+1)) (ZaL.mk 0 0 0):=by
     rw [ZT _ _ (by simp;omega)]
     have e1:k-((P.map mkS).take k).length=0:=by simp;omega
     rw [e1,show P.length-k=(P.length-(k+1))+1 by omega,List.replicate_succ,List.set_cons_zero,ZW (by simpa using hlt)]
     simp
    simp only [Zn]
    rw [show (ZaL.mk P[k] 0 1)=mkS P[k] from rfl,hset]
    rfl
 have hc:=hloop P.length N 0 (by omega) (by omega) (by omega)
 simp only [List.take_zero,ZQ,Nat.sub_zero] at hc
 rw [show ((0:Nat):Int)=0 from rfl] at hc
 rw [hc,ZZ,ZlL hN,ZZ]
theorem ZqT {P:List Int}(h:P.all perB=true):0<lcmL P:=ZqS (Zq9 (Zq8 h))
theorem ZpP {P:List Int}{n:Nat}:lcmL P∣n↔∀ p∈P,p.toNat∣n:=by
 unfold lcmL
 rw [Zlv]
 simp [mkS]
theorem ZmG {N:Nat}(hN:2000<=N){P:List Int}(hl:P.length<=12)(h:P.all perB=true):Ze2 N P=some (if lcmL P<=960 then ((lcmL P:Int),0) else (0,6)):=by
 rw [ZoF hN (by omega)]
 unfold Zq2
 rw [Z8 (by simp;omega),Z9 (Zq8 h)]
 rfl
theorem Zpt {N:Nat}(hN:2000<=N){P:List Int}(hl:P.length<=12)(h:P.all perB=true):ZiA N P=some (if lcmL P<=960 then (lcmL P:Int) else 0):=by
 have hp:∀ p∈P,1<=p/\p<=240:=λp hp=>Zkf.1 (List.all_eq_true.1 h p hp)
 have inner:∀ (j:Nat),1<=j->j<=1000->∀ (n M k:Nat) (b:Bool),P.length-k=n->k<=P.length->n<M->ZaY (λx:Bool×Int=>Zei N P (j:Int) x.1 x.2) M (b,(k:Int))=some (b&&(P.drop k).all (λp=>decide (p.toNat∣j))):=by
  intro j hj1 hj2 n
  induction n with
  | zero =>
   intro M k b hn hk hM
   have:k=P.length:=by omega
   subst this
   cases M with
   | zero=>omega
   | succ M=>rw [Zbw (r:=b) (by simp [Zei])];simp
  | succ n ih =>
   intro M k b hn hk hM
   cases M with
   | zero=>omega
   | succ M =>
    have hlt:k<P.length:=by omega
    have hV:=hp P[k] (List.getElem_mem hlt)
    have hiff:=Zoq (a:=(j:Int)) (d:=P[k]) (by omega) (by omega)
    simp only [Zn] at hiff
    have hc:=ih M (k+1) (b&&decide (P[k].toNat∣j)) (by omega) (by omega) (by omega)
    rw [ZcC (y:=(b&&decide (P[k].toNat∣j),((k+1:Nat):Int))),hc,Zna hlt,List.all_cons,Bool.and_assoc]
    simp only [Zei]
    rw [Z9 (by simpa using hlt)]
    cases b with
    | false=>simp only [Zg,Z7,ZZ,Bool.false_and];rw [ZaO (by omega) (by omega)];rfl
    | true =>
     simp only [Zaa,Zk]
     rw [ZiT,ZC hlt,ZZ,Zj4 (by omega),ZZ]
     by_cases hd:P[k].toNat∣j
     ·rw [Z9 (by simpa using hiff.2 hd),ZZ,ZaO (by omega) (by omega)]
      simp [hd]
     have:¬ (j:Int).tmod P[k]=0:=λe=>hd (hiff.1 e)
     rw [Z8 (by simpa using this),ZZ,ZaO (by omega) (by omega)]
     simp [hd]
 have step:∀ j:Nat,1<=j->j<=960->ZdJ N P (j:Int)=if lcmL P∣j then some (.inr (.inr (j:Int))) else some (.inl ((j+1:Nat):Int)):=by
  intro j h1 h2
  simp only [ZdJ]
  rw [Z9 (by simp;omega)]
  have:=inner j h1 (by omega) P.length N 0 true (by omega) (by omega) (by omega)
  rw [show ((0:Nat):Int)=0 from rfl] at this
  rw [this,ZZ,List.drop_zero,Zk]
  have e:(P.all (λp=>decide (p.toNat∣j))=true)↔lcmL P∣j:=by
   rw [ZpP,Zp]
   simp
  by_cases hd:lcmL P∣j
  ·rw [Z9 (e.2 hd),Z9 hd]
  rw [Z8 (λq=>hd (e.1 q)),Z8 hd,ZaO (by omega) (by omega)]
  congr 2
 have hpos:=ZqT h
 have key:∀ (n M j:Nat),961-j=n->1<=j->j<=961->n<M->(∀ i,1<=i->i<j->¬ lcmL P∣i)->∃ r,ZaY (λx:Int=>ZdJ N P x) M (j:Int)=some r/\(match r with | .inl _=>(0:Int) | .inr p=>p)=if lcmL P<=960 then (lcmL P:Int) else 0:=by
  intro n
  induction n with
  | zero =>
   intro M j hn h1 h2 hM hno
   obtain rfl:j=961:=by omega
   cases M with
   | zero=>omega
   | succ M =>
    refine ⟨.inl (),Zbw (by simp [ZdJ]),?_⟩
    rw [Z8]
    intro hle
    exact hno (lcmL P) (by omega) (by omega) (Nat.dvd_refl _)
  | succ n ih =>
   intro M j hn h1 h2 hM hno
   cases M with
   | zero=>omega
   | succ M =>
    by_cases hd:lcmL P∣j
    ·refine ⟨.inr (j:Int),Zbw (by rw [step j h1 (by omega),Z9 hd]),?_⟩
     have hle:=Nat.le_of_dvd (by omega) hd
     have:lcmL P=j:=by
      by_cases e:lcmL P=j
      ·exact e
      exact absurd (Nat.dvd_refl _) (hno (lcmL P) (by omega) (by omega))
     rw [Z9 (by omega),this]
    rw [ZcC (by rw [step j h1 (by omega),Z8 hd])]
    refine ih M (j+1) (by omega) (by omega) (by omega) (by omega) λi hi1 hi2=>?_
    by_cases e:i=j
    ·subst e;exact hd
    exact hno i hi1 (by omega)
 unfold ZiA
 obtain ⟨r,h1,h2⟩:=key 960 N 1 (by omega) (by omega) (by omega) (by omega) (λi h1 h2=>by omega)
 rw [show ((1:Nat):Int)=1 from rfl] at h1
 rw [h1,ZZ,← h2]
 cases r<;>rfl
theorem Zk1 {α ρ:Type}{l:List α}{p:α->Bool}{body:Int->Option (Int⊕ρ)}{bad fin:ρ}(hstep:∀ (k:Nat) (h:k<l.length),body (k:Int)=if p l[k]=true then some (.inl ((k+1:Nat):Int)) else some (.inr bad))
  (hend:body (l.length:Int)=some (.inr fin)) {N:Nat} (hN:l.length<N):ZaY body N 0=some (if l.all p=true then fin else bad):=by
 have:=ZpR hstep hend l.length N 0 (by omega) (by omega) hN
 rw [show ((0:Nat):Int)=0 from rfl] at this
 rw [this,List.drop_zero]
theorem ZoR {P:List Int}{u:ZaB}(h0:0<=u.Stream)(h1:u.Stream<(P.length:Int)):idx P u.Stream=some (perU P u):=ZcB 0 h0 h1
end Go.Sh
namespace Go.Sh
open Go Go.Eng
theorem Zsd {P:List Int}{u:ZaB}(h0:0<=u.Stream)(h1:u.Stream<(P.length:Int)):perU P u∈P:=by
 unfold perU
 rw [Zd1 (by omega)]
 exact List.getElem_mem _
def u0:ZaB:=⟨0,0,0,0⟩
end Go.Sh

namespace Go.Sh
open Go Go.Eng
theorem ZiX {α:Type}{b:Nat}{l:List α}{x:α}(hl:l.length<=1000)(hb:b<=1000):appI b l [x]=some (l++[x]):=by
 refine Zoe ?_ (by omega)
 simp;omega
set_option maxRecDepth 100000 in
theorem Zrf (n:Nat):ZgJ (n+300)=some true:=by kernel_rfl
theorem ZtB {N:Nat}(hN:2000<=N):ZgJ N=some true:=by
 obtain ⟨n,rfl⟩:∃ n,N=n+300:=⟨N-300,by omega⟩
 exact Zrf n
end Go.Sh
namespace Go.Sh
open Go Go.Eng
theorem ZrE {ρ:Type}{n:Nat}{p:Nat->Bool}{body:Int->Option (Int⊕ρ)}{bad fin:ρ}(hstep:∀ k:Nat,k<n->body (k:Int)=if p k=true then some (.inl ((k+1:Nat):Int)) else some (.inr bad))
  (hend:body (n:Int)=some (.inr fin)):∀ (m N k:Nat),n-k=m->k<=n->m<N->ZaY body N (k:Int)=some (if (List.range' k m).all p then fin else bad):=by
 intro m
 induction m with
 | zero =>
  intro N k h1 h2 h3
  obtain rfl:k=n:=by omega
  cases N with
  | zero=>omega
  | succ N=>rw [Zbw hend];rfl
 | succ m ih =>
  intro N k h1 h2 h3
  cases N with
  | zero=>omega
  | succ N =>
   rw [ZR,List.all_cons]
   by_cases hp:p k=true
   ·rw [ZcC (by rw [hstep k (by omega),Z9 hp]),ih N (k+1) (by omega) (by omega) (by omega),hp,Zk]
   rw [Zbw (by rw [hstep k (by omega),Z8 hp])]
   simp [hp]
section
variable {N:Nat} {t:Zag}
theorem ZJs {b:Nat}{c:Int}(h0:0<=c)(h1:c<=1000)(hb:b<=1000):ZiP b 0 c (0:Int)=some []:=by
 unfold ZiP
 have:c*(b:Int)<=1000*1000:=Int.mul_le_mul h1 (by omega) (by omega) (by omega)
 rw [Z9 ⟨Int.le_refl _,h0,by omega,by omega⟩]
 rfl
theorem ZcR {r:List Int}(h:ZbK t r=true):1<=r.length/\r.length<=8/\∀ k,k<r.length->Zc9 t (at0 r k)=true:=by
 simp only [ZbK,Ze,Z6,Zb9] at h
 exact ⟨h.1,h.2.1,λk hk=>by have:=h.2.2 k hk;simp only [okAt,Ze] at this;exact this.1⟩
theorem Zhf (g:Good t){r:List Int}(hv:ZbK t r=true)(hN:200<=N):ZcH N ⟨t⟩ r=some (Zbm t r):=by
 have hL:t.Links.length<=1000:=by have:=g.l24;omega
 obtain ⟨h1,h8,hp⟩:=ZcR hv
 have hlen:=Zey (t:=t) r
 unfold ZcH
 rw [ZaO (by omega) (by omega),ZJs (by omega) (by omega) (by omega),ZZ]
 unfold ZdE Zc0
 simp only [ZZ]
 have:=Zd7 (n:=r.length) (f:=λb k=>(Zbm t r).take (k+2))
  (body:=λx:Int×(List Int)=>Za4 N (λ(s:(List Int)) (x13:Int) (x14:ZbU)=>Ze5 (λv:(List Int)=>ZbM N v x13 x14) s) r ⟨t⟩ x.1 x.2) (fin:=λb=>b) (λk b=>b=if k=0 then [] else (Zbm t r).take (k+1))
  (λk b hk hb=>by
   show Za4 N _ r ⟨t⟩ k b=_
   rw [Zm1 hL _ _ hk (by omega),Z9 (hp k hk)]
   have:ZbM N b (k:Int) ⟨at0 r k,frm t (at0 r k),too t (at0 r k)⟩=some ((Zbm t r).take (k+2)):=by
    unfold ZbM
    subst hb
    by_cases hk0:k=0
    ·subst hk0
     rw [Z9 (by simp),Z9 rfl,Zhb (by simp) (by omega),ZZ,ZZ,Zhb (by simp) (by omega),ZZ,← Zhj hk]
     unfold nd Zbm
     obtain ⟨a,l,rfl⟩:∃ a l,r=a::l:=by cases r with
      | nil=>simp at hk
      | cons a l=>exact ⟨a,l,rfl⟩
     simp
    rw [Z8 (by simp;omega),Z8 hk0,ZZ,Zhb (by simp;omega) (by omega),ZZ,← Zhj hk,Zio (k:=k+1) (by omega)]
   simp only [Ze5,this,Z1,ZZ]
   rfl)
  (λk b hk hb=>by rw [Z8 (by omega)])
  (λb hb=>ZqW _ _) (N:=N) (by omega) (b0:=[]) (by rw [Z9 rfl])
 rw [this.1,ZZ,ZZ,this.2,Z8 (by omega),ZV (by omega)]
def errR (t:Zag)(r:List Int):Int:=if Ze8 t then (if ZbK t r then 0 else 310) else 260
theorem ZfO {r:List Int}(h12:r.length<=100)(hN:200<=N):Zef N t r=some (errR t r):=by
 unfold Zef errR
 rw [Zgg (by omega),ZZ]
 cases hT:Ze8 t with
 | false=>rfl
 | true =>
  simp only [Zaa,Z5,Zg,Z7]
  rw [Zhe (ZbQ.1 hT) h12 hN,ZZ]
  cases ZbK t r<;>rfl
theorem ZiU {r:List Int}:errR t r=0↔Ze8 t=true/\ZbK t r=true:=by
 unfold errR
 cases Ze8 t<;>cases ZbK t r<;>simp
section
variable {r:List Int}
theorem Zmv (h12:r.length<=100)(hN:200<=N)(he:errR t r≠0):Zee N t r=some ([],errR t r):=by
 unfold Zee Zd4
 rw [ZfO h12 hN]
 simp [he]
theorem Znw (h12:r.length<=100)(hN:200<=N)(he:errR t r≠0):Zep N t r=some (0,0,errR t r):=by
 unfold Zep
 rw [Zmv h12 hN he]
 simp [he]
theorem Zmu (h12:r.length<=100)(hN:200<=N)(he:errR t r=0):Zee N t r=some (Zbm t r,0):=by
 obtain ⟨hT,hv⟩:=ZiU.1 he
 unfold Zee Zd4 Zfa
 rw [ZfO h12 hN,he]
 simp only [ZZ,Z5,Zg,Z7]
 rw [Zhf (ZbQ.1 hT) hv hN]
 rfl
theorem Znv (h12:r.length<=100)(hN:200<=N)(he:errR t r=0):Zep N t r=some (nd t r 0,nd t r r.length,0):=by
 have hlen:=Zey (t:=t) r
 unfold Zep
 rw [Zmu h12 hN he]
 simp only [ZZ,Z5,Zg,Z7]
 rw [show (0:Int)=((0:Nat):Int) from rfl,ZcT (show 0<(Zbm t r).length by omega),ZaO (by omega) (by omega),show ((Zbm t r).length:Int)-1=((r.length:Nat):Int) by omega,ZcT (by omega),ZpJ,ZpJ]
 rfl
end
end
end Go.Sh
namespace Go.Sh
open Go Go.Eng
section
variable {N:Nat} {t:Zag}
def Zp3 (a b:List Int):Bool:=allB a.length λi=>allB b.length λk => !(w64 (Int.tdiv (at0 a i) 2)==w64 (Int.tdiv (at0 b k) 2))
theorem Zmt {a b:List Int}(ha:a.length<=100)(hb:b.length<=100)(hN:200<=N):ZfW N a b=some (!Zp3 a b):=by
 unfold ZfW Zp3
 have h2:∀ i,i<a.length->ZaY (λx:Int=>Zc6 N b (at0 a i) x) N 0=some (if allB b.length (λk => !(w64 (Int.tdiv (at0 a i) 2)==w64 (Int.tdiv (at0 b k) 2))) then .inl () else .inr true):=λi hi =>
  ZbD (n:=b.length) (λk hk=>by
   unfold Zc6
   rw [Z9 (by simp;omega),ZcT hk,ZZ,← ZjS hk,ZaW (by omega)]
   cases (w64 (Int.tdiv (at0 a i) 2)==w64 (Int.tdiv (at0 b k) 2))<;>rfl) (by unfold Zc6;rw [Z8 (by simp)]) (by omega)
 have:=ZbD (n:=a.length) (p:=λi=>allB b.length λk => !(w64 (Int.tdiv (at0 a i) 2)==w64 (Int.tdiv (at0 b k) 2))) (body:=λx:Int=>Zc7 N a b x) (bad:=.inr true) (fin:=.inl ()) (λi hi=>by
  unfold Zc7
  rw [Z9 (by simp;omega),ZcT hi,ZZ,← ZjS hi,h2 i hi,ZaW (by omega)]
  cases allB b.length (λk => !(w64 (Int.tdiv (at0 a i) 2)==w64 (Int.tdiv (at0 b k) 2)))<;>rfl) (by unfold Zc7;rw [Z8 (by simp)]) (N:=N) (by omega)
 rw [this]
 cases allB a.length (λi=>allB b.length λk => !(w64 (Int.tdiv (at0 a i) 2)==w64 (Int.tdiv (at0 b k) 2)))<;>rfl
def ZjC (A B:List Int):Bool:=(List.range' 1 (A.length-2)).all λi => !B.contains (at0 A i)
theorem Zid {A B:List Int}(h1:2<=A.length)(hA:A.length<=100)(hB:B.length<=100)(hN:200<=N):Zeu N A B=some (!ZjC A B):=by
 unfold Zeu ZjC
 have:=ZrE (n:=A.length-1) (p:=λi => !B.contains (at0 A i)) (body:=λx:Int=>ZcJ N A B x) (bad:=.inr true) (fin:=.inl ()) (λi hi=>by
  unfold ZcJ
  rw [Z9 (by rw [ZaO (by omega) (by omega)];simp;omega),ZcT (by omega),ZZ,← ZjS (by omega),ZhV (by omega) (by omega),ZZ,ZaW (by omega)]
  cases B.contains (at0 A i)<;>rfl) (by unfold ZcJ;rw [Z8 (by rw [ZaO (by omega) (by omega)];simp;omega)]) (A.length-2) N 1 (by omega) (by omega) (by omega)
 rw [show ((1:Nat):Int)=1 from rfl] at this
 rw [this]
 cases (List.range' 1 (A.length-2)).all (λi => !B.contains (at0 A i))<;>rfl
theorem Zjo (g:Good t){a b:List Int}(hva:ZbK t a=true)(hvb:ZbK t b=true)(hN:200<=N):Zdb N ⟨t⟩ a b=some (!ZjC (Zbm t a) (Zbm t b)):=by
 obtain ⟨a1,a8,_⟩:=ZcR hva
 obtain ⟨b1,b8,_⟩:=ZcR hvb
 have hla:=Zey (t:=t) a
 have hlb:=Zey (t:=t) b
 unfold Zdb ZjC
 rw [Zhf g hva hN,ZZ,Zhf g hvb hN,ZZ]
 generalize hA:Zbm t a=A at *
 generalize hB:Zbm t b=B at *
 have hsub:subI A 1 (w64 ((A.length:Int)-1))=some ((A.take (A.length-1)).drop 1):=by
  rw [ZaO (by omega) (by omega)]
  unfold subI
  rw [Z9 ⟨by omega,by omega,by omega⟩,show ((A.length:Int)-1).toNat=A.length-1 by omega]
  rfl
 rw [hsub,ZZ]
 have hil:((A.take (A.length-1)).drop 1).length=A.length-2:=by simp;omega
 have:=ZbD (n:=A.length-2) (p:=λi => !B.contains (at0 A (i+1))) (body:=λx:Int=>ZbY N B ((A.take (A.length-1)).drop 1) x) (bad:=.inr true) (fin:=.inl ()) (λi hi=>by
  unfold ZbY
  rw [Z9 (by rw [hil];simp;omega),ZcT (by omega),ZZ]
  have e:((A.take (A.length-1)).drop 1)[i]'(by omega)=at0 A (i+1):=by
   rw [ZjS (by omega),List.getElem_drop,List.getElem_take]
   congr 1;omega
  rw [e,ZgA (by omega) (by omega),ZZ,ZaW (by omega)]
  cases B.contains (at0 A (i+1))<;>rfl) (by unfold ZbY;rw [Z8 (by rw [hil];simp)]) (N:=N) (by omega)
 rw [this]
 have e2:(List.range' 1 (A.length-2)).all (λi => !B.contains (at0 A i))=allB (A.length-2) (λi => !B.contains (at0 A (i+1))):=by
  unfold allB
  rw [Zf,Zp,Zp]
  constructor
  ·intro h i hi
   exact h (i+1) (by simp only [ZO] at hi;simp only [List.mem_range'_1];omega)
  intro h i hi
  simp only [List.mem_range'_1] at hi
  have:=h (i-1) (by simp only [ZO];omega)
  rwa [show i-1+1=i by omega] at this
 rw [e2]
 cases allB (A.length-2) (λi => !B.contains (at0 A (i+1)))<;>rfl
def Znm (t:Zag)(a b:List Int):Bool:=Zp3 a b&&(ZjC (Zbm t a) (Zbm t b)&&ZjC (Zbm t b) (Zbm t a))
theorem Zjv (g:Good t){a b:List Int}(hva:ZbK t a=true)(hvb:ZbK t b=true)(hN:200<=N):ZdQ N t a b=some (Znm t a b):=by
 obtain ⟨a1,a8,pa⟩:=ZcR hva
 obtain ⟨b1,b8,pb⟩:=ZcR hvb
 have hla:=Zey (t:=t) a
 have hlb:=Zey (t:=t) b
 have hL:t.Links.length<=1000:=by have:=g.l24;omega
 unfold ZdQ Znm
 have h2:∀ i:Nat,i<a.length->ZaY (λx:Int=>Zds N a b (i:Int) x) N 0=some (if allB b.length (λk => !(w64 (Int.tdiv (at0 a i) 2)==w64 (Int.tdiv (at0 b k) 2))) then .inl () else .inr false):=λi hi =>
  ZbD (n:=b.length) (λk hk=>by
   unfold Zds
   rw [Z9 (by simp;omega),ZcT hi,ZZ,ZcT hk,ZZ,← ZjS hi,← ZjS hk,ZaW (by omega)]
   cases (w64 (Int.tdiv (at0 a i) 2)==w64 (Int.tdiv (at0 b k) 2))<;>rfl) (by unfold Zds;rw [Z8 (by simp)]) (by omega)
 have:=ZbD (n:=a.length) (p:=λi=>allB b.length λk => !(w64 (Int.tdiv (at0 a i) 2)==w64 (Int.tdiv (at0 b k) 2))) (body:=λx:Int=>Zdt N a b x) (bad:=.inr false) (fin:=.inl ()) (λi hi=>by
  unfold Zdt
  rw [Z9 (by simp;omega),h2 i hi,ZaW (by omega)]
  cases allB b.length (λk => !(w64 (Int.tdiv (at0 a i) 2)==w64 (Int.tdiv (at0 b k) 2)))<;>rfl) (by unfold Zdt;rw [Z8 (by simp)]) (N:=N) (by omega)
 rw [this]
 unfold Zp3
 cases allB a.length (λi=>allB b.length λk => !(w64 (Int.tdiv (at0 a i) 2)==w64 (Int.tdiv (at0 b k) 2))) with
 | false=>rfl
 | true =>
  simp only [Zaa,ZZ,Zk]
  rw [Zhg hL a1 (by omega) pa hN,Zhg hL b1 (by omega) pb hN]
  simp only [ZZ]
  rw [Zid (by omega) (by omega) (by omega) hN,Zid (by omega) (by omega) (by omega) hN]
  cases ZjC (Zbm t a) (Zbm t b)<;>cases ZjC (Zbm t b) (Zbm t a)<;>rfl
theorem Znz {a b:List Int}(ha:a.length<=100)(hb:b.length<=100)(hN:200<=N) :
  Zeg N t a b=some (if errR t a=0 then (if ZbK t b then (Znm t a b,0) else (false,310)) else (false,errR t a)):=by
 unfold Zeg Zd3
 rw [ZfO ha hN,ZZ]
 by_cases he:errR t a=0
 ·obtain ⟨hT,hva⟩:=ZiU.1 he
  have g:=ZbQ.1 hT
  rw [Z9 he,he]
  simp only [Z5,Zg,Z7]
  unfold Zeq
  rw [Zhe g hb hN,ZZ]
  cases hvb:ZbK t b with
  | false=>rfl
  | true =>
   simp only [Zi,Zg,Z7,Zaa]
   rw [Zmt ha hb hN,Zjo g hva hvb hN,Zjo g hvb hva hN]
   unfold Znm
   cases Zp3 a b<;>cases ZjC (Zbm t a) (Zbm t b)<;>cases ZjC (Zbm t b) (Zbm t a)<;>rfl
 rw [Z8 he]
 have:(errR t a != 0)=true:=by simpa using he
 rw [this]
 rfl
end
end Go.Sh
namespace Go.Sh
open Go Go.Eng
section
variable {N:Nat} {t:Zag}
theorem ZiE (g:Good t)(r:List Int)(hN:200<=N):Zdr N t r=some (ZbK t r):=by
 by_cases h:r.length<=100
 ·exact ZnF g h hN
 unfold Zdr ZbK
 rw [Z9 (by simp;omega)]
 have:decide (r.length<=8)=false:=by simp;omega
 rw [this];simp
theorem Zix (g:Good t)(r:List Int)(hN:200<=N):Zck N ⟨t⟩ r=some (ZbK t r):=by
 by_cases h:r.length<=100
 ·exact Zhe g h hN
 unfold Zck ZbK
 rw [Z9 (by simp;omega)]
 have:decide (r.length<=8)=false:=by simp;omega
 rw [this];simp
theorem Zkv {r:List Int}(h:ZbK t r=true):r.length<=100:=by have:=ZcR h;omega
theorem ZgD (r:List Int)(hN:200<=N):Zef N t r=some (errR t r):=by
 by_cases h:r.length<=100
 ·exact ZfO h hN
 unfold Zef errR
 rw [Zgg (by omega),ZZ]
 cases hT:Ze8 t with
 | false=>rfl
 | true =>
  simp only [Zaa,Z5,Zg,Z7]
  rw [Zix (ZbQ.1 hT) r hN,ZZ]
  cases ZbK t r<;>rfl
theorem Znx (r:List Int)(hN:200<=N):Zep N t r=some (if errR t r=0 then (nd t r 0,nd t r r.length,0) else (0,0,errR t r)):=by
 by_cases he:errR t r=0
 ·rw [Z9 he];exact Znv (Zkv (ZiU.1 he).2) hN he
 rw [Z8 he]
 by_cases h:r.length<=100
 ·exact Znw h hN he
 have hne:(errR t r != 0)=true:=by simpa using he
 unfold Zep Zee Zd4
 rw [ZgD r hN]
 simp only [ZZ,hne,Zaa]
theorem Zmw (a b:List Int)(hN:200<=N) :
  Zeg N t a b=some (if errR t a=0 then (if ZbK t b then (Znm t a b,0) else (false,310)) else (false,errR t a)):=by
 by_cases ha:a.length<=100
 ·by_cases hb:b.length<=100
  ·exact Znz ha hb hN
  have hvb:ZbK t b=false:=by
   cases h:ZbK t b with
   | false=>rfl
   | true=>exact absurd (Zkv h) hb
  unfold Zeg Zd3
  rw [ZgD a hN,ZZ]
  by_cases he:errR t a=0
  ·rw [Z9 he,he]
   simp only [Z5,Zg,Z7]
   unfold Zeq
   rw [Zix (ZbQ.1 (ZiU.1 he).1) b hN,hvb]
   rfl
  rw [Z8 he]
  have:(errR t a != 0)=true:=by simpa using he
  rw [this]
  rfl
 have hva:ZbK t a=false:=by
  cases h:ZbK t a with
  | false=>rfl
  | true=>exact absurd (Zkv h) ha
 have he:errR t a≠0:=λe=>by have:=(ZiU.1 e).2;rw [hva] at this;cases this
 unfold Zeg Zd3
 rw [ZgD a hN,ZZ,Z8 he]
 have:(errR t a != 0)=true:=by simpa using he
 rw [this]
 rfl
def inB (v l h:Int):Bool:=decide (v≥l)&&decide (v<=h)
def ZeZ (u:ZaE):Bool:=inB u.Grid 1 10000&&(inB u.Slack 0 1000&&(inB u.Proc 0 10000&&inB u.Cap 1542 65536))
def Zns (t:Zag)(n:Int):Bool:=Ze4 t n&&stB t n
def Zn8 (s:Zah):Bool :=
 if s.Class==7 then inB s.Period 1 240&&((s.Bucket.Burst==0)&&(s.Bucket.Rate==0))
 else if s.Class==6 then (s.Period==0)&&(inB s.Bucket.Burst s.Size 1048576&&inB s.Bucket.Rate 1 2097152) else false
def Zgn (t:Zag)(s:Zah)(r:List Int):Bool:=ZbK t r&&((nd t r 0==s.Talker)&&(nd t r r.length==s.Listener))
def Zqj (t:Zag)(s:Zah):Bool:=decide (s.Routes.length<2)||Znm t (s.Routes.getD 0 []) (s.Routes.getD 1 [])
def Zqr (t:Zag)(s:Zah):Bool :=
 inB s.Id 1 4095&&(Zns t s.Talker&&(Zns t s.Listener&&((s.Talker != s.Listener)&&(inB s.Size 84 1542&&inB s.Deadline 1 1099511627776))))
def lenB (s:Zah):Bool:=decide (1<=s.Routes.length)&&decide (s.Routes.length<=2)
def ZbI (t:Zag)(s:Zah):Bool:=Zqr t s&&(Zn8 s&&(lenB s&&(s.Routes.all (Zgn t s)&&Zqj t s)))
theorem ZdA (v l h:Int):Zbu N v l h=some (inB v l h):=rfl
theorem ZhS (v l h:Int):Zdi N v l h=some (inB v l h):=rfl
theorem Zgc (u:ZaE):ZcZ N u=some (if ZeZ u then 0 else 320):=by
 unfold ZcZ ZeZ
 simp only [ZdA,ZZ]
 cases inB u.Grid 1 10000<;>cases inB u.Slack 0 1000<;>cases inB u.Proc 0 10000<;>cases inB u.Cap 1542 65536<;>rfl
theorem ZnE (u:ZaE):ZgE N u=some (ZeZ u):=by
 unfold ZgE ZeZ
 simp only [ZhS,ZZ]
 cases inB u.Grid 1 10000<;>cases inB u.Slack 0 1000<;>cases inB u.Proc 0 10000<;>cases inB u.Cap 1542 65536<;>rfl
theorem ZqV (g:Good t)(n:Int):inB n 0 (w64 (t.Nodes-1))=Ze4 t n:=by
 rw [ZaO (by have:=g.n2;omega) (by have:=g.n12;omega)]
 unfold inB Ze4
 congr 1
 exact decide_eq_decide.2 ⟨λh=>by omega,λh=>by omega⟩
theorem ZkH (g:Good t)(n:Int):Zd2 N t n=some (Zns t n):=by
 unfold Zd2 Zns
 simp only [ZdA,ZqV g,ZZ]
 cases h:Ze4 t n with
 | false=>rfl
 | true=>simp only [Zaa,Zf9 g.st h,ZZ,Zk]
theorem ZlP (g:Good t)(n:Int):Zdh N t n=some (Zns t n):=by
 unfold Zdh Zns
 simp only [ZhS,ZqV g,ZZ]
 cases h:Ze4 t n with
 | false=>rfl
 | true=>simp only [Zaa,Zf9 g.st h,ZZ,Zk]
theorem Zmi (g:Good t)(s:Zah)(r:List Int)(hN:200<=N):ZfU N t r s.Talker s.Listener=some (Zgn t s r):=by
 unfold ZfU Zgn
 rw [Znx r hN,ZZ]
 have hT:=ZbQ.2 g
 by_cases he:errR t r=0
 ·rw [Z9 he,(ZiU.1 he).2];rfl
 rw [Z8 he]
 have hv:ZbK t r=false:=by
  cases h:ZbK t r with
  | false=>rfl
  | true=>exact absurd (ZiU.2 ⟨hT,h⟩) he
 have:(errR t r==0)=false:=by simpa using he
 simp only [this,hv,Bool.false_and]
theorem Zkr {α:Type}(l:List α)(d:α)(p:α->Bool):allB l.length (λk=>p (l.getD k d))=l.all p:=by
 rw [Zf,Zb9,Zp]
 constructor
 ·intro h x hx
  obtain ⟨k,hk,rfl⟩:=List.getElem_of_mem hx
  have:=h k hk
  rwa [Zd1 hk] at this
 intro h k hk
 rw [Zd1 hk]
 exact h _ (List.getElem_mem hk)
theorem Ztd {s:Zah}:inB ((List.length s.Routes:Nat):Int) 1 2=lenB s:=by
 unfold inB lenB
 congr 1<;>exact decide_eq_decide.2 ⟨λh=>by omega,λh=>by omega⟩
theorem ZkA (g:Good t){s:Zah}(hl:lenB s=true)(hN:200<=N):ZeD N s t=some (s.Routes.all (Zgn t s)):=by
 simp only [lenB,Ze,Z6] at hl
 unfold ZeD
 have:=ZbD (n:=s.Routes.length) (p:=λk=>Zgn t s (s.Routes.getD k [])) (body:=λx:Int=>Zcp N s t x) (bad:=.inr false) (fin:=.inl ()) (λk hk=>by
  unfold Zcp
  rw [Z9 (by simp;omega),ZcT hk,ZZ,Zd1 hk,Zmi g s _ hN,ZZ,ZaW (by omega)]
  cases Zgn t s s.Routes[k]<;>rfl) (by unfold Zcp;rw [Z8 (by simp)]) (N:=N) (by omega)
 rw [this,Zkr s.Routes [] (Zgn t s)]
 cases s.Routes.all (Zgn t s)<;>rfl
theorem Zhw {s:Zah}(h:s.Routes.all (Zgn t s)=true){k:Nat}(hk:k<s.Routes.length):ZbK t (s.Routes.getD k [])=true/\nd t (s.Routes.getD k []) 0=s.Talker/\nd t (s.Routes.getD k []) (s.Routes.getD k []).length=s.Listener:=by
 have:=List.all_eq_true.1 h _ (List.getElem_mem hk)
 rw [Zd1 hk]
 simpa only [Zgn,Ze,beq_iff_eq] using this
theorem Zky (g:Good t){s:Zah}(hl:lenB s=true)(hr:s.Routes.all (Zgn t s)=true)(hN:200<=N):ZeC N s t=some (Zqj t s):=by
 simp only [lenB,Ze,Z6] at hl
 unfold ZeC Zqj
 by_cases h2:s.Routes.length<2
 ·rw [Z9 (by simp;omega)];simp [h2]
 rw [Z8 (by simp;omega),show (0:Int)=((0:Nat):Int) from rfl,show (1:Int)=((1:Nat):Int) from rfl,ZcT (by omega),ZcT (by omega)]
 simp only [ZZ]
 have e0:=Zhw hr (k:=0) (by omega)
 have e1:=Zhw hr (k:=1) (by omega)
 rw [Zd1 (by omega)] at e0 e1
 rw [Zmw _ _ hN,Z9 (ZiU.2 ⟨ZbQ.2 g,e0.1⟩),e1.1,ZZ,Zd1 (by omega),Zd1 (by omega)]
 simp [h2]
theorem Ziq (g:Good t)(s:Zah)(hN:200<=N):ZeX N t s=some (ZbI t s):=by
 unfold ZeX ZfM ZfL ZfK ZfJ ZfI
 simp only [ZdA,ZZ,ZkH g,Ztd]
 unfold ZbI Zqr
 cases inB s.Id 1 4095 with
 | false=>rfl
 | true =>
 cases Zns t s.Talker with
 | false=>rfl
 | true =>
 cases Zns t s.Listener with
 | false=>rfl
 | true =>
 cases h4:(s.Talker != s.Listener) with
 | false=>simp
 | true =>
 cases h5:inB s.Size 84 1542 with
 | false=>simp
 | true =>
 cases inB s.Deadline 1 1099511627776 with
 | false=>simp
 | true =>
 have hc:ZeE N s=some (Zn8 s):=by
  unfold ZeE Zn8
  simp only [ZdA,ZZ]
  by_cases c7:(s.Class==7)=true
  ·rw [Z9 c7,Z9 c7]
   cases inB s.Period 1 240<;>simp
  rw [Z8 c7,Z8 c7]
  by_cases c6:(s.Class==6)=true
  ·rw [Z9 c6,Z9 c6]
   cases s.Period==0 with
   | false=>rfl
   | true =>
    simp only [Zaa]
    unfold Zha ZdH
    simp only [ZZ]
    simp only [inB,Ze,Z6] at h5
    unfold inB
    by_cases q1:s.Bucket.Burst≥s.Size
    ·have q2:(1:Int)<=s.Bucket.Burst:=by omega
     by_cases q3:s.Bucket.Burst<=1048576<;>by_cases q4:(1:Int)<=s.Bucket.Rate<;>by_cases q5:s.Bucket.Rate<=2097152<;>simp [q1,q2,q3,q4,q5,ge_iff_le]
    by_cases q2:(1:Int)<=s.Bucket.Burst<;>by_cases q3:s.Bucket.Burst<=1048576<;>by_cases q4:(1:Int)<=s.Bucket.Rate<;>by_cases q5:s.Bucket.Rate<=2097152<;>simp [q1,q2,q3,q4,q5,ge_iff_le]
  rw [Z8 c6,Z8 c6]
 rw [hc]
 cases Zn8 s with
 | false=>simp
 | true =>
 cases hl:lenB s with
 | false=>simp
 | true =>
 rw [ZkA g hl hN]
 cases hr:s.Routes.all (Zgn t s) with
 | false=>simp
 | true =>
 rw [Zky g hl hr hN]
 cases Zqj t s<;>simp
end
end Go.Sh

namespace Go.Sh
open Go Go.Eng
theorem Zqk {κ υ:Type}[DecidableEq κ](l:List (κ×υ))(x y:κ)(v z:υ):Zhk (Zed l x v) y z=if y=x then v else Zhk l y z:=by
 induction l with
 | nil =>
  unfold Zhk ZpK
  simp only [Zed,Zu,List.find?_nil]
  by_cases e:x=y
  ·subst e;simp
  simp [e,Ne.symm e]
 | cons p r ih =>
  unfold Zhk ZpK at ih ⊢
  simp only [Zed]
  by_cases e:p.1=x
  ·subst e
   simp only [Zaa,Zu]
   by_cases e:p.1=y
   ·subst e;simp
   simp [e,Ne.symm e]
  simp only [e,Z7,Zu]
  by_cases e2:p.1=y
  ·subst e2;simp [e]
  simp only [e2,decide_false]
  exact ih
structure ZiZ (u:ZaE):Prop where
 g1:1<=u.Grid
 g2:u.Grid<=10000
 s1:0<=u.Slack
 s2:u.Slack<=1000
 p1:0<=u.Proc
 p2:u.Proc<=10000
theorem ZdC {u:ZaE}(h:ZeZ u=true):ZiZ u:=by
 simp only [ZeZ,inB,Ze,Z6] at h
 obtain ⟨⟨a,b⟩,⟨c,d⟩,⟨e,f⟩,_⟩:=h
 exact ⟨a,b,c,d,e,f⟩
def Zbq (t:Zag)(u:ZaE)(h:ZaQ):Int:=h.Open+h.Long+(plk t h.Port).Delay+u.Proc
def hop0 (t:Zag)(s:Zah)(r:List Int):ZaQ:=⟨at0 r 0,0,0,0,s.Size*(plk t (at0 r 0)).Per⟩
def Zne (u:ZaE)(x:Int):Int:=(x+u.Grid-1)/u.Grid*u.Grid
def hopN (t:Zag)(u:ZaE)(s:Zah)(h:ZaQ)(p:Int):ZaQ :=
 ⟨p,Zbq t u h-2*u.Slack,Zbq t u h+2*u.Slack,Zne u (Zbq t u h+2*u.Slack),s.Size*(plk t p).Per⟩
def ZaU (t:Zag)(u:ZaE)(s:Zah)(r:List Int):Nat->ZaQ
 | 0=>hop0 t s r
 | k+1=>hopN t u s (ZaU t u s r k) (at0 r (k+1))
theorem ZoZ {u:ZaE}(h:ZiZ u){x:Int}(hx:0<=x):x<=Zne u x/\Zne u x<x+u.Grid/\Zne u x%u.Grid=0:=by
 unfold Zne
 have hg:=h.g1
 have e:=Int.mul_ediv_add_emod (x+u.Grid-1) u.Grid
 have e1:=Int.emod_nonneg (x+u.Grid-1) (show u.Grid≠0 by omega)
 have e2:=Int.emod_lt_of_pos (x+u.Grid-1) (show 0<u.Grid by omega)
 rw [Int.mul_comm] at e
 refine ⟨by omega,by omega,?_⟩
 exact Int.mul_emod_left _ _
section
variable {N:Nat} {t:Zag} {u:ZaE} {s:Zah}
theorem Zgt (g:Good t){p:Int}(hp:Zc9 t p=true):1<=(plk t p).Per/\(plk t p).Per<=1000/\0<=(plk t p).Delay/\(plk t p).Delay<=10000:=by
 obtain ⟨h1,h2⟩:=Zsc hp
 have:=(g.links (Int.tdiv p 2).toNat (by omega)).1
 simp only [Zfj,Ze,Z6] at this
 exact ⟨this.2.2.2.2.1,this.2.2.2.2.2.1,this.2.2.2.2.2.2.1,this.2.2.2.2.2.2.2⟩
def ZjD (s:Zah):Prop:=84<=s.Size/\s.Size<=1542
theorem ZmT (g:Good t)(hs:ZjD s){p:Int}(hp:Zc9 t p=true):84<=s.Size*(plk t p).Per/\s.Size*(plk t p).Per<=1542000:=by
 obtain ⟨h1,h2,_,_⟩:=Zgt g hp
 obtain ⟨a,b⟩:=hs
 have c:s.Size*1<=s.Size*(plk t p).Per:=Int.mul_le_mul_of_nonneg_left h1 (by omega)
 have d:s.Size*(plk t p).Per<=s.Size*1000:=Int.mul_le_mul_of_nonneg_left h2 (by omega)
 omega
structure HB (t:Zag) (k:Nat) (h:ZaQ):Prop where
 port:Zc9 t h.Port=true
 long1:84<=h.Long
 long2:h.Long<=1542000
 op1:0<=h.Open
 op2:h.Open<=1600000*(k:Int)
theorem HB.told (g:Good t)(hu:ZiZ u){k:Nat}{h:ZaQ}(hb:HB t k h):h.Open+84<=Zbq t u h/\Zbq t u h<=1600000*(k:Int)+1562000/\h.Open+h.Long<=Zbq t u h:=by
 obtain ⟨h1,h2,h3,h4,h5⟩:=hb
 obtain ⟨_,_,d1,d2⟩:=Zgt g h1
 have:=hu.p1;have:=hu.p2
 unfold Zbq
 omega
theorem ZrG (k:Nat)(r:List Int):(ZaU t u s r k).Port=at0 r k:=by cases k<;>rfl
theorem ZrH (k:Nat)(r:List Int):(ZaU t u s r k).Long=s.Size*(plk t (at0 r k)).Per:=by cases k<;>rfl
theorem Zgo (g:Good t)(hu:ZiZ u)(hs:ZjD s){r:List Int}(hp:∀ k,k<r.length->Zc9 t (at0 r k)=true):∀ k,k<r.length->HB t k (ZaU t u s r k)
 | 0,hk=>by
  have:=ZmT g hs (hp 0 hk)
  exact ⟨hp 0 hk,this.1,this.2,Int.le_refl 0,by simp [ZaU,hop0]⟩
 | k+1,hk=>by
  have ih:=Zgo g hu hs hp k (by omega)
  have:=ZmT g hs (hp (k+1) hk)
  have ht:=ih.told g hu
  have h0:=ih.op1
  have c:=ZoZ hu (x:=Zbq t u (ZaU t u s r k)+2*u.Slack) (by have:=hu.s1;omega)
  have:=hu.s1;have:=hu.s2;have:=hu.g2
  refine ⟨hp (k+1) hk,?_,?_,?_,?_⟩
  ·show 84<=s.Size*(plk t (at0 r (k+1))).Per;omega
  ·show s.Size*(plk t (at0 r (k+1))).Per<=1542000;omega
  ·show 0<=Zne u (Zbq t u (ZaU t u s r k)+2*u.Slack);omega
  show Zne u (Zbq t u (ZaU t u s r k)+2*u.Slack)<=1600000*((k+1:Nat):Int);omega
def stAt (t:Zag)(u:ZaE)(s:Zah)(r:List Int):Nat->ZaQ
 | 0=>⟨0,0,0,0,0⟩
 | k+1=>ZaU t u s r k
theorem Zsr {σ:Type}(g:Good t)(hu:ZiZ u)(hs:ZjD s){r:List Int}(h8:r.length<=8)(hp:∀ k,k<r.length->Zc9 t (at0 r k)=true){k:Nat}(hk:k<r.length){y:σ->ZaQ->Option (σ×Bool)}{b b':σ}
  (hy:y b (ZaU t u s r k)=some (b',true)):ZbP N y s t u r (k:Int) (stAt t u s r k).Port (stAt t u s r k).Early (stAt t u s r k).Late (stAt t u s r k).Open (stAt t u s r k).Long b =
   some (.inl (((k+1:Nat):Int),(ZaU t u s r k).Port,(ZaU t u s r k).Early,(ZaU t u s r k).Late,(ZaU t u s r k).Open,(ZaU t u s r k).Long,b')):=by
 have hL:t.Links.length<=1000:=by have:=g.l24;omega
 have hlen:=ZmT g hs (hp k hk)
 have hb:=Zgo g hu hs hp k hk
 unfold ZbP
 rw [Z9 (by simp;omega),ZcT hk,ZZ]
 have hat:r[k]=at0 r k:=(ZjS hk).symm
 have key:(if decide ((k:Int)>0)=true then (idx t.Links (w64 (Int.tdiv (stAt t u s r k).Port 2))).bind λe1020 =>
    (quoI .i64 (w64 ((w64 ((w64 ((w64 ((w64 ((w64 ((stAt t u s r k).Open+(stAt t u s r k).Long))+e1020.Delay))+u.Proc))+(w64 (2*u.Slack))))+u.Grid))-1)) u.Grid).bind λq1026 =>
    (some ((w64 ((w64 ((w64 ((w64 ((stAt t u s r k).Open+(stAt t u s r k).Long))+e1020.Delay))+u.Proc))-(w64 (2*u.Slack)))),(w64 ((w64 ((w64 ((w64 ((stAt t u s r k).Open+(stAt t u s r k).Long))+e1020.Delay))+u.Proc))+(w64 (2*u.Slack)))),(w64 (q1026*u.Grid))))
   else some ((stAt t u s r k).Early,(stAt t u s r k).Late,(stAt t u s r k).Open))=some ((ZaU t u s r k).Early,(ZaU t u s r k).Late,(ZaU t u s r k).Open):=by
  cases k with
  | zero=>rw [Z8 (by simp)];rfl
  | succ j =>
   rw [Z9 (by simp only [Z6];omega)]
   have hbj:=Zgo g hu hs hp j (by omega)
   obtain ⟨o1,o2,o3⟩:=hbj.told g hu
   obtain ⟨_,_,d1,d2⟩:=Zgt g hbj.port
   obtain ⟨g1,g2,s1,s2,p1,p2⟩:=hu
   have l1:=hbj.long1;have l2:=hbj.long2;have l3:=hbj.op1;have l4:=hbj.op2
   have hj:(j:Int)<=8:=by omega
   show ((idx t.Links (w64 (Int.tdiv (ZaU t u s r j).Port 2))).bind λe1020=>_)=_
   rw [Zlq hL hbj.port,ZZ]
   have e1:w64 ((ZaU t u s r j).Open+(ZaU t u s r j).Long)=(ZaU t u s r j).Open+(ZaU t u s r j).Long:=ZaO (by omega) (by omega)
   have e2:w64 ((ZaU t u s r j).Open+(ZaU t u s r j).Long+(plk t (ZaU t u s r j).Port).Delay)=(ZaU t u s r j).Open+(ZaU t u s r j).Long+(plk t (ZaU t u s r j).Port).Delay:=ZaO (by omega) (by omega)
   have e3:w64 ((ZaU t u s r j).Open+(ZaU t u s r j).Long+(plk t (ZaU t u s r j).Port).Delay+u.Proc)=Zbq t u (ZaU t u s r j):=ZaO (by omega) (by omega)
   have e4:w64 (2*u.Slack)=2*u.Slack:=ZaO (by omega) (by omega)
   simp only [stAt,e1,e2,e3,e4]
   have e5:w64 (Zbq t u (ZaU t u s r j)+2*u.Slack)=Zbq t u (ZaU t u s r j)+2*u.Slack:=ZaO (by omega) (by omega)
   have e6:w64 (Zbq t u (ZaU t u s r j)-2*u.Slack)=Zbq t u (ZaU t u s r j)-2*u.Slack:=ZaO (by omega) (by omega)
   have e7:w64 (Zbq t u (ZaU t u s r j)+2*u.Slack+u.Grid)=Zbq t u (ZaU t u s r j)+2*u.Slack+u.Grid:=ZaO (by omega) (by omega)
   have e8:w64 (Zbq t u (ZaU t u s r j)+2*u.Slack+u.Grid-1)=Zbq t u (ZaU t u s r j)+2*u.Slack+u.Grid-1:=ZaO (by omega) (by omega)
   rw [e5,e6,e7,e8,Zi2 (by omega),ZZ]
   have hn:0<=Zbq t u (ZaU t u s r j)+2*u.Slack+u.Grid-1:=by omega
   rw [Zl hn]
   have q1:0<=(Zbq t u (ZaU t u s r j)+2*u.Slack+u.Grid-1)/u.Grid:=Int.ediv_nonneg hn (by omega)
   have q2:(Zbq t u (ZaU t u s r j)+2*u.Slack+u.Grid-1)/u.Grid<=Zbq t u (ZaU t u s r j)+2*u.Slack+u.Grid-1:=Int.ediv_le_self _ hn
   have e9:IntKind.i64.wrap ((Zbq t u (ZaU t u s r j)+2*u.Slack+u.Grid-1)/u.Grid)=(Zbq t u (ZaU t u s r j)+2*u.Slack+u.Grid-1)/u.Grid:=ZaO (by omega) (by omega)
   have c:=ZoZ ⟨g1,g2,s1,s2,p1,p2⟩ (x:=Zbq t u (ZaU t u s r j)+2*u.Slack) (by omega)
   have e10:w64 ((Zbq t u (ZaU t u s r j)+2*u.Slack+u.Grid-1)/u.Grid*u.Grid)=Zne u (Zbq t u (ZaU t u s r j)+2*u.Slack):=ZaO (by unfold Zne at c;omega) (by unfold Zne at c;omega)
   rw [e9,e10]
   rfl
 rw [key,ZZ,hat,Zlq hL (hp k hk),ZZ]
 have e11:w64 (s.Size*(plk t (at0 r k)).Per)=s.Size*(plk t (at0 r k)).Per:=ZaO (by omega) (by omega)
 have e12:(ZaQ.mk (at0 r k) (ZaU t u s r k).Early (ZaU t u s r k).Late (ZaU t u s r k).Open (s.Size*(plk t (at0 r k)).Per))=ZaU t u s r k:=by
  cases k<;>rfl
 rw [e11]
 simp only
 rw [e12,hy,ZZ,ZaW (by omega)]
 simp only [Zi,Zg,Z7,ZrG,ZrH]
theorem ZqX {σ:Type}(g:Good t)(hu:ZiZ u)(hs:ZjD s){r:List Int}(hr:ZbK t r=true){y:σ->ZaQ->Option (σ×Bool)}(G:Nat->σ)(hy:∀ k,k<r.length->y (G k) (ZaU t u s r k)=some (G (k+1),true)){kk:Int}
  (hk:idx s.Routes kk=some r) (hN:200<=N):Zdf N y s kk t u (G 0)=some (G r.length):=by
 obtain ⟨h1,h8,hp⟩:=ZcR hr
 unfold Zdf
 rw [hk,ZZ]
 have key:∀ (M m N k:Nat),r.length-k=m->k<=r.length->m<N->ZaY (λx:Int×Int×Int×Int×Int×Int×σ=>ZbP M y s t u r x.1 x.2.1 x.2.2.1 x.2.2.2.1 x.2.2.2.2.1 x.2.2.2.2.2.1 x.2.2.2.2.2.2) N ((k:Int),(stAt t u s r k).Port,(stAt t u s r k).Early,(stAt t u s r k).Late,(stAt t u s r k).Open,(stAt t u s r k).Long,G k)=some (.inl (G r.length)):=by
  intro M m
  induction m with
  | zero =>
   intro N k e1 e2 e3
   obtain rfl:k=r.length:=by omega
   cases N with
   | zero=>omega
   | succ N =>
    rw [Zbw (r:=(.inl (G r.length)))]
    show ZbP _ y s t u r ((r.length:Nat):Int) _ _ _ _ _ _=_
    unfold ZbP
    rw [Z8 (by simp)]
  | succ m ih =>
   intro N k e1 e2 e3
   cases N with
   | zero=>omega
   | succ N =>
    have hst:=Zsr (N:=M) g hu hs h8 hp (k:=k) (by omega) (hy k (by omega))
    rw [ZcC (y:=(((k+1:Nat):Int),(ZaU t u s r k).Port,(ZaU t u s r k).Early,(ZaU t u s r k).Late,(ZaU t u s r k).Open,(ZaU t u s r k).Long,G (k+1))) hst]
    exact ih N (k+1) (by omega) (by omega) (by omega)
 have:=key N r.length N 0 (by omega) (by omega) (by omega)
 rw [show ((0:Nat):Int)=0 from rfl] at this
 have e:(ZaY (λx:Int×Int×Int×Int×Int×Int×σ=>ZbP N y s t u r x.1 x.2.1 x.2.2.1 x.2.2.2.1 x.2.2.2.2.1 x.2.2.2.2.2.1 x.2.2.2.2.2.2) N (0,0,0,0,0,0,G 0))=some (.inl (G r.length)):=this
 rw [e]
 rfl
theorem Zj1 (k:Int)(hN:200<=N):Zgp N t u s k=some (if Ze8 t then (if ZeZ u then (if ZbI t s then (if s.Class=7/\0<=k/\k<s.Routes.length then 0 else 2) else 321) else 320) else 260):=by
 unfold Zgp
 rw [Zgg (by omega),ZZ]
 cases hT:Ze8 t with
 | false=>rfl
 | true =>
  simp only [Zaa,Z5,Zg,Z7]
  rw [Zgc,ZZ]
  cases hU:ZeZ u with
  | false=>rfl
  | true =>
   simp only [Zaa,Z5,Zg,Z7]
   rw [Ziq (ZbQ.1 hT) s hN,ZZ]
   cases hS:ZbI t s with
   | false=>rfl
   | true =>
    rw [Z8 (by simp:¬ (!true)=true),Z9 (rfl:true=true)]
    have hl:1<=s.Routes.length/\s.Routes.length<=2:=by
     simp only [ZbI,lenB,Ze,Z6] at hS
     exact hS.2.2.1
    rw [ZaO (by omega) (by omega),ZdA]
    have hb:inB k 0 ((s.Routes.length:Int)-1)=decide (0<=k/\k<(s.Routes.length:Int)):=by
     rw [Zf]
     simp only [inB,Ze,Z6]
     omega
    rw [hb]
    by_cases hc:s.Class=7
    ·have h7:(s.Class != 7)=false:=by simp [hc]
     rw [h7]
     by_cases hk:0<=k/\k<(s.Routes.length:Int)
     ·simp only [decide_eq_true hk,hc,hk,and_self,Zaa];rfl
     simp only [decide_eq_false hk,hc,hk,and_false,Z7];rfl
    have h7:(s.Class != 7)=true:=by simp [hc]
    rw [h7]
    simp only [hc,false_and,Z7,Zaa];rfl
def Ze0 (s:Zah)(k:Int):List Int:=s.Routes.getD k.toNat []
theorem ZeY (h:ZbI t s=true):ZjD s:=by
 simp only [ZbI,Zqr,inB,Ze,Z6] at h
 exact h.1.2.2.2.2.1
theorem Zjj (h:ZbI t s=true):(1<=s.Routes.length/\s.Routes.length<=2)/\s.Routes.all (Zgn t s)=true:=by
 simp only [ZbI,lenB,Ze,Z6] at h
 exact ⟨h.2.2.1,h.2.2.2.1⟩
theorem Zpn (h:ZbI t s=true){k:Int}(h0:0<=k)(hk:k<s.Routes.length):idx s.Routes k=some (Ze0 s k)/\ZbK t (Ze0 s k)=true:=by
 refine ⟨ZcB [] h0 hk,(Zhw (Zjj h).2 (k:=k.toNat) (by omega)).1⟩
theorem ZlE (hT:Ze8 t=true)(hU:ZeZ u=true)(hS:ZbI t s=true){k:Int}(hc:s.Class=7)(h0:0<=k)(hk:k<s.Routes.length)(hN:200<=N) :
  Zgy N t u s k=some ((List.range (Ze0 s k).length).map (ZaU t u s (Ze0 s k)),0):=by
 obtain ⟨e1,e2⟩:=Zpn hS h0 hk
 have h8:=(ZcR e2).2.1
 unfold Zgy
 rw [Zj1 k hN,hT,hU,hS,Z9 rfl,Z9 rfl,Z9 rfl,Z9 ⟨hc,h0,hk⟩,ZZ,Z8 (by decide)]
 show (Zdf N _ s k t u []).bind _=_
 have:=ZqX (N:=N) (ZbQ.1 hT) (ZdC hU) (ZeY hS) e2 (y:=λ(s:(List ZaQ)) (x12:ZaQ)=>Ze5 (λv:(List ZaQ)=>ZcW N v x12) s) (λj=>(List.range j).map (ZaU t u s (Ze0 s k))) (λj hj=>by
  show Ze5 (λv=>ZcW N v (ZaU t u s (Ze0 s k) j)) _=_
  unfold Ze5 ZcW
  simp only
  rw [Zhb (by simp;omega) (by omega),List.range_succ,ZL]
  rfl) e1 hN
 simp only [List.range_zero,ZN] at this
 rw [this]
 rfl
theorem ZlD (hT:Ze8 t=true)(hU:ZeZ u=true)(hS:ZbI t s=true){k:Int}(hc:s.Class=7)(h0:0<=k)(hk:k<s.Routes.length)(hN:200<=N) :
  Zgx N t u s k=some (Zbq t u (ZaU t u s (Ze0 s k) ((Ze0 s k).length-1)),0):=by
 obtain ⟨e1,e2⟩:=Zpn hS h0 hk
 obtain ⟨h1,h8,hp⟩:=ZcR e2
 have g:=ZbQ.1 hT
 have hL:t.Links.length<=1000:=by have:=g.l24;omega
 unfold Zgx
 rw [Zj1 k hN,hT,hU,hS,Z9 rfl,Z9 rfl,Z9 rfl,Z9 ⟨hc,h0,hk⟩,ZZ,Z8 (by decide)]
 show (Zdf N _ s k t u 0).bind _=_
 have:=ZqX (N:=N) g (ZdC hU) (ZeY hS) e2 (y:=λ(s:Int) (x21:ZaQ)=>Ze5 (λv:Int=>ZcV N t u v x21) s) (λj=>if j=0 then 0 else Zbq t u (ZaU t u s (Ze0 s k) (j-1))) (λj hj=>by
  show Ze5 (λv=>ZcV N t u v (ZaU t u s (Ze0 s k) j)) _=_
  unfold Ze5 ZcV
  have hb:=Zgo g (ZdC hU) (ZeY hS) hp j hj
  obtain ⟨o1,o2,o3⟩:=hb.told g (ZdC hU)
  obtain ⟨_,_,d1,d2⟩:=Zgt g hb.port
  have l1:=hb.long1;have l2:=hb.long2;have l3:=hb.op1;have l4:=hb.op2
  have q:=(ZdC hU).p1;have q':=(ZdC hU).p2
  simp only
  rw [Zlq hL hb.port,ZZ,ZaO (x:=(ZaU t u s (Ze0 s k) j).Open+(ZaU t u s (Ze0 s k) j).Long) (by omega) (by omega),ZaO (x:=(ZaU t u s (Ze0 s k) j).Open+(ZaU t u s (Ze0 s k) j).Long+_) (by omega) (by omega)]
  rw [show w64 ((ZaU t u s (Ze0 s k) j).Open+(ZaU t u s (Ze0 s k) j).Long+(plk t (ZaU t u s (Ze0 s k) j).Port).Delay+u.Proc)=Zbq t u (ZaU t u s (Ze0 s k) j) from ZaO (by omega) (by omega)]
  rw [Z8 (Nat.succ_ne_zero j)]
  rfl) e1 hN
 rw [Z9 rfl] at this
 rw [this,ZZ,Z8 (by omega)]
def dS:Zah:=⟨0,0,0,0,0,0,⟨0,0⟩,0,[]⟩
def idAt (l:List Zah)(k:Nat):Int:=(l.getD k dS).Id
def ZoM (l:List Zah)(k:Nat):Bool := !((List.range k).any λj=>idAt l j==idAt l k)
def allR (t:Zag)(l:List Zah):Int:=if Ze8 t then (if l.length<=12 then (if l.all (ZbI t) then (if allB l.length (ZoM l) then 0 else 322) else 321) else 3) else 260
theorem ZgT (l:List Zah)(hN:200<=N):ZdB N t l=some (allR t l):=by
 unfold ZdB allR
 rw [Zgg (by omega),ZZ]
 cases hT:Ze8 t with
 | false=>rfl
 | true =>
  have g:=ZbQ.1 hT
  simp only [Zaa,Z5,Zg,Z7]
  by_cases h12:l.length<=12
  ·rw [Z8 (by simp;omega),Z9 h12]
   have:=ZbD (n:=l.length) (p:=λk=>ZbI t (l.getD k dS)) (body:=λx:Int=>Zcc N t l x) (bad:=.inr 321) (fin:=.inl ()) (λk hk=>by
    unfold Zcc
    rw [Z9 (by simp;omega),ZcT hk,ZZ,Zd1 hk,Ziq g _ hN,ZZ,ZaW (by omega)]
    cases ZbI t l[k]<;>rfl) (by unfold Zcc;rw [Z8 (by simp)]) (N:=N) (by omega)
   rw [this,Zkr l dS (ZbI t)]
   cases l.all (ZbI t) with
   | false=>rfl
   | true =>
    simp only [Zaa,ZZ]
    have:=(ZmX (n:=l.length) (p:=ZoM l) (f:=λ(b:List (Int×Bool)) k=>Zed b (idAt l k) true) (body:=λx:Int×(List (Int×Bool))=>ZbG N l x.1 x.2) (bad:=.inr 322) (fin:=λ_=>.inl ())
     (λk b=>∀ x,Zhk b x false=(List.range k).any λj=>idAt l j==x)
     (λk b hk hb=>by
      show ZbG N l (k:Int) b=_
      unfold ZbG
      rw [Z9 (by simp;omega),ZcT hk,ZZ]
      have hid:l[k].Id=idAt l k:=by unfold idAt;rw [Zd1 hk]
      rw [hid,hb,ZaW (by omega)]
      unfold ZoM
      cases (List.range k).any λj=>idAt l j==idAt l k<;>rfl)
     (λk b hk hb _ x=>by
      rw [Zqk,hb,List.range_succ,List.any_append]
      by_cases e:x=idAt l k
      ·subst e;simp
      have:(idAt l k==x)=false:=by simpa using Ne.symm e
      simp [e,this])
     (λb hb=>by show ZbG N l (l.length:Int) b=_;unfold ZbG;rw [Z8 (by simp)]) (N:=N) (by omega) (b0:=[]) (λx=>rfl)).1
    rw [this]
    cases allB l.length (ZoM l)<;>rfl
  rw [Z9 (by simp;omega),Z8 h12]
end
end Go.Sh

namespace Go.Sh
open Go Go.Eng
def PF (p:Int->Bool)(k:Nat):List Int:=((List.range k).map (λ(n:Nat)=>(n:Int))).filter p
theorem ZsH (p:Int->Bool)(k:Nat):PF p (k+1)=if p (k:Int)=true then PF p k++[(k:Int)] else PF p k:=by
 unfold PF
 rw [List.range_succ,ZL,List.filter_append]
 by_cases h:p (k:Int)=true
 ·rw [Z9 h];simp [h]
 rw [Z8 h];simp [h]
theorem Ztz (p:Int->Bool)(k:Nat):(PF p k).length<=k:=by
 induction k with
 | zero=>simp [PF]
 | succ k ih =>
  rw [ZsH]
  split
  ·rw [ZI,List.length_singleton];omega
  omega
theorem Zy3 {p:Int->Bool}{k:Nat}{x:Int}:x∈PF p k↔0<=x/\x<k/\p x=true:=by
 unfold PF
 simp only [List.mem_filter,List.mem_map,ZO]
 constructor
 ·rintro ⟨⟨n,hn,rfl⟩,hp⟩;exact ⟨by omega,by omega,hp⟩
 rintro ⟨h0,h1,hp⟩;exact ⟨⟨x.toNat,by omega,by omega⟩,hp⟩
section
variable {N:Nat} {t:Zag}
theorem ZmW {β ρ:Type}{n:Nat}{body:Int×β->Option ((Int×β)⊕ρ)}{fin:β->ρ}(I:Nat->β->Prop)
  (hstep:∀ k b,k<n->I k b->∃ b',body ((k:Int),b)=some (.inl (((k+1:Nat):Int),b'))/\I (k+1) b') (hend:∀ b,I n b->body ((n:Int),b)=some (.inr (fin b))) :
  ∀ (m N k:Nat) (b:β),n-k=m->k<=n->m<N->I k b->∃ b',ZaY body N ((k:Int),b)=some (fin b')/\I n b':=by
 intro m
 induction m with
 | zero =>
  intro N k b h1 h2 h3 hb
  obtain rfl:k=n:=by omega
  cases N with
  | zero=>omega
  | succ N=>exact ⟨b,by rw [Zbw (hend b hb)],hb⟩
 | succ m ih =>
  intro N k b h1 h2 h3 hb
  cases N with
  | zero=>omega
  | succ N =>
   obtain ⟨b',s1,s2⟩:=hstep k b (by omega) hb
   obtain ⟨b'',i1,i2⟩:=ih N (k+1) b' (by omega) (by omega) (by omega) s2
   exact ⟨b'',by rw [ZcC s1,i1],i2⟩
end
end Go.Sh
namespace Go.Sh
open Go Go.Eng
def Byte (v:Int):Prop:=0<=v/\v<=255
theorem Zfo {v:Int}(h:InK .u8 v):Byte v:=by
 exact h.u8
section
variable {N:Nat}
theorem Zgi {l:List Int}(hl:∀ x∈l,Byte x)(hlen:l.length<=maxLen){i:Int}(h0:0<=i):∃ v,Zev N l i=some v/\Byte v:=by
 unfold Zev
 by_cases h:i<(l.length:Int)
 ·rw [Z9 (by simpa using h),Zlw h0 (by omega),ZZ]
  have hb:=hl _ (List.getElem_mem (show i.toNat<l.length by omega))
  refine ⟨_,rfl,?_⟩
  obtain ⟨b1,b2⟩:=hb
  rw [ZaO (by omega) (by omega)]
  exact ⟨b1,b2⟩
 rw [Z8 (by simpa using h)]
 exact ⟨0,rfl,by omega,by omega⟩
theorem ZfY {v b:Int}(hv:0<=v)(hb:0<b):∃ m,remI v b=some m/\0<=m/\m<b:=by
 refine ⟨v.tmod b,Zj4 (by omega),?_⟩
 rw [Zm hv]
 exact ⟨Int.emod_nonneg _ (by omega),Int.emod_lt_of_pos _ hb⟩
theorem ZtC {d:Zbi}(hp:∀ x∈d.Pers,Byte x)(hpl:d.Pers.length<=maxLen)(hd:∀ x∈d.Delays,Byte x)(hdl:d.Delays.length<=maxLen){t:Zag}(hS:(t.Station.length:Int)=t.Nodes)(hL:t.Links.length<=24)(a b:Int)(hN:200<=N) :
  ∃ l:ZaF,l.A=a/\l.B=b/\(Ze4 t a=true->Ze4 t b=true->a≠b->(stB t a&&stB t b)=false->Zfj t l=true) ∧
   Zbj N d t a b=some (if t.Links.length<24/\Zfj t l=true/\(allB t.Links.length λk => !ZgK (lk t k) a b)=true then ⟨t.Nodes,t.Station,t.Links++[l]⟩ else t):=by
 obtain ⟨v1,p1,b1⟩:=Zgi (N:=N) hp hpl (i:=(t.Links.length:Int)) (by omega)
 obtain ⟨v2,p2,b2⟩:=Zgi (N:=N) hd hdl (i:=(t.Links.length:Int)) (by omega)
 obtain ⟨b11,b12⟩:=b1
 obtain ⟨b21,b22⟩:=b2
 have e1:Int.tmod v1 20=v1%20:=Zm b11
 have e2:Int.tmod v2 50=v2%50:=Zm b21
 have e3:w64 (1+Int.tmod v1 20)=1+v1%20:=by rw [e1,ZaO (by omega) (by omega)]
 refine ⟨⟨a,b,1+v1%20,v2%50⟩,rfl,rfl,λh1 h2 h3 h4=>?_,?_⟩
 ·simp only [Zfj,h1,h2,h4,Zk,Bool.not_false,Ze,Z6]
  refine ⟨by simp [h3],by omega,by omega,by omega,by omega⟩
 unfold Zbj
 rw [p1,ZZ,p2,ZZ,e3,e2]
 by_cases h24:t.Links.length<24
 ·have:(((t.Links.length:Nat):Int)==24)=false:=by simp;omega
  rw [this]
  simp only [Zg,Z7]
  rw [Zkb hS,ZZ,ZZ]
  cases hlb:Zfj t ⟨a,b,1+v1%20,v2%50⟩ with
  | false=>simp
  | true =>
   simp only [Zi,Zg,Z7]
   have:=ZbD (n:=t.Links.length) (p:=λk => !ZgK (lk t k) a b) (body:=λx:Int=>Zb1 N t a b x) (bad:=.inr t) (fin:=.inl ()) (λk hk=>by
    unfold Zb1
    rw [Z9 (by simp;omega),ZpN hk,ZZ,Zjz,ZZ,ZaW (by omega)]
    cases ZgK (lk t k) a b<;>rfl) (by unfold Zb1;rw [Z8 (by simp)]) (N:=N) (by omega)
   rw [this]
   cases hj:allB t.Links.length (λk => !ZgK (lk t k) a b) with
   | false=>simp
   | true =>
    simp only [Zaa,ZZ]
    rw [Zhb (by simp;omega) (by omega)]
    simp [h24]
 have:(((t.Links.length:Nat):Int)==24)=true:=by simp;omega
 rw [this]
 simp [h24]
end
structure Mk (b n:Nat) (t:Zag):Prop where
 nodes:t.Nodes=n
 st:t.Station=(List.range n).map (λk=>decide (b<=k))
 l24:t.Links.length<=24
 links:∀ k,k<t.Links.length->Zfj t (lk t k)=true/\nojB t k=true
 ends:∀ k,k<t.Links.length->(lk t k).B<b
def cntA (t:Zag)(x:Int):Nat:=t.Links.countP (λl=>l.A==x)
section
variable {N b n:Nat} {t:Zag}
theorem Mk.stl (h:Mk b n t):(t.Station.length:Int)=t.Nodes:=by rw [h.st,h.nodes];simp
theorem Mk.stB (h:Mk b n t){x:Int}(h0:0<=x)(hx:x<n):stB t x=decide ((b:Int)<=x):=by
 unfold Go.Sh.stB
 rw [h.st,Zw,ZE,List.getElem?_range (by omega)]
 simp only [Z1,Z0]
 rw [Zf,decide_eq_true_iff,decide_eq_true_iff]
 omega
theorem Mk.node (h:Mk b n t){x:Int}:Ze4 t x=true↔0<=x/\x<n:=by rw [ZgI,h.nodes]
theorem Zek {l:ZaF}{k:Nat}:lk ⟨t.Nodes,t.Station,t.Links++[l]⟩ k=if k<t.Links.length then lk t k else if k=t.Links.length then l else dL:=by
 unfold lk
 simp only [Zw]
 by_cases h:k<t.Links.length
 ·rw [Z9 h,Zx h]
 rw [Z8 h,Zy (by omega)]
 by_cases e:k=t.Links.length
 ·subst e;simp
 rw [Z8 e]
 have:k-t.Links.length≠0:=by omega
 cases hh:k-t.Links.length with
 | zero=>omega
 | succ m=>simp
theorem ZpO {l x:ZaF}:Zfj ⟨t.Nodes,t.Station,t.Links++[l]⟩ x=Zfj t x:=rfl
theorem Mk.add (h:Mk b n t){l:ZaF}(h24:t.Links.length<24)(hl:Zfj t l=true)(hj:(allB t.Links.length λk => !ZgK (lk t k) l.A l.B)=true)(hb:l.B<b):Mk b n ⟨t.Nodes,t.Station,t.Links++[l]⟩ where
 nodes:=h.nodes
 st:=h.st
 l24:=by simp;omega
 links:=λk hk=>by
  simp only [ZI,List.length_singleton] at hk
  rw [ZpO]
  unfold nojB
  by_cases hlt:k<t.Links.length
  ·obtain ⟨q1,q2⟩:=h.links k hlt
   rw [Zek,Z9 hlt]
   refine ⟨q1,?_⟩
   rw [← q2]
   unfold nojB
   apply Zof
   intro j hj
   rw [Zek,Z9 (by omega)]
  obtain rfl:k=t.Links.length:=by omega
  rw [Zek,Z8 hlt,Z9 rfl]
  refine ⟨hl,?_⟩
  rw [← hj]
  apply Zof
  intro j hj
  rw [Zek,Z9 hj]
 ends:=λk hk=>by
  simp only [ZI,List.length_singleton] at hk
  by_cases hlt:k<t.Links.length
  ·rw [Zek,Z9 hlt];exact h.ends k hlt
  rw [Zek,Z8 hlt,Z9 (by omega)];exact hb
end
end Go.Sh

