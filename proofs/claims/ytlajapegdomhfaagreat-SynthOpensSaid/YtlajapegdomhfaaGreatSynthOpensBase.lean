/-Part of the proof. -/
import Derived.Test.YtlajapegdomhfaaGreatSynthOpensSh
import Derived.Test.YtlajapegdomhfaaGreatSynthOpensRd
import Derived.KernelRfl
set_option linter.all false
namespace Go.Sh
open Go Go.Eng
def ZaK {x:Int}(h: -9223372036854775808<=x)(h2:x<=9223372036854775807):w64 x=x:=by
 unfold w64 IntKind.wrap;simp only[IntKind.bits,IntKind.signed];by_cases h0:0<=x
 ·have:x%(2 ^ 64:Int)=x:=Zo h0 (by omega);simp only[this];rw[Zau];simp;omega
 have:x%(2 ^ 64:Int)=x+2 ^ 64:=by
  rw[←Int.add_emod_right];exact Zo (by omega) (by omega)
 simp only[this];rw[Zav]
 ·omega
 simp;omega
def Zrm {σ ρ:Type}(body:σ->Option (σ⊕ρ))(m:Nat)(x:σ):ZaT body (m+1) x=match body x with
  |none=>none
  |some (.inl y)=>ZaT body m y
  |some (.inr r)=>some r:=rfl
def ZbX {σ ρ:Type}{body:σ->Option (σ⊕ρ)}{m:Nat}{x y:σ}(h:body x=some (.inl y)):ZaT body (m+1) x=ZaT body m y:=by rw[Zrm,h]
def Zbh {σ ρ:Type}{body:σ->Option (σ⊕ρ)}{m:Nat}{x:σ}{r:ρ}(h:body x=some (.inr r)):ZaT body (m+1) x=some r:=by rw[Zrm,h]
def ZbK {σ ρ:Type}{body:σ->Option (σ⊕ρ)}(I:σ->Prop)(μ:σ->Nat)(Post:ρ->Prop)
  (step:∀x,I x->(∃y,body x=some (.inl y)/\I y/\μ y<μ x)∨(∃r,body x=some (.inr r)/\Post r)):∀(N:Nat) (x:σ),I x->μ x<N->∃r,ZaT body N x=some r/\Post r
 |0,x,_,h=>by omega
 |N+1,x,hI,h=>by
  rcases step x hI with⟨y,h1,h2,h3⟩|⟨r,h1,h2⟩
  ·rw[ZbX h1];exact ZbK I μ Post step N y h2 (by omega)
  exact⟨r,by rw[Zbh h1],h2⟩
def Ziq {α:Type}(l:List α)(k:Nat):idx l (k:Int)=l[k]?:=by
 unfold idx;rw[Zav (by omega)];rfl
def Zrn {α:Type}{l:List α}{i:Int}(h0:0<=i)(h:i.toNat<l.length):idx l i=some l[i.toNat]:=by
 unfold idx;rw[Zav h0];exact ZL h
def ZcO {a b:Int}(h:b≠0):remI a b=some (a.tmod b):=by unfold remI;rw[Zau h]
def Zjv {k:IntKind}{a b:Int}(h:b≠0):quoI k a b=some (k.wrap (a.tdiv b)):=by unfold quoI;rw[Zau h]
def Zgu {α:Type}{l:List α}{k:Nat}(h:k<l.length):l.drop k=l[k]::l.drop (k+1):=List.drop_eq_getElem_cons h
def ZrQ {a b:Int}(hb:0<b):(a.tmod b+b).tmod b=a%b:=by
 have h1:0<=a.tmod b+b:=by have:=Int.lt_tmod_of_pos a hb;omega
 rw[Zr h1,Int.add_emod_right];rw[Int.tmod_eq_emod];split
 ·simp
 have:(b.natAbs:Int)=b:=by omega
 rw[this];simp
def ZtQ {α ρ:Type}{l:List α}{p:α->Bool}{body:Int->Option (Int⊕ρ)}{bad fin:ρ}(h0:∀(k:Nat) (h:k<l.length),body (k:Int)=if p l[k]=true then some (.inl ((k+1:Nat):Int))else some (.inr bad))
  (h2:body (l.length:Int)=some (.inr fin)):∀(n N k:Nat),l.length-k=n->k<=l.length->n<N->ZaT body N (k:Int)=some (if(l.drop k).all p then fin else bad):=by
 intro n;induction n with
 |zero=>
  intro N k hn hk hN;have:k=l.length:=by omega
  subst this;cases N with
  |zero=>omega
  |succ N=>rw[Zbh h2];simp
 |succ n ih=>
  intro N k hn hk hN;cases N with
  |zero=>omega
  |succ N=>
   have h1:k<l.length:=by omega
   rw[Zgu h1,List.all_cons];by_cases hp:p l[k]=true
   ·rw[ZbX (by rw[h0 k h1,Zav hp]),ih N (k+1) (by omega) (by omega) (by omega)];simp[hp]
   rw[Zbh (by rw[h0 k h1,Zau hp])];simp[hp]
def ZpV {ρ:Type}{q:Nat->Bool}{P:Nat}{body:Int->Option (Int⊕ρ)}{bad:ρ}{good:Nat->ρ}(h0:∀k:Nat,k<P->body (k:Int)=if q k=true then some (.inr (good k))else some (.inl ((k+1:Nat):Int)))
  (h1:body (P:Int)=some (.inr bad)):∀(n N k:Nat),P-k=n->k<=P->n<N->ZaT body N (k:Int)=some (match(List.range' k n).find? q with|some j=>good j|none=>bad):=by
 intro n;induction n with
 |zero=>
  intro N k hn hk hN;have:k=P:=by omega
  subst this;cases N with
  |zero=>omega
  |succ N=>rw[Zbh h1];simp
 |succ n ih=>
  intro N k hn hk hN;cases N with
  |zero=>omega
  |succ N=>
   have h2:k<P:=by omega
   rw[Z8,ZC];by_cases hp:q k=true
   ·rw[Zbh (by rw[h0 k h2,Zav hp])];simp[hp]
   rw[ZbX (by rw[h0 k h2,Zau hp]),ih N (k+1) (by omega) (by omega) (by omega)];simp[hp]
end Go.Sh

namespace Go.Sh
open Go Go.Eng
def VSpan (s:ZaR):Prop:=1<=s.Period/\s.Period<=960/\0<=s.From/\s.From<s.Period/\1<=s.Long/\s.Long<=s.Period
instance (s:ZaR):Decidable (VSpan s):=by unfold VSpan;infer_instance
def ZgB (N:Nat)(s:ZaR):ZeB N s=some (if VSpan s then 0 else 330):=by
 unfold ZeB;by_cases h:VSpan s
 ·rw[Zav h];unfold VSpan at h;rw[Zau (by simp;omega),Zau (by simp;omega)]
 rw[Zau h];unfold VSpan at h;by_cases h1:((decide (s.Period<1))||((decide (s.Period>960))||((decide (s.From<0))||(decide (s.From≥s.Period)))))=true
 ·rw[Zav h1]
 rw[Zau h1,Zav];simp at h1⊢;omega
def Zqz (N:Nat){a b:Int}(hb:0<b)(h0:b<=1000000):Zje N a b=some (a%b):=by
 unfold Zje;have h1:=Int.lt_tmod_of_pos a hb;have h2:=Int.tmod_lt_of_pos a hb;rw[ZcO (by omega),Zak,ZaK (by omega) (by omega),ZcO (by omega),Zak,ZrQ hb]
def Zkk (N:Nat){a b:Int}(hb:0<b)(h0:b<=1000000):Zhs N a b=some (a%b):=by
 unfold Zhs;have h1:=Int.lt_tmod_of_pos a hb;have h2:=Int.tmod_lt_of_pos a hb;have h3:=ZrQ (a:=a) hb;rw[ZcO (by omega),Zak];by_cases h:a.tmod b<0
 ·rw[Zav (by simpa using h),Zak,ZaK (by omega) (by omega)];rw[Int.tmod_eq_of_lt (by omega) (by omega)]at h3;rw[h3]
 rw[Zau (by simpa using h),Zak];rw[←h3,show a.tmod b+b=a.tmod b+b*1 by omega];have e:(a.tmod b+b).tmod b=(a.tmod b+b)%b:=Zr (by omega);rw[Int.mul_one,e,Int.add_emod_right];rw[Zo (by omega) (by omega)]
def Zoc (M:Nat):∀(b N a:Nat),b<N->ZaT (λx:Int×Int=>Zf8 M x.1 x.2) N ((a:Int),(b:Int))=some (Nat.gcd a b:Int):=by
 intro b;induction b using Nat.strongRecOn with
 |_ b ih=>
  intro N a hN;cases N with
  |zero=>omega
  |succ N=>
   by_cases hb:b=0
   ·subst hb;rw[Zbh (r:=(a:Int))]
    ·simp
    simp[Zf8]
   have h0:=Nat.mod_lt a (Nat.pos_of_ne_zero hb);rw[ZbX (y:=((b:Int),((a%b:Nat):Int)))]
   ·rw[ih (a%b) h0 N b (by omega)];rw[Nat.gcd_comm a b,Nat.gcd_rec b a,Nat.gcd_comm (a%b) b]
   simp only[Zf8];rw[Zav (by simp;omega),ZcO (by omega),Zak,Zr (by omega)];rfl
def Zln {N:Nat}{a b:Int}(ha:0<=a)(hb:0<=b)(hN:b.toNat<N):Zho N a b=some (Nat.gcd a.toNat b.toNat:Int):=by
 unfold Zho;have:=Zoc N b.toNat N a.toNat hN;rw[Zt ha,Zt hb]at this;rw[this];rfl
def Zfr {a d:Int}(hd:0<d)(ha:0<=a):a.tmod d=0↔d.toNat∣a.toNat:=by
 rw[Zr ha];constructor
 ·intro h;have h1:d∣a:=Int.dvd_of_emod_eq_zero h;rw[←Zt ha,←Zt (show 0<=d by omega)]at h1;exact Int.natCast_dvd_natCast.1 h1
 intro h;have:((d.toNat:Nat):Int)∣((a.toNat:Nat):Int):=Int.natCast_dvd_natCast.2 h;rw[Zt ha,Zt (by omega)]at this;exact Int.emod_eq_zero_of_dvd this
def ZqH (M:Nat){a b:Int}(ha:1<=a)(hb:1<=b)(hh:a<=1000000):∀(d:Nat) (N:Nat),d<N->(d:Int)<=a->(∀e:Nat,d<e->¬(e∣a.toNat/\e∣b.toNat))→
  ∃r,ZaT (λx:Int=>Zgr M a b x) N (d:Int)=some r/\(match r with|.inl _=>(1:Int)|.inr p=>p)=(Nat.gcd a.toNat b.toNat:Int):=by
 intro d;induction d with
 |zero=>
  intro N hN _ h0;exfalso;exact h0 1 (by omega) ⟨Nat.one_dvd _,Nat.one_dvd _⟩
 |succ d ih=>
  intro N hN hg h0;cases N with
  |zero=>omega
  |succ N=>
   have h8:0<Nat.gcd a.toNat b.toNat:=Nat.gcd_pos_of_pos_left _ (by omega);have hf:Nat.gcd a.toNat b.toNat<=d+1:=by
    rcases Nat.lt_or_ge (d+1) (Nat.gcd a.toNat b.toNat)with h|h
    ·exact absurd ⟨Nat.gcd_dvd_left _ _,Nat.gcd_dvd_right _ _⟩ (h0 _ h)
    exact h
   by_cases h1:d=0
   ·subst h1;refine⟨.inl (),Zbh (by simp[Zgr]),?_⟩;simp only;omega
   have h9:((d+1:Nat):Int)>1:=by omega
   by_cases h2:(d+1)∣a.toNat/\(d+1)∣b.toNat
   ·refine⟨.inr ((d+1:Nat):Int),Zbh ?_,?_⟩
    ·simp only[Zgr];rw[Zav (by simpa using h9),ZcO (by omega),Zak,Zav,ZcO (by omega),Zak]
     ·simp only[Zak];rw[Zav];simp only[beq_iff_eq];exact(Zfr (by omega) (by omega)).2 (by simpa using h2.2)
     simp only[beq_iff_eq];exact(Zfr (by omega) (by omega)).2 (by simpa using h2.1)
    simp only;have:d+1∣Nat.gcd a.toNat b.toNat:=Nat.dvd_gcd h2.1 h2.2;have:=Nat.le_of_dvd h8 this;omega
   rw[ZbX (y:=(d:Int))]
   ·refine ih N (by omega) (by omega) λe he hd=>?_
    by_cases h3:e=d+1
    ·subst h3;exact h2 hd
    exact h0 e (by omega) hd
   simp only[Zgr];rw[Zav (by simpa using h9),ZcO (by omega),Zak];have h7:=Zfr (a:=a) (d:=((d+1:Nat):Int)) (by omega) (by omega);have h6:=Zfr (a:=b) (d:=((d+1:Nat):Int)) (by omega) (by omega);simp only[Zs]at h7 h6;by_cases h4:a.tmod ((d+1:Nat):Int)=0
   ·rw[Zav (by simpa using h4),ZcO (by omega),Zak,Zak,Zau,ZaK (by omega) (by omega)]
    ·congr 2;omega
    simp only[beq_iff_eq];intro h5;exact h2 ⟨h7.1 h4,h6.1 h5⟩
   rw[Zau (by simpa using h4),Zak,Zau (by simp),ZaK (by omega) (by omega)]
   congr 2;omega
def Ztj {N:Nat}{a b:Int}(ha:1<=a)(hb:1<=b)(h0:a<=1000000)(hN:a.toNat<N):Zmh N a b=some (Nat.gcd a.toNat b.toNat:Int):=by
 unfold Zmh;obtain⟨r,h1,h2⟩:=ZqH N ha hb h0 a.toNat N hN (by omega) (λe he hd=>by
  have:=Nat.le_of_dvd (by omega) hd.1;omega)
 rw[Zt (by omega)]at h1;rw[h1,Zak,←h2];cases r<;>rfl
def gP (a b:ZaR):Int:=(Nat.gcd a.Period.toNat b.Period.toNat:Int)
def ZtT {a b:ZaR}(ha:1<=a.Period):0<gP a b:=by
 have:0<Nat.gcd a.Period.toNat b.Period.toNat:=Nat.gcd_pos_of_pos_left _ (by omega);unfold gP;omega
def ZAH {a b:ZaR}(ha:1<=a.Period):gP a b<=a.Period:=by
 have:=Nat.le_of_dvd (by omega:0<a.Period.toNat) (Nat.gcd_dvd_left a.Period.toNat b.Period.toNat);unfold gP;omega
def ZuL {a b:ZaR}(ha:1<=a.Period):gP a b∣a.Period:=by
 have:=Int.natCast_dvd_natCast.2 (Nat.gcd_dvd_left a.Period.toNat b.Period.toNat)
 rwa [Zt (by omega)]at this
def ZtU {a b:ZaR}(hb:1<=b.Period):gP a b∣b.Period:=by
 have:=Int.natCast_dvd_natCast.2 (Nat.gcd_dvd_right a.Period.toNat b.Period.toNat)
 rwa [Zt (by omega)]at this
def SepD (a b:ZaR)(d:Int):Prop:=a.Long<=d%gP a b/\d%gP a b<=gP a b-b.Long
instance (a b:ZaR) (d:Int):Decidable (SepD a b d):=by unfold SepD;infer_instance
def Zuj {al bl d g:Int}(hg:0<g)(ha:1<=al)(hb:1<=bl):(∀x,1-bl<=x->x<al->(d-x)%g≠0)↔(al<=d%g/\d%g<=g-bl):=by
 have h0:=Int.emod_nonneg d (show g≠0 by omega);have h1:=Int.emod_lt_of_pos d hg;have hd:=Int.mul_ediv_add_emod d g;constructor
 ·intro h;constructor
  ·rcases Int.lt_or_le (d%g) al with h5|h4
   ·exfalso;refine h (d%g) (by omega) h5 ?_;have:d-d%g=g*(d/g):=by omega
    rw[this];exact Int.mul_emod_right _ _
   exact h4
  rcases Int.lt_or_le (g-bl) (d%g)with h5|h4
  ·exfalso;refine h (d%g-g) (by omega) (by omega) ?_;have:d-(d%g-g)=g*(d/g+1):=by rw[Int.mul_add];omega
   rw[this];exact Int.mul_emod_right _ _
  exact h4
 rintro⟨h2,h3⟩ x h7 h6 hx;obtain⟨q,hq⟩:=Int.dvd_of_emod_eq_zero hx;have e:d%g-x=g*(q-d/g):=by rw[Int.mul_sub];omega
 generalize q-d/g=k at e;rcases Int.lt_trichotomy k 0 with hk|hk|hk
 ·have:g*k<=g*(-1):=Int.mul_le_mul_of_nonneg_left (by omega) (by omega);omega
 ·subst hk;omega
 have:g*1<=g*k:=Int.mul_le_mul_of_nonneg_left (by omega) (by omega);omega
end Go.Sh

namespace Go.Sh
open Go Go.Eng
def VSpan.bounds {s:ZaR}(h:VSpan s):1<=s.Period/\s.Period<=960/\0<=s.From/\s.From<s.Period/\1<=s.Long/\s.Long<=s.Period:=h
def ZAI (a b:ZaR):gP a b=gP b a:=by unfold gP;rw[Nat.gcd_comm]
def Znd {N:Nat}(hN:2000<=N){a b:ZaR}(ha:1<=a.Period)(ht:a.Period<=960)(hb:1<=b.Period)(hm:b.Period<=960)(hq:0<=a.From)(hh:a.From<=960)(hk:0<=b.From)(hf:b.From<=960)
  (h9:1<=a.Long) (hg:a.Long<=960) (h8:1<=b.Long) (he:b.Long<=960):ZeS N a b=some (decide (SepD a b (b.From-a.From))):=by
 unfold ZeS;rw[Ztj ha hb (by omega) (by omega),Zak];have h6:0<gP a b:=ZtT ha;have hj:gP a b<=a.Period:=ZAH ha;have key:∀(n:Nat) (M:Nat) (x:Int),(a.Long-x).toNat=n->1-b.Long<=x->n<M->(∀y,1-b.Long<=y->y<x->(b.From-a.From-y)%gP a b≠0)→
   ∃r,ZaT (λx:Int=>ZcW N a b (gP a b) x) M x=some r/\(match r with|.inl _=>true|.inr p=>p)=decide (SepD a b (b.From-a.From)):=by
  intro n;induction n with
  |zero=>
   intro M x hn hx hM h5;cases M with
   |zero=>omega
   |succ M=>
    refine⟨.inl (),Zbh (by simp only[ZcW];rw[Zau (by simp;omega)]),?_⟩;symm;simp only[Zas];refine(Zuj h6 h9 h8).1 λy h1 h2=>h5 y h1 (by omega)
  |succ n ih=>
   intro M x hn hx hM h5;cases M with
   |zero=>omega
   |succ M=>
    have h7:x<a.Long:=by omega
    have e1:w64 (b.From-a.From)=b.From-a.From:=ZaK (by omega) (by omega);have e2:w64 (b.From-a.From-x)=b.From-a.From-x:=ZaK (by omega) (by omega);have h4:ZcW N a b (gP a b) x=if((b.From-a.From-x)%gP a b==0)=true then some (.inr (.inr false))else some (.inl (w64 (x+1))):=by
     simp only[ZcW];rw[Zav (by simpa using h7),e1,e2,Zkk N h6 (by omega),Zak]
    by_cases h0:(b.From-a.From-x)%gP a b=0
    ·refine⟨.inr false,Zbh (by rw[h4,Zav (by simpa using h0)]),?_⟩;symm;simp only[decide_eq_false_iff_not];intro hs;exact(Zuj h6 h9 h8).2 hs x hx h7 h0
    rw[ZbX (y:=x+1) (by rw[h4,Zau (by simpa using h0),ZaK (by omega) (by omega)])];refine ih M (x+1) (by omega) (by omega) (by omega) λy h1 h2=>?_
    by_cases h3:y=x
    ·subst h3;exact h0
    exact h5 y h1 (by omega)
 rw[ZaK (by omega) (by omega)];obtain⟨r,h1,h2⟩:=key (a.Long-(1-b.Long)).toNat N (1-b.Long) rfl (Int.le_refl _) (by omega) (λy h1 h2=>by omega);show(ZaT (λx:Int=>ZcW N a b (gP a b) x) N (1-b.Long)).bind _=_;rw[h1,Zak,←h2];cases r<;>rfl
def VSpan.separate {N:Nat}(hN:2000<=N){a b:ZaR}(ha:VSpan a)(hb:VSpan b):ZeS N a b=some (decide (SepD a b (b.From-a.From))):=by
 obtain⟨a1,a2,a3,a4,a5,a6⟩:=ha;obtain⟨b1,b2,b3,b4,b5,b6⟩:=hb;exact Znd hN a1 a2 b1 b2 a3 (by omega) b3 (by omega) a5 (by omega) b5 (by omega)
def Zpi {N:Nat}(hN:2000<=N){a b:ZaR}(ha:VSpan a)(hb:VSpan b):ZhY N a b=some (a.Long,gP a b-b.Long,gP a b):=by
 obtain⟨a1,a2,a3,a4,a5,a6⟩:=ha;obtain⟨b1,b2,b3,b4,b5,b6⟩:=hb;have h1:0<gP a b:=ZtT a1;have h0:gP a b<=a.Period:=ZAH a1;unfold ZhY;rw[Zln (by omega) (by omega) (by omega),Zak];show some (a.Long,w64 (gP a b-b.Long),gP a b)=_;rw[ZaK (by omega) (by omega)]
def Zoe {N:Nat}(hN:2000<=N){a b:ZaR}(ha:VSpan a)(hb:VSpan b):ZgT N a b=some (decide (SepD a b (b.From-a.From))):=by
 have hr:=Zpi hN ha hb;obtain⟨a1,a2,a3,a4,a5,a6⟩:=ha;obtain⟨b1,b2,b3,b4,b5,b6⟩:=hb;have h0:0<gP a b:=ZtT a1;have h1:gP a b<=a.Period:=ZAH a1;unfold ZgT;by_cases h:((a.Period==b.Period)&&((a.From==b.From)&&((a.Long==b.Long)&&true)))=true
 ·rw[Zav h];simp only[Ze,beq_iff_eq,Zap]at h;symm;simp only[Zan,decide_eq_false_iff_not];unfold SepD;rw[h.2.1,Int.sub_self,Int.zero_emod];omega
 rw[Zau h,hr];simp only[Zak];rw[ZaK (by omega) (by omega),Zqz N h0 (by omega)];simp only[Zak,Zan];rw[Zf,decide_eq_true_iff];simp only[Ze,Zas,SepD]
def Zoi {N:Nat}(hN:2000<=N)(a b:ZaR):ZgV N a b=some (if VSpan a/\VSpan b then(decide (SepD a b (b.From-a.From)),0)else(false,330)):=by
 unfold ZgV;rw[ZgB,ZgB];simp only[Zak];by_cases ha:VSpan a
 ·by_cases hb:VSpan b
  ·simp only[ha,hb,Zaw,and_self,Zaq,Zg,Zat,Zoe hN ha hb,Zak]
  simp[ha,hb]
 simp[ha]
end Go.Sh
namespace Go.Sh
open Go Go.Eng
def Zd9 {α:Type}{b:Nat}{l m:List α}(h:l.length+m.length<=100000)(hb:b<=100000):appI b l m=some (l++m):=by
 unfold appI;rw[Zav];have:(l.length+m.length)*b<=100000*100000:=Nat.mul_le_mul h hb;omega
def allV (l:List ZaR):Bool:=l.all λs=>decide (VSpan s)
def ZlN {N:Nat}(hN:100<=N)(l:List ZaR):Ze1 N l=some (if 32<l.length then 3 else if allV l then 0 else 330):=by
 unfold Ze1;by_cases h:32<l.length
 ·rw[Zav (by simp;omega),Zav h]
 rw[Zau (by simp;omega),Zau h];have:=ZtQ (l:=l) (p:=λs=>decide (VSpan s)) (body:=λx:Int=>ZdK N l x) (bad:=.inr 330) (fin:=.inl ()) (λk hk=>by
  simp only[ZdK];rw[Zav (by simpa using hk),Ziq,ZL hk,Zak,ZgB,Zak];by_cases hv:VSpan l[k]
  ·simp only[hv,Zaw,Zaq,Zg,Zat,decide_true];rw[ZaK (by omega) (by omega)];simp
  simp[hv]) (by simp[ZdK]) l.length N 0 (by omega) (by omega) (by omega)
 rw[show((0:Nat):Int)=0 from rfl]at this;rw[this,Zak,ZB];have e:(l.all λs=>decide (VSpan s))=allV l:=rfl;rw[e];cases allV l<;>rfl
end Go.Sh
namespace Go.Sh
open Go Go.Eng
def lcmP:List ZaR->Nat
 |[]=>1
 |s::l=>Nat.lcm s.Period.toNat (lcmP l)
def Zvf:∀{l:List ZaR},(∀s∈l,VSpan s)->0<lcmP l
 |[],_=>by decide
 |s::l,h=>by
  have h1:=(h s (by simp)).bounds;exact Nat.lcm_pos (by omega) (Zvf λt ht=>h t (by simp[ht]))
def Zn0:∀{l:List ZaR} {n:Nat},lcmP l∣n↔∀s∈l,s.Period.toNat∣n
 |[],n=>by simp[lcmP]
 |s::l,n=>by
  simp only[lcmP,List.mem_cons,forall_eq_or_imp];rw[Nat.lcm_dvd_iff,Zn0]
def Znb {N:Nat}(hN:2000<=N){ps:List Int}(h7:∀p∈ps,1<=p/\p<=960):∀(n M k:Nat) (m:Nat),ps.length-k=n->k<=ps.length->n<M->1<=m->m<=960->ps.length<=1000→
  ∃r,ZaT (λx:Int×Int=>Zdt N 960 ps x.1 x.2) M ((m:Int),(k:Int))=some r∧
   (r<=960->r=((ps.drop k).foldl (λa p=>Nat.lcm a p.toNat) m:Nat))/\(960<r->960<(ps.drop k).foldl (λa p=>Nat.lcm a p.toNat) m):=by
 have mono:∀(l:List Int) (a:Nat),(∀p∈l,1<=p)->0<a->a<=l.foldl (λa p=>Nat.lcm a p.toNat) a:=by
  intro l;induction l with
  |nil=>intro a _ _;exact Nat.le_refl _
  |cons p l ih=>
   intro a hp ha;simp only[ZE];have h1:=hp p (by simp);have h2:0<Nat.lcm a p.toNat:=Nat.lcm_pos ha (by omega);exact Nat.le_trans (Nat.le_of_dvd h2 (Nat.dvd_lcm_left _ _)) (ih _ (λq hq=>hp q (by simp[hq])) h2)
 intro n;induction n with
 |zero=>
  intro M k m hn hk hM hm h8 hl;have:k=ps.length:=by omega
  subst this;cases M with
  |zero=>omega
  |succ M=>
   refine⟨(m:Int),Zbh (by simp only[Zdt];rw[Zau (by simp)]),λ_=>?_,λh=>?_⟩
   ·simp
   omega
 |succ n ih=>
  intro M k m hn hk hM hm h8 hl;cases M with
  |zero=>omega
  |succ M=>
   have h4:k<ps.length:=by omega
   obtain⟨p1,p2⟩:=h7 ps[k] (List.getElem_mem h4);have hg:0<Nat.gcd m ps[k].toNat:=Nat.gcd_pos_of_pos_left _ (by omega);have hq:(m:Int).tdiv (Nat.gcd m ps[k].toNat:Int)=((m/Nat.gcd m ps[k].toNat:Nat):Int):=by
    rw[Zq (by omega)];rfl
   have h5:m/Nat.gcd m ps[k].toNat<=m:=Nat.div_le_self _ _;have h6:((m/Nat.gcd m ps[k].toNat:Nat):Int)*ps[k]=(Nat.lcm m ps[k].toNat:Int):=by
    have e1:ps[k]=(ps[k].toNat:Int):=by omega
    have e2:Nat.lcm m ps[k].toNat=m/Nat.gcd m ps[k].toNat*ps[k].toNat:=by
     rw[Nat.lcm,Nat.mul_comm m,Nat.mul_div_assoc _ (Nat.gcd_dvd_left _ _),Nat.mul_comm]
    rw[e2,Int.natCast_mul,←e1]
   have hf:Nat.lcm m ps[k].toNat<=960*960:=by
    have h1:m/Nat.gcd m ps[k].toNat*ps[k].toNat<=960*960:=Nat.mul_le_mul (by omega) (by omega);have e2:Nat.lcm m ps[k].toNat=m/Nat.gcd m ps[k].toNat*ps[k].toNat:=by
     rw[Nat.lcm,Nat.mul_comm m,Nat.mul_div_assoc _ (Nat.gcd_dvd_left _ _),Nat.mul_comm]
    omega
   have h3:0<Nat.lcm m ps[k].toNat:=Nat.lcm_pos (by omega) (by omega);have h0:Zdt N 960 ps (m:Int) (k:Int)=if 960<Nat.lcm m ps[k].toNat then some (.inr (Nat.lcm m ps[k].toNat:Int))else some (.inl ((Nat.lcm m ps[k].toNat:Int),((k+1:Nat):Int))):=by
    simp only[Zdt];rw[Zav (by simpa using h4),Ziq,ZL h4,Zak,Zln (by omega) (by omega) (by omega),Zak,Zs,Zjv (by omega),Zak,hq];have he:(0:Int)<=((m/Nat.gcd m ps[k].toNat:Nat):Int):=Int.natCast_nonneg _;have h9:((m/Nat.gcd m ps[k].toNat:Nat):Int)<=960:=Int.ofNat_le.2 (Nat.le_trans h5 h8);have e3:IntKind.i64.wrap ((m/Nat.gcd m ps[k].toNat:Nat):Int)=((m/Nat.gcd m ps[k].toNat:Nat):Int):=ZaK (Int.le_trans (by decide) he) (Int.le_trans h9 (by decide));rw[e3,h6,ZaK (by omega) (by omega),ZaK (by omega) (by omega)];by_cases hc:960<Nat.lcm m ps[k].toNat
    ·rw[Zav (by simp;omega),Zav hc]
    rw[Zau (by simp;omega),Zau hc];simp
   rw[Zgu h4,ZE];by_cases hc:960<Nat.lcm m ps[k].toNat
   ·refine⟨(Nat.lcm m ps[k].toNat:Int),Zbh (by rw[h0,Zav hc]),λh=>?_,λ_=>?_⟩
    ·omega
    exact Nat.lt_of_lt_of_le hc (mono _ _ (λq hq=>(h7 q (List.mem_of_mem_drop hq)).1) h3)
   rw[ZbX (by rw[h0,Zau hc])];exact ih M (k+1) _ (by omega) (by omega) (by omega) (by omega) (by omega) hl
def Zrr:∀(l:List ZaR) (m:Nat),(l.map ZaR.Period).foldl (λa p=>Nat.lcm a p.toNat) m=Nat.lcm m (lcmP l)
 |[],m=>by simp[lcmP,Nat.lcm_one_right]
 |s::l,m=>by simp only[Z3,ZE,lcmP];rw[Zrr l,Nat.lcm_assoc]
def Zvr (l:List ZaR):Int×Int:=if 32<l.length then(0,3)else if allV l=true then(if lcmP l<=960 then((lcmP l:Int),0)else(0,6))else(0,330)
def Zvz {l:List ZaR}(h:allV l=true):∀s∈l,VSpan s:=by
 unfold allV at h;rw[Zu]at h;exact λs hs=>by simpa using h s hs
def Zog {N:Nat}(hN:2000<=N)(l:List ZaR):ZgU N l=some (Zvr l):=by
 unfold ZgU Zvr;rw[ZlN (by omega)];simp only[Zak];by_cases h:32<l.length
 ·simp[h]
 by_cases hv:allV l=true
 ·simp only[h,hv,Zaw,Zat,Zaq,Zg];have h7:Zgs 8 (l.length:Int) (l.length:Int) (0:Int)=some (List.replicate l.length 0):=by
   unfold Zgs;rw[Zav (by omega)];simp
  rw[h7,Zak];have h0:∀(n M k:Nat),l.length-k=n->k<=l.length->n<M->ZaT (λx:Int×List Int=>Ze2 N l x.1 x.2) M ((k:Int),(l.map ZaR.Period).take k++List.replicate (l.length-k) 0)=some (l.map ZaR.Period):=by
   intro n;induction n with
   |zero=>
    intro M k hn hk hM;have:k=l.length:=by omega
    subst this;cases M with
    |zero=>omega
    |succ M=>
     refine Zbh ?_;simp only[Ze2];rw[Zau (by simp)];simp[Zae]
   |succ n ih=>
    intro M k hn hk hM;cases M with
    |zero=>omega
    |succ M=>
     have h5:k<l.length:=by omega
     have hc:=ih M (k+1) (by omega) (by omega) (by omega);rw[ZbX (y:=(((k+1:Nat):Int),(l.map ZaR.Period).take (k+1)++List.replicate (l.length-(k+1)) 0)),hc];simp only[Ze2];have h8:((l.map ZaR.Period).take k++List.replicate (l.length-k) 0).length=l.length:=by simp;omega
     rw[Zav (by simpa using h5),Ziq,ZL h5,Zak,Ziq,ZL (by omega),Zak,ZaK (by omega) (by omega)];have h4:List.set ((l.map ZaR.Period).take k++List.replicate (l.length-k) 0) k l[k].Period=(l.map ZaR.Period).take (k+1)++List.replicate (l.length-(k+1)) 0:=by
      rw[Zab _ _ (by simp;omega)];have e1:k-((l.map ZaR.Period).take k).length=0:=by simp;omega
      rw[e1,show l.length-k=(l.length-(k+1))+1 by omega,List.replicate_succ,List.set_cons_zero,Zaf (by simpa using h5)];simp
     simp only[Zs,h4];rfl
  have hc:=h0 l.length N 0 (by omega) (by omega) (by omega);simp only[List.take_zero,Z7,Nat.sub_zero]at hc;rw[show((0:Nat):Int)=0 from rfl]at hc;rw[hc,Zak];have h9:=Zvz hv;obtain⟨r,h1,h2,h3⟩:=Znb hN (ps:=l.map ZaR.Period) (λp hp=>by
   obtain⟨s,hs,rfl⟩:=List.mem_map.1 hp;have:=(h9 s hs).bounds;omega) l.length N 0 1 (by simp) (by omega) (by omega) (by omega) (by omega) (by simp;omega)
  rw[ZB,Zrr,Nat.lcm_one_left]at h2 h3;have hf:ZhZ N 960 (l.map ZaR.Period)=some r:=by
   unfold ZhZ;have ha:ZaT (λx:Int×Int=>Zdt N 960 (l.map ZaR.Period) x.1 x.2) N (1,0)=some r:=h1;rw[ha,Zak]
  rw[hf,Zak];by_cases h6:960<r
  ·rw[Zav (by simpa using h6),Zau (by have:=h3 h6;omega)]
  have:=h2 (by omega);rw[Zau (by simpa using h6),Zav (by omega),this]
 simp[h,hv]
end Go.Sh
namespace Go.Sh
open Go Go.Eng
def ZMl:∀(b a:Nat),∃p q:Int,(Nat.gcd a b:Int)=a*p+b*q:=by
 intro b;induction b using Nat.strongRecOn with
 |_ b ih=>
  intro a;by_cases hb:b=0
  ·subst hb;exact⟨1,0,by simp⟩
  obtain⟨p,q,h⟩:=ih (a%b) (Nat.mod_lt _ (Nat.pos_of_ne_zero hb)) b;refine⟨q,p-(a/b:Nat)*q,?_⟩;have e1:Nat.gcd a b=Nat.gcd b (a%b):=by rw[Nat.gcd_comm a b,Nat.gcd_rec b a,Nat.gcd_comm]
  have e2:((a%b:Nat):Int)=(a:Int)-b*(a/b:Nat):=by
   have:=Nat.div_add_mod a b;have:((b*(a/b)+a%b:Nat):Int)=(a:Int):=by rw[this]
   rw[Int.natCast_add,Int.natCast_mul]at this;omega
  rw[e1,h,e2,Int.sub_mul,Int.mul_sub,Int.mul_assoc];omega
def crt {m n:Nat}(hm:0<m)(hn:0<n){x y:Int}(h:(y-x)%(Nat.gcd m n:Int)=0):∃z:Int,0<=z/\z<(m:Int)*n/\(z-x)%m=0/\(z-y)%n=0:=by
 obtain⟨p,q,h0⟩:=ZMl n m;obtain⟨c,hc⟩:=Int.dvd_of_emod_eq_zero h;have h2:0<(m:Int)*n:=Int.mul_pos (by omega) (by omega);refine⟨(x+m*(p*c))%(m*n),Int.emod_nonneg _ (by omega),Int.emod_lt_of_pos _ h2,?_,?_⟩
 ·rw[Int.sub_emod,Zn _ (Int.dvd_mul_right _ _),←Int.sub_emod];rw[show x+(m:Int)*(p*c)-x=m*(p*c)by omega];exact Int.mul_emod_right _ _
 rw[Int.sub_emod,Zn _ (Int.dvd_mul_left _ _),←Int.sub_emod];have:x+(m:Int)*(p*c)-y=n*(-(q*c)):=by
  have h1:y-x=(m:Int)*p*c+n*q*c:=by rw[hc,h0,Zl]
  rw[Int.mul_neg,←Int.mul_assoc,←Int.mul_assoc];omega
 rw[this];exact Int.mul_emod_right _ _
def ZmG {a b g:Int}:(a-b)%g=0↔a%g=b%g:=by
 constructor
 ·intro h;exact Int.emod_eq_emod_iff_emod_sub_eq_zero.2 h
 intro h;exact Int.emod_eq_emod_iff_emod_sub_eq_zero.1 h
def ZxI {a b:ZaR}(ha:VSpan a)(hb:VSpan b):SepD a b (b.From-a.From)↔∀x:Nat,(x:Int)<a.Period*b.Period->¬(((x:Int)-a.From)%a.Period<a.Long/\((x:Int)-b.From)%b.Period<b.Long):=by
 obtain⟨a1,a2,a3,a4,a5,a6⟩:=ha.bounds;obtain⟨b1,b2,b3,b4,b5,b6⟩:=hb.bounds;have h7:0<gP a b:=ZtT a1;have h6:gP a b∣a.Period:=ZuL a1;have h5:gP a b∣b.Period:=ZtU b1;have hs:=Zuj (d:=b.From-a.From) h7 a5 b5;unfold SepD;rw[←hs];constructor
 ·rintro h x _ ⟨he,h9⟩;have m0:=Int.emod_nonneg ((x:Int)-a.From) (show a.Period≠0 by omega);have n0:=Int.emod_nonneg ((x:Int)-b.From) (show b.Period≠0 by omega);refine h (((x:Int)-a.From)%a.Period-((x:Int)-b.From)%b.Period) (by omega) (by omega) ?_;obtain⟨q1,h4⟩:=h6;obtain⟨q2,h3⟩:=h5;have e1:=Int.mul_ediv_add_emod ((x:Int)-a.From) a.Period;have e2:=Int.mul_ediv_add_emod ((x:Int)-b.From) b.Period;generalize ((x:Int)-a.From)/a.Period=k1 at e1;generalize ((x:Int)-b.From)/b.Period=k2 at e2;have e3:b.From-a.From-(((x:Int)-a.From)%a.Period-((x:Int)-b.From)%b.Period)=gP a b*(q1*k1-q2*k2):=by
   have f1:a.Period*k1=gP a b*(q1*k1):=by rw[←Int.mul_assoc,←h4]
   have f2:b.Period*k2=gP a b*(q2*k2):=by rw[←Int.mul_assoc,←h3]
   rw[Int.mul_sub];omega
  rw[e3];exact Int.mul_emod_right _ _
 intro h y h8 h2 hy;have h1:∀u v:Int,u-v=y->0<=u->u<a.Long->0<=v->v<b.Long->False:=by
  intro u v hf u0 u1 v0 v1;obtain⟨z,z0,z1,z2,z3⟩:=crt (m:=a.Period.toNat) (n:=b.Period.toNat) (by omega) (by omega) (x:=a.From+u) (y:=b.From+v) (by
   rw[show b.From+v-(a.From+u)=b.From-a.From-y by omega];exact hy)
  rw[Zt (by omega)]at z1 z2;rw[Zt (by omega)]at z1 z3;refine h z.toNat (by rw[Zt z0];exact z1) ⟨?_,?_⟩
  ·rw[Zt z0];have:(z-a.From)%a.Period=u%a.Period:=ZmG.1 (by rw[show z-a.From-u=z-(a.From+u)by omega];exact z2);rw[this,Zo u0 (by omega)];exact u1
  rw[Zt z0];have:(z-b.From)%b.Period=v%b.Period:=ZmG.1 (by rw[show z-b.From-v=z-(b.From+v)by omega];exact z3);rw[this,Zo v0 (by omega)];exact v1
 by_cases h0:0<=y
 ·exact h1 y 0 (by omega) h0 h2 (by omega) (by omega)
 exact h1 0 (-y) (by omega) (by omega) (by omega) (by omega) (by omega)
def ZyF {d g:Int}(hg:0<g):(-d)%g=if d%g=0 then 0 else g-d%g:=by
 have h0:=Int.emod_nonneg d (show g≠0 by omega);have h1:=Int.emod_lt_of_pos d hg;have hd:=Int.mul_ediv_add_emod d g;split
 ·rename_i h;have: -d=g*(-(d/g)):=by rw[Int.mul_neg];omega
  rw[this];exact Int.mul_emod_right _ _
 rename_i h;have: -d=(g-d%g)+g*(-(d/g)-1):=by rw[Int.mul_sub,Int.mul_neg];omega
 rw[this,Zm];exact Zo (by omega) (by omega)
def Zyh {a b:ZaR}(ha:VSpan a)(hb:VSpan b):SepD b a (a.From-b.From)↔SepD a b (b.From-a.From):=by
 obtain⟨a1,a2,a3,a4,a5,a6⟩:=ha.bounds;obtain⟨b1,b2,b3,b4,b5,b6⟩:=hb.bounds;have h2:0<gP a b:=ZtT a1;have h0:=Int.emod_nonneg (b.From-a.From) (show gP a b≠0 by omega);have h1:=Int.emod_lt_of_pos (b.From-a.From) h2;unfold SepD;rw[ZAI b a,show a.From-b.From= -(b.From-a.From)by omega,ZyF h2];split<;>omega
end Go.Sh
namespace Go.Sh
open Go Go.Eng
def allB (n:Nat)(p:Nat->Bool):Bool:=(List.range n).all p
def Zbr {n:Nat}{p:Nat->Bool}:allB n p=true↔∀k,k<n->p k=true:=by simp[allB]
def Zk6 {n:Nat}{p q:Nat->Bool}(h:∀k,k<n->p k=q k):allB n p=allB n q:=by
 rw[Zf,Zbr,Zbr];exact⟨λhp k hk=>by rw[←h k hk];exact hp k hk,λhp k hk=>by rw[h k hk];exact hp k hk⟩
def Zy7 (n:Nat)(p q:Nat->Bool):allB n (λk=>p k&&q k)=(allB n p&&allB n q):=by
 rw[Zf,Ze,Zbr,Zbr,Zbr];simp only[Ze];exact⟨λh=>⟨λk hk=>(h k hk).1,λk hk=>(h k hk).2⟩,λh k hk=>⟨h.1 k hk,h.2 k hk⟩⟩
def Zbm {ρ:Type}{n:Nat}{p:Nat->Bool}{body:Int->Option (Int⊕ρ)}{bad fin:ρ}(h0:∀k:Nat,k<n->body (k:Int)=if p k=true then some (.inl ((k+1:Nat):Int))else some (.inr bad))
  (h4:body (n:Int)=some (.inr fin)) {N:Nat} (hN:n<N):ZaT body N 0=some (if allB n p then fin else bad):=by
 have key:∀(m N k:Nat),n-k=m->k<=n->m<N->ZaT body N (k:Int)=some (if(List.range' k m).all p then fin else bad):=by
  intro m;induction m with
  |zero=>
   intro N k h1 h2 h3;obtain rfl:k=n:=by omega
   cases N with
   |zero=>omega
   |succ N=>rw[Zbh h4];rfl
  |succ m ih=>
   intro N k h1 h2 h3;cases N with
   |zero=>omega
   |succ N=>
    rw[Z8,List.all_cons];by_cases hp:p k=true
    ·rw[ZbX (by rw[h0 k (by omega),Zav hp]),ih N (k+1) (by omega) (by omega) (by omega),hp,Zk]
    rw[Zbh (by rw[h0 k (by omega),Zau hp])];simp[hp]
 have:=key n N 0 (by omega) (by omega) hN;rw[←Z9]at this;exact this
def ZjG {β ρ:Type}{n:Nat}{p:Nat->Bool}{f:β->Nat->β}{body:Int×β->Option ((Int×β)⊕ρ)}{bad:ρ}{fin:β->ρ}(I:Nat->β->Prop)
  (h4:∀k b,k<n->I k b->body ((k:Int),b)=if p k=true then some (.inl (((k+1:Nat):Int),f b k))else some (.inr bad)) (hI:∀k b,k<n->I k b->p k=true->I (k+1) (f b k))
  (h5:∀b,I n b->body ((n:Int),b)=some (.inr (fin b))) {N:Nat} (hN:n<N) {b0:β} (h0:I 0 b0):ZaT body N (0,b0)=some (if allB n p then fin ((List.range n).foldl f b0)else bad)/\(allB n p=true->I n ((List.range n).foldl f b0)):=by
 have key:∀(m N k:Nat) (b:β),n-k=m->k<=n->m<N->I k b->ZaT body N ((k:Int),b)=some (if(List.range' k m).all p then fin ((List.range' k m).foldl f b)else bad)/\((List.range' k m).all p=true->I n ((List.range' k m).foldl f b)):=by
  intro m;induction m with
  |zero=>
   intro N k b h1 h2 h3 hb;obtain rfl:k=n:=by omega
   cases N with
   |zero=>omega
   |succ N=>exact⟨by rw[Zbh (h5 b hb)];rfl,λ_=>hb⟩
  |succ m ih=>
   intro N k b h1 h2 h3 hb;cases N with
   |zero=>omega
   |succ N=>
    rw[Z8,List.all_cons,ZE];by_cases hp:p k=true
    ·obtain⟨i1,i2⟩:=ih N (k+1) (f b k) (by omega) (by omega) (by omega) (hI k b (by omega) hb hp);rw[hp,Zk];exact⟨by rw[ZbX (by rw[h4 k b (by omega) hb,Zav hp]),i1],i2⟩
    refine⟨?_,λh=>?_⟩
    ·rw[Zbh (by rw[h4 k b (by omega) hb,Zau hp])];simp[hp]
    simp[hp]at h
 obtain⟨h1,h2⟩:=key n N 0 b0 (by omega) (by omega) hN h0;rw[←Z9]at h1 h2;exact⟨h1,h2⟩
def Zd7 {β ρ:Type}{n:Nat}{f:β->Nat->β}{body:Int×β->Option ((Int×β)⊕ρ)}{fin:β->ρ}(I:Nat->β->Prop)
  (h4:∀k b,k<n->I k b->body ((k:Int),b)=some (.inl (((k+1:Nat):Int),f b k))) (hI:∀k b,k<n->I k b->I (k+1) (f b k))
  (h5:∀b,I n b->body ((n:Int),b)=some (.inr (fin b))) {N:Nat} (hN:n<N) {b0:β} (h0:I 0 b0):ZaT body N (0,b0)=some (fin ((List.range n).foldl f b0))/\I n ((List.range n).foldl f b0):=by
 have key:∀(m N k:Nat) (b:β),n-k=m->k<=n->m<N->I k b->ZaT body N ((k:Int),b)=some (fin ((List.range' k m).foldl f b))/\I n ((List.range' k m).foldl f b):=by
  intro m;induction m with
  |zero=>
   intro N k b h1 h2 h3 hb;obtain rfl:k=n:=by omega
   cases N with
   |zero=>omega
   |succ N=>exact⟨by rw[Zbh (h5 b hb)];rfl,hb⟩
  |succ m ih=>
   intro N k b h1 h2 h3 hb;cases N with
   |zero=>omega
   |succ N=>
    obtain⟨i1,i2⟩:=ih N (k+1) (f b k) (by omega) (by omega) (by omega) (hI k b (by omega) hb);exact⟨by rw[ZbX (h4 k b (by omega) hb),i1];rfl,i2⟩
 obtain⟨h1,h2⟩:=key n N 0 b0 (by omega) (by omega) hN h0;rw[←Z9]at h1 h2;exact⟨h1,h2⟩
def Zp0 {α β:Type}(d:α)(l:List α)(f:β->α->β)(b:β):(List.range l.length).foldl (λb k=>f b (l.getD k d)) b=l.foldl f b:=by
 have h:(List.range l.length).map (λk=>l.getD k d)=l:=ZuA l.length d l rfl rfl
 conv=>rhs;rw[←h]
 rw[List.foldl_map]
def ZaO {n:Nat}(h:n<1000000):w64 ((n:Int)+1)=((n+1:Nat):Int):=by rw[ZaK (by omega) (by omega)];omega
def ZbH {α:Type}{l:List α}{k:Nat}(h:k<l.length):idx l (k:Int)=some l[k]:=by rw[Ziq,ZL h]
def Zb0 {α:Type}{l:List α}{i:Int}(d:α)(h0:0<=i)(h:i<l.length):idx l i=some (l.getD i.toNat d):=by
 rw[Zrn h0 (by omega)];simp[ZF,ZL (show i.toNat<l.length by omega)]
def Zp9 {α:Type}[BEq α][LawfulBEq α](l:List α)(x:α):(match(List.range' 0 l.length).find? (λk=>x==l.getD k x)with|some j=>(j:Int)|none=> -1)≥0↔l.contains x=true:=by
 rw[←Z9];cases h:(List.range l.length).find? (λk=>x==l.getD k x)with
 |none=>
  simp only[List.find?_eq_none,Z5]at h;constructor
  ·intro h;exact absurd h (by decide)
  intro hc;rw[ZA]at hc;obtain⟨k,hk,rfl⟩:=List.getElem_of_mem hc;exact absurd (by simp[ZF,hk]) (h k hk)
 |some j=>
  have h1:=List.find?_some h;have h2:=List.mem_of_find?_eq_some h;simp only[Z5]at h2;constructor
  ·intro _;rw[ZA];have:l.getD j x=l[j]:=by simp[ZF,h2]
   rw[this]at h1;rw[eq_of_beq h1];exact List.getElem_mem h2
  intro _;exact Int.natCast_nonneg j
def Zgy {N:Nat}{l:List Bool}(h:l.length<N)(h':l.length<1000)(x:Bool):Zcr N l x=some (l.contains x):=by
 unfold Zcr ZdI;have:=ZpV (q:=λk=>x==l.getD k x) (P:=l.length) (body:=λi=>Zcq N l x i) (bad:=.inl ()) (good:=λk=>.inr (k:Int)) (λk hk=>by
  unfold Zcq;rw[Zav (by simp;omega),ZbH hk,Zak];have:l.getD k x=l[k]:=by simp[ZF,hk]
  simp only[this];split
  ·rfl
  rw[ZaO (by omega)]) (by unfold Zcq;rw[Zau (by simp)]) l.length N 0 (by omega) (by omega) h
 rw[show((0:Nat):Int)=0 from rfl]at this;rw[this];have hc:=Zp9 l x;cases hf:(List.range' 0 l.length).find? (λk=>x==l.getD k x)with
 |none=>
  rw[hf]at hc;have h0:l.contains x=false:=by
   cases hl:l.contains x with
   |false=>rfl
   |true=>exact absurd (hc.2 hl) (by decide)
  rw[h0];rfl
 |some j=>
  rw[hf]at hc;have:=hc.1 (Int.natCast_nonneg j);simp only[Zak,this];simp
def Zhi {N:Nat}{l:List Int}(h:l.length<N)(h':l.length<1000)(x:Int):ZcH N l x=some (l.contains x):=by
 unfold ZcH Zej;have:=ZpV (q:=λk=>x==l.getD k x) (P:=l.length) (body:=λi=>ZcG N l x i) (bad:=.inl ()) (good:=λk=>.inr (k:Int)) (λk hk=>by
  unfold ZcG;rw[Zav (by simp;omega),ZbH hk,Zak];have:l.getD k x=l[k]:=by simp[ZF,hk]
  simp only[this];split
  ·rfl
  rw[ZaO (by omega)]) (by unfold ZcG;rw[Zau (by simp)]) l.length N 0 (by omega) (by omega) h
 rw[show((0:Nat):Int)=0 from rfl]at this;rw[this];have hc:=Zp9 l x;cases hf:(List.range' 0 l.length).find? (λk=>x==l.getD k x)with
 |none=>
  rw[hf]at hc;have h0:l.contains x=false:=by
   cases hl:l.contains x with
   |false=>rfl
   |true=>exact absurd (hc.2 hl) (by decide)
  rw[h0];rfl
 |some j=>
  rw[hf]at hc;have:=hc.1 (Int.natCast_nonneg j);simp only[Zak,this];simp
def Zjs {N:Nat}{l:List Int}(h:l.length<N)(h':l.length<1000)(x:Int):Zju N l x=some (l.contains x):=by
 unfold Zju;have:=Zbm (n:=l.length) (p:=λk=>!(l.getD k 0==x)) (body:=λi=>Zjt N l x i) (bad:=.inr true) (fin:=.inl ()) (λk hk=>by
  unfold Zjt;rw[Zav (by simp;omega),ZbH hk,Zak];have:l.getD k 0=l[k]:=by simp[ZF,hk]
  simp only[this,ZaO (show k<1000000 by omega)];cases l[k]==x<;>rfl) (by unfold Zjt;rw[Zau (by simp)]) h
 rw[this];by_cases hc:l.contains x=true
 ·rw[Zau,hc];rfl;rw[Zbr];rw[ZA]at hc;obtain⟨k,hk,rfl⟩:=List.getElem_of_mem hc;intro h;have:=h k hk;simp[ZF,hk]at this
 rw[Zav]
 ·simp only[Bool.not_eq_true]at hc;rw[hc];rfl
 rw[Zbr];intro k hk;have h0:l[k]≠x:=λe=>hc (by rw[ZA,←e];exact List.getElem_mem hk)
 simp[ZF,hk,h0]
def ZbE {α:Type}{l:List α}{k:Nat}(h:k<l.length)(d:α):l.getD k d=l[k]:=by simp[ZF,h]
end Go.Sh

namespace Go.Sh
open Go Go.Eng
def mkS (p:Int):ZaR:=⟨p,0,1⟩
def perB (p:Int):Bool:=decide (1<=p)&&decide (p<=240)
def lcmL (P:List Int):Nat:=lcmP (P.map mkS)
def perU (P:List Int)(u:ZaN):Int:=P.getD u.Stream.toNat 0
def useB (P:List Int)(u:ZaN):Bool:=decide (0<=u.Stream/\u.Stream<(P.length:Int)/\0<=u.Port/\u.Port<48/\0<=u.From/\u.From<perU P u/\1<=u.Long/\u.Long<=perU P u)
def ZiL (p:ZaB):Bool:=decide (p.Periods.length<=12)&&decide (p.Uses.length<=192)&&p.Periods.all perB&&p.Uses.all (useB p.Periods)&&decide (lcmL p.Periods<=960)
def ZjC {p:Int}:perB p=true↔1<=p/\p<=240:=by simp[perB]
def Zvy {P:List Int}(h:P.all perB=true):allV (P.map mkS)=true:=by
 unfold allV;rw[Zu]at h⊢;intro s hs;obtain⟨p,hp,rfl⟩:=List.mem_map.1 hs;have:=ZjC.1 (h p hp);rw[Zas];show 1<=p/\p<=960/\(0:Int)<=0/\(0:Int)<p/\(1:Int)<=1/\(1:Int)<=p;omega
def Zsd {N:Nat}(hN:2000<=N){P:List Int}(hl:P.length<=1000):ZfP N P=some (Zvr (P.map mkS)):=by
 unfold ZfP;have h3:Zgs 24 (P.length:Int) (P.length:Int) (ZaR.mk 0 0 0)=some (List.replicate P.length (ZaR.mk 0 0 0)):=by
  unfold Zgs;rw[Zav (by omega)];simp
 rw[h3,Zak];have h0:∀(n M k:Nat),P.length-k=n->k<=P.length->n<M->ZaT (λx:Int×List ZaR=>Zg0 N P x.1 x.2) M ((k:Int),(P.map mkS).take k++List.replicate (P.length-k) (ZaR.mk 0 0 0))=some (P.map mkS):=by
  intro n;induction n with
  |zero=>
   intro M k hn hk hM;have:k=P.length:=by omega
   subst this;cases M with
   |zero=>omega
   |succ M=>
    refine Zbh ?_;simp only[Zg0];rw[Zau (by simp)];simp[Zae]
  |succ n ih=>
   intro M k hn hk hM;cases M with
   |zero=>omega
   |succ M=>
    have h2:k<P.length:=by omega
    have hc:=ih M (k+1) (by omega) (by omega) (by omega);rw[ZbX (y:=(((k+1:Nat):Int),(P.map mkS).take (k+1)++List.replicate (P.length-(k+1)) (ZaR.mk 0 0 0))),hc];simp only[Zg0];have h4:((P.map mkS).take k++List.replicate (P.length-k) (ZaR.mk 0 0 0)).length=P.length:=by simp;omega
    rw[Zav (by simpa using h2),Ziq,ZL h2,Zak,Ziq,ZL (by omega),Zak,ZaK (by omega) (by omega)];have h1:List.set ((P.map mkS).take k++List.replicate (P.length-k) (ZaR.mk 0 0 0)) k (mkS P[k])=(P.map mkS).take (k+1)++List.replicate (P.length-(k+1)) (ZaR.mk 0 0 0):=by
     rw[Zab _ _ (by simp;omega)];have e1:k-((P.map mkS).take k).length=0:=by simp;omega
     rw[e1,show P.length-k=(P.length-(k+1))+1 by omega,List.replicate_succ,List.set_cons_zero,Zaf (by simpa using h2)];simp
    simp only[Zs];rw[show(ZaR.mk P[k] 0 1)=mkS P[k]from rfl,h1];rfl
 have hc:=h0 P.length N 0 (by omega) (by omega) (by omega);simp only[List.take_zero,Z7,Nat.sub_zero]at hc;rw[show((0:Nat):Int)=0 from rfl]at hc;rw[hc,Zak,Zog hN,Zak]
def ZoG {P:List Int}(h:P.all perB=true):0<lcmL P:=Zvf (Zvz (Zvy h))
def Zh2 {P:List Int}{n:Nat}:lcmL P∣n↔∀p∈P,p.toNat∣n:=by
 unfold lcmL;rw[Zn0];simp[mkS]
def Zhz {N:Nat}(hN:2000<=N){P:List Int}(hl:P.length<=12)(h:P.all perB=true):ZfP N P=some (if lcmL P<=960 then((lcmL P:Int),0)else(0,6)):=by
 rw[Zsd hN (by omega)];unfold Zvr;rw[Zau (by simp;omega),Zav (Zvy h)];rfl
def ZnJ {N:Nat}(hN:2000<=N){P:List Int}(hl:P.length<=12)(h:P.all perB=true):ZiE N P=some (if lcmL P<=960 then(lcmL P:Int)else 0):=by
 have hp:∀p∈P,1<=p/\p<=240:=λp hp=>ZjC.1 (List.all_eq_true.1 h p hp)
 have inner:∀(j:Nat),1<=j->j<=1000->∀(n M k:Nat) (b:Bool),P.length-k=n->k<=P.length->n<M->ZaT (λx:Bool×Int=>Zh0 N P (j:Int) x.1 x.2) M (b,(k:Int))=some (b&&(P.drop k).all (λp=>decide (p.toNat∣j))):=by
  intro j h9 h8 n;induction n with
  |zero=>
   intro M k b hn hk hM;have:k=P.length:=by omega
   subst this;cases M with
   |zero=>omega
   |succ M=>rw[Zbh (r:=b) (by simp[Zh0])];simp
  |succ n ih=>
   intro M k b hn hk hM;cases M with
   |zero=>omega
   |succ M=>
    have h4:k<P.length:=by omega
    have hV:=hp P[k] (List.getElem_mem h4);have h0:=Zfr (a:=(j:Int)) (d:=P[k]) (by omega) (by omega);simp only[Zs]at h0;have hc:=ih M (k+1) (b&&decide (P[k].toNat∣j)) (by omega) (by omega) (by omega);rw[ZbX (y:=(b&&decide (P[k].toNat∣j),((k+1:Nat):Int))),hc,Zgu h4,List.all_cons,Bool.and_assoc];simp only[Zh0];rw[Zav (by simpa using h4)];cases b with
    |false=>simp only[Zg,Zat,Zak,Bool.false_and];rw[ZaK (by omega) (by omega)];rfl
    |true=>
     simp only[Zaw,Zk];rw[Ziq,ZL h4,Zak,ZcO (by omega),Zak];by_cases hd:P[k].toNat∣j
     ·rw[Zav (by simpa using h0.2 hd),Zak,ZaK (by omega) (by omega)];simp[hd]
     have:¬(j:Int).tmod P[k]=0:=λe=>hd (h0.1 e)
     rw[Zau (by simpa using this),Zak,ZaK (by omega) (by omega)];simp[hd]
 have step:∀j:Nat,1<=j->j<=960->Zgq N P (j:Int)=if lcmL P∣j then some (.inr (.inr (j:Int)))else some (.inl ((j+1:Nat):Int)):=by
  intro j h1 h2;simp only[Zgq];rw[Zav (by simp;omega)];have:=inner j h1 (by omega) P.length N 0 true (by omega) (by omega) (by omega);rw[show((0:Nat):Int)=0 from rfl]at this;rw[this,Zak,ZB,Zk];have e:(P.all (λp=>decide (p.toNat∣j))=true)↔lcmL P∣j:=by
   rw[Zh2,Zu];simp
  by_cases hd:lcmL P∣j
  ·rw[Zav (e.2 hd),Zav hd]
  rw[Zau (λq=>hd (e.1 q)),Zau hd,ZaK (by omega) (by omega)]
  congr 2
 have h5:=ZoG h;have key:∀(n M j:Nat),961-j=n->1<=j->j<=961->n<M->(∀i,1<=i->i<j->¬lcmL P∣i)->∃r,ZaT (λx:Int=>Zgq N P x) M (j:Int)=some r/\(match r with|.inl _=>(0:Int)|.inr p=>p)=if lcmL P<=960 then(lcmL P:Int)else 0:=by
  intro n;induction n with
  |zero=>
   intro M j hn h1 h2 hM h3;obtain rfl:j=961:=by omega
   cases M with
   |zero=>omega
   |succ M=>
    refine⟨.inl (),Zbh (by simp[Zgq]),?_⟩;rw[Zau];intro h6;exact h3 (lcmL P) (by omega) (by omega) (Nat.dvd_refl _)
  |succ n ih=>
   intro M j hn h1 h2 hM h3;cases M with
   |zero=>omega
   |succ M=>
    by_cases hd:lcmL P∣j
    ·refine⟨.inr (j:Int),Zbh (by rw[step j h1 (by omega),Zav hd]),?_⟩;have h6:=Nat.le_of_dvd (by omega) hd;have:lcmL P=j:=by
      by_cases e:lcmL P=j
      ·exact e
      exact absurd (Nat.dvd_refl _) (h3 (lcmL P) (by omega) (by omega))
     rw[Zav (by omega),this]
    rw[ZbX (by rw[step j h1 (by omega),Zau hd])];refine ih M (j+1) (by omega) (by omega) (by omega) (by omega) λi h7 ha=>?_
    by_cases e:i=j
    ·subst e;exact hd
    exact h3 i h7 (by omega)
 unfold ZiE;obtain⟨r,h1,h2⟩:=key 960 N 1 (by omega) (by omega) (by omega) (by omega) (λi h1 h2=>by omega);rw[show((1:Nat):Int)=1 from rfl]at h1;rw[h1,Zak,←h2];cases r<;>rfl
def ZfU {α ρ:Type}{l:List α}{p:α->Bool}{body:Int->Option (Int⊕ρ)}{bad fin:ρ}(h0:∀(k:Nat) (h:k<l.length),body (k:Int)=if p l[k]=true then some (.inl ((k+1:Nat):Int))else some (.inr bad))
  (h1:body (l.length:Int)=some (.inr fin)) {N:Nat} (hN:l.length<N):ZaT body N 0=some (if l.all p=true then fin else bad):=by
 have:=ZtQ h0 h1 l.length N 0 (by omega) (by omega) hN;rw[show((0:Nat):Int)=0 from rfl]at this;rw[this,ZB]
def ZkE {P:List Int}{u:ZaN}(h0:0<=u.Stream)(h1:u.Stream<(P.length:Int)):idx P u.Stream=some (perU P u):=Zb0 0 h0 h1
def ZhM {P:List Int}{u:ZaN}:useB P u=true↔0<=u.Stream/\u.Stream<(P.length:Int)/\0<=u.Port/\u.Port<48/\0<=u.From/\u.From<perU P u/\1<=u.Long/\u.Long<=perU P u:=by simp[useB]
def ZqG {N:Nat}(hN:2000<=N)(p:ZaB):Zjh N p=some (ZiL p):=by
 unfold Zjh ZiL;by_cases h1:p.Periods.length<=12
 ·by_cases h2:p.Uses.length<=192
  ·rw[Zau (by simp;omega)];simp only[h1,h2,decide_true,Zk];rw[ZfU (l:=p.Periods) (p:=perB) (bad:=.inr false) (fin:=.inl ()) (λk hk=>?_) (by simp[Zih]) (by omega)]
   ·cases hP:p.Periods.all perB with
    |false=>simp
    |true=>
     simp only[Zaw,Zak,Zk];rw[ZfU (l:=p.Uses) (p:=useB p.Periods) (bad:=.inr false) (fin:=.inl ()) (λk hk=>?_) (by simp[Zig]) (by omega)]
     ·cases hU:p.Uses.all (useB p.Periods)with
      |false=>simp
      |true=>
       simp only[Zaw,Zak,Zk];rw[ZnJ hN h1 hP,Zak];have:=ZoG hP;by_cases hc:lcmL p.Periods<=960
       ·rw[Zav hc];simp[hc];omega
       rw[Zau hc];simp[hc]
     simp only[Zig];rw[Zav (by simpa using hk),ZbH hk,Zak];have hw:w64 ((k:Int)+1)=((k+1:Nat):Int):=ZaO (by omega);rw[hw];by_cases hc:0<=p.Uses[k].Stream/\p.Uses[k].Stream<(p.Periods.length:Int)/\0<=p.Uses[k].Port/\p.Uses[k].Port<48
     ·obtain⟨c1,c2,c3,c4⟩:=hc;rw[Zau (by simp;omega),ZkE c1 c2];simp only[Zak];by_cases hu:useB p.Periods p.Uses[k]=true
      ·obtain⟨_,_,_,_,u1,u2,u3,u4⟩:=ZhM.1 hu;rw[Zau (by simpa using u1),Zau (by simpa using u2),Zau (by simp;omega),Zak,Zau (by simpa using u4),Zav hu]
      have hn:¬(0<=p.Uses[k].From/\p.Uses[k].From<perU p.Periods p.Uses[k]/\1<=p.Uses[k].Long/\p.Uses[k].Long<=perU p.Periods p.Uses[k]):=λq=>hu (ZhM.2 ⟨c1,c2,c3,c4,q⟩)
      rw[Zau hu];by_cases u1:p.Uses[k].From<0
      ·rw[Zav (by simpa using u1)];rfl
      rw[Zau (by simpa using u1)];by_cases u2:p.Uses[k].From≥perU p.Periods p.Uses[k]
      ·rw[Zav (by simpa using u2)];rfl
      rw[Zau (by simpa using u2)];by_cases u3:p.Uses[k].Long<1
      ·rw[Zav (by simpa using u3)];rfl
      rw[Zau (by simpa using u3),Zak,Zav (by simp;omega)]
     have hu:¬useB p.Periods p.Uses[k]=true:=λq=>hc (by obtain⟨a,b,c,d,_⟩:=ZhM.1 q;exact⟨a,b,c,d⟩)
     rw[Zav (by simp;omega),Zau hu]
   simp only[Zih];rw[Zav (by simpa using hk),ZbH hk];simp only[Zak];rw[ZaO (by omega)];by_cases c1:p.Periods[k]<1
   ·rw[Zav (by simpa using c1)];simp only[Zak,Zaw];rw[Zau (by simp[perB];omega)]
   rw[Zau (by simpa using c1),Zak];by_cases c2:p.Periods[k]>240
   ·rw[Zav (by simpa using c2),Zau (by simp[perB];omega)]
   rw[Zau (by simpa using c2),Zav (by simp[perB];omega)]
  rw[Zav (by simp;omega)];simp[h2]
 rw[Zav (by simp;omega)];simp[h1]
def Zmw {N:Nat}(hN:2000<=N)(p:ZaB):ZiN N p=some (if ZiL p=true then 0 else 340):=by
 unfold ZiN ZiL;by_cases h1:p.Periods.length<=12
 ·by_cases h2:p.Uses.length<=192
  ·rw[Zau (by simp;omega)];simp only[h1,h2,decide_true,Zk];rw[ZfU (l:=p.Periods) (p:=perB) (bad:=.inr 340) (fin:=.inl ()) (λk hk=>?_) (by simp[ZjB]) (by omega)]
   ·cases hP:p.Periods.all perB with
    |false=>simp
    |true=>
     simp only[Zaw,Zak,Zk];rw[Zhz hN h1 hP,Zak];by_cases hc:lcmL p.Periods<=960
     ·rw[Zav hc];simp only[Zaq,Zg,Zat];rw[ZfU (l:=p.Uses) (p:=useB p.Periods) (bad:=.inr 340) (fin:=.inl ()) (λk hk=>?_) (by simp[ZjA]) (by omega)]
      ·cases hU:p.Uses.all (useB p.Periods)with
       |false=>simp
       |true=>simp[hc]
      simp only[ZjA];rw[Zav (by simpa using hk),ZbH hk,Zak];have hw:w64 ((k:Int)+1)=((k+1:Nat):Int):=ZaO (by omega);rw[hw];by_cases hc:0<=p.Uses[k].Stream/\p.Uses[k].Stream<(p.Periods.length:Int)/\0<=p.Uses[k].Port/\p.Uses[k].Port<48
      ·obtain⟨c1,c2,c3,c4⟩:=hc;rw[Zau (by simp;omega),ZkE c1 c2];simp only[Zak];by_cases hu:useB p.Periods p.Uses[k]=true
       ·obtain⟨_,_,_,_,u1,u2,u3,u4⟩:=ZhM.1 hu;rw[Zau (by simp;omega),Zav hu]
       have hn:¬(0<=p.Uses[k].From/\p.Uses[k].From<perU p.Periods p.Uses[k]/\1<=p.Uses[k].Long/\p.Uses[k].Long<=perU p.Periods p.Uses[k]):=λq=>hu (ZhM.2 ⟨c1,c2,c3,c4,q⟩)
       rw[Zau hu,Zav (by simp;omega)]
      have hu:¬useB p.Periods p.Uses[k]=true:=λq=>hc (by obtain⟨a,b,c,d,_⟩:=ZhM.1 q;exact⟨a,b,c,d⟩)
      rw[Zav (by simp;omega),Zau hu]
     rw[Zau hc];simp[hc]
   simp only[ZjB];rw[Zav (by simpa using hk),ZbH hk];simp only[Zak];rw[ZaO (by omega)];by_cases c:perB p.Periods[k]=true
   ·have:=ZjC.1 c;rw[Zau (by simp;omega),Zav c]
   rw[Zav,Zau c];simp[perB]at c⊢;omega
  rw[Zav (by simp;omega)];simp[h2]
 rw[Zav (by simp;omega)];simp[h1]
def Zpz {p:ZaB}:ZiL p=true↔p.Periods.length<=12/\p.Uses.length<=192/\p.Periods.all perB=true/\p.Uses.all (useB p.Periods)=true/\lcmL p.Periods<=960:=by
 unfold ZiL;simp only[Ze,Zas];constructor
 ·rintro⟨⟨⟨⟨a,b⟩,c⟩,d⟩,e⟩;exact⟨a,b,c,d,e⟩
 rintro⟨a,b,c,d,e⟩;exact⟨⟨⟨⟨a,b⟩,c⟩,d⟩,e⟩
def Zmu {N:Nat}(hN:2000<=N)(p:ZaB):ZiM N p=some (if ZiL p=true then((lcmL p.Periods:Int),0)else(0,340)):=by
 unfold ZiM;rw[Zmw hN,Zak];cases h:ZiL p with
 |false=>rfl
 |true=>
  obtain⟨h1,h2,h3,h4,h5⟩:=Zpz.1 h;simp only[Zaw,Zaq,Zg,Zat];rw[Zhz hN h1 h3,Zak,Zav h5]
end Go.Sh
namespace Go.Sh
open Go Go.Eng
structure VP (p:ZaB):Prop where
 len:p.Periods.length<=12
 uses:p.Uses.length<=192
 per:∀q∈p.Periods,1<=q/\q<=240
 use:∀u∈p.Uses,0<=u.Stream/\u.Stream<(p.Periods.length:Int)/\0<=u.Port/\u.Port<48/\0<=u.From/\u.From<perU p.Periods u/\1<=u.Long/\u.Long<=perU p.Periods u
 lcm:lcmL p.Periods<=960
 lpos:0<lcmL p.Periods
def VP.of {p:ZaB}(h:ZiL p=true):VP p:=by
 obtain⟨h1,h2,h3,h4,h5⟩:=Zpz.1 h;exact⟨h1,h2,λq hq=>ZjC.1 (List.all_eq_true.1 h3 q hq),λu hu=>ZhM.1 (List.all_eq_true.1 h4 u hu),h5,ZoG h3⟩
def Zuw {P:List Int}{u:ZaN}(h0:0<=u.Stream)(h1:u.Stream<(P.length:Int)):perU P u∈P:=by
 unfold perU;rw[ZbE (by omega)];exact List.getElem_mem _
def VP.peru {p:ZaB}(h:VP p){u:ZaN}(hu:u∈p.Uses):1<=perU p.Periods u/\perU p.Periods u<=240:=by
 obtain⟨a,b,_⟩:=h.use u hu;exact h.per _ (Zuw a b)
def Ze9 (p:ZaB)(u:ZaN)(x:Int):ZaR:=⟨perU p.Periods u,(u.From+x)%perU p.Periods u,u.Long⟩
def u0:ZaN:=⟨0,0,0,0⟩
def VP.vspan {p:ZaB}(h:VP p){u:ZaN}(hu:u∈p.Uses)(x:Int):VSpan (Ze9 p u x):=by
 obtain⟨_,_,_,_,_,_,h1,h2⟩:=h.use u hu;obtain⟨h3,h4⟩:=h.peru hu;have h5:=Int.emod_nonneg (u.From+x) (show perU p.Periods u≠0 by omega);have h6:=Int.emod_lt_of_pos (u.From+x) (show 0<perU p.Periods u by omega);show 1<=perU p.Periods u/\perU p.Periods u<=960/\0<=(u.From+x)%perU p.Periods u/\(u.From+x)%perU p.Periods u<perU p.Periods u/\1<=u.Long/\u.Long<=perU p.Periods u;omega
def VP.rem {p:ZaB}(h:VP p){u:ZaN}(hu:u∈p.Uses){x:Int}(h0:0<=x)(h1:x<=1000000):remI (w64 (u.From+x)) (perU p.Periods u)=some ((u.From+x)%perU p.Periods u):=by
 obtain⟨_,_,_,_,h5,h6,h7,h8⟩:=h.use u hu;obtain⟨h3,h4⟩:=h.peru hu;rw[ZaK (by omega) (by omega),ZcO (by omega),Zr (by omega)]
def ZjY (N:Nat){p:ZaB}(h:VP p){u:ZaN}(hu:u∈p.Uses){x:Int}(h0:0<=x)(h1:x<=1000000):Zfy N p u x=some (Ze9 p u x):=by
 obtain⟨a,b,_⟩:=h.use u hu;unfold Zfy;rw[ZkE a b,Zak,h.rem hu h0 h1,Zak];rfl
def Zpn (N:Nat){p:ZaB}(h:VP p){k:Nat}(hk:k<p.Uses.length){x:Int}(h0:0<=x)(h1:x<=1000000):Zmg N p k x=some (Ze9 p (p.Uses.getD k u0) x):=by
 have hu:p.Uses[k]∈p.Uses:=List.getElem_mem hk;obtain⟨a,b,_⟩:=h.use _ hu;unfold Zmg;rw[ZbH hk];simp only[Zak];rw[ZkE a b,Zak,h.rem hu h0 h1,Zak,ZbE hk];rfl
def offB (p:ZaB)(i x:Int):Bool:=decide (0<=i/\i<(p.Periods.length:Int)/\0<=x/\x<p.Periods.getD i.toNat 0)
def ZkX {p:ZaB}{i x:Int}:offB p i x=true↔0<=i/\i<(p.Periods.length:Int)/\0<=x/\x<p.Periods.getD i.toNat 0:=by simp[offB]
def ZqS (N:Nat){p:ZaB}{i x:Int}(h0:0<=i)(h1:i<(p.Periods.length:Int)):Zjw N p i x=some (offB p i x):=by
 unfold Zjw;by_cases hx:x≥0
 ·rw[Zav (by simpa using hx),Zb0 0 h0 h1];simp only[Zak]
  congr 1
  rw[Zf,ZkX];simp;omega
 rw[Zau (by simpa using hx),Zak]
 congr 1
 symm;rw[Bool.eq_false_iff];intro q;have:=ZkX.1 q;omega
def hitB (p:ZaB)(i a j b:Int)(k m:Nat):Bool:=
 decide (k≠m)&&(((p.Uses.getD k u0).Stream==i)&&(((p.Uses.getD m u0).Stream==j)&&(((p.Uses.getD k u0).Port==(p.Uses.getD m u0).Port)&&
  !(decide (SepD (Ze9 p (p.Uses.getD k u0) a) (Ze9 p (p.Uses.getD m u0) b) ((Ze9 p (p.Uses.getD m u0) b).From-(Ze9 p (p.Uses.getD k u0) a).From))))))
def ZkA (p:ZaB)(i a j b:Int):Bool:=!(allB p.Uses.length λk=>allB p.Uses.length λm=>!(hitB p i a j b k m))
def Zls {N:Nat}(hN:2000<=N){p:ZaB}(h:VP p){i a j b:Int}(ha:0<=a)(h1:a<=1000)(hb:0<=b)(h0:b<=1000):Zhr N p i a j b=some (ZkA p i a j b):=by
 have hl:=h.uses;unfold Zhr;rw[Zbm (n:=p.Uses.length) (p:=λk=>allB p.Uses.length λm=>!(hitB p i a j b k m)) (bad:=.inr true) (fin:=.inl ()) (λk hk=>?_) (by simp[Zij]) (by omega)]
 ·unfold ZkA;cases allB p.Uses.length λk=>allB p.Uses.length λm=>!(hitB p i a j b k m)<;>rfl
 simp only[Zij];rw[Zav (by simpa using hk),Zbm (n:=p.Uses.length) (p:=λm=>!(hitB p i a j b k m)) (bad:=.inr true) (fin:=.inl ()) (λm hm=>?_) (by simp[Zii]) (by omega)]
 ·have hw:w64 ((k:Int)+1)=((k+1:Nat):Int):=ZaO (by omega);cases allB p.Uses.length λm=>!(hitB p i a j b k m)with
  |false=>rfl
  |true=>simp only[Zaw,Zak];rw[hw]
 simp only[Zii];have hw:w64 ((m:Int)+1)=((m+1:Nat):Int):=ZaO (by omega);rw[Zav (by simpa using hm),ZbH hk,ZbH hm,hw];simp only[Zak];rw[Zpn N h hk ha (by omega),Zpn N h hm hb (by omega)];simp only[Zak];rw[ZbE hk,ZbE hm,VSpan.separate hN (h.vspan (List.getElem_mem hk) a) (h.vspan (List.getElem_mem hm) b)];simp only[Zak];unfold hitB;rw[ZbE hk,ZbE hm];by_cases c0:k=m
 ·subst c0;simp
 rw[Zav (by simp;omega)];cases c1:(p.Uses[k].Stream==i)with
 |false=>simp
 |true=>
  cases c2:(p.Uses[m].Stream==j)with
  |false=>simp
  |true=>
   cases c3:(p.Uses[k].Port==p.Uses[m].Port)with
   |false=>simp
   |true=>
    simp only[Zaw,Zak,c0,ne_eq,not_false_eq_true,decide_true,Zk,Bool.not_not];cases decide (SepD (Ze9 p p.Uses[k] a) (Ze9 p p.Uses[m] b) ((Ze9 p p.Uses[m] b).From-(Ze9 p p.Uses[k] a).From))<;>rfl
def Zyi {s:ZaR}(hs:VSpan s):¬SepD s s (s.From-s.From):=by
 have:=hs.bounds;unfold SepD;simp;omega
def Zzu {u v:ZaN}(h:(((u.Stream==v.Stream)&&((u.Port==v.Port)&&((u.From==v.From)&&((u.Long==v.Long)&&true))))=true)):u=v:=by
 obtain⟨a,b,c,d⟩:=u;obtain⟨a',b',c',d'⟩:=v;simp at h;obtain⟨rfl,rfl,rfl,rfl⟩:=h;rfl
def Zou {N:Nat}(hN:2000<=N){p:ZaB}(h:VP p){i a j b:Int}(ha:0<=a)(h6:a<=1000)(hb:0<=b)(h5:b<=1000)(h3:i=j->a=b):Zg1 N p i a j b=some (ZkA p i a j b):=by
 have hl:=h.uses;unfold Zg1 ZkT;simp only[Zak];have round:∀k m:Nat,∀(hk:k<p.Uses.length) (hm:m<p.Uses.length),p.Uses[k].Stream=i->p.Uses[m].Stream=j→
   Zcn N p a b false p.Uses[k] p.Uses[m]=some (if SepD (Ze9 p p.Uses[k] a) (Ze9 p p.Uses[m] b) ((Ze9 p p.Uses[m] b).From-(Ze9 p p.Uses[k] a).From)then(false,0)else(true,1)):=by
  intro k m hk hm e1 e2;unfold Zcn;have h0:=h.vspan (List.getElem_mem hk) a;have h2:=h.vspan (List.getElem_mem hm) b;by_cases c:((p.Uses[k].Stream==p.Uses[m].Stream)&&((p.Uses[k].Port==p.Uses[m].Port)&&((p.Uses[k].From==p.Uses[m].From)&&((p.Uses[k].Long==p.Uses[m].Long)&&true))))=true
  ·rw[Zav c];have e:=Zzu c;have h4:a=b:=h3 (by rw[←e1,←e2,e]);subst h4;rw[←e,Zau (Zyi h0)]
  have hA:=Zoi hN (Ze9 p p.Uses[k] a) (Ze9 p p.Uses[m] b);rw[Zav ⟨h0,h2⟩]at hA;rw[Zau c,ZjY N h (List.getElem_mem hk) ha (by omega),Zak,ZjY N h (List.getElem_mem hm) hb (by omega),Zak,hA,Zak];by_cases s:SepD (Ze9 p p.Uses[k] a) (Ze9 p p.Uses[m] b) ((Ze9 p p.Uses[m] b).From-(Ze9 p p.Uses[k] a).From)
  ·simp[s]
  simp[s]
 have loop:Zh1 N (λ(s:Bool×Nat) (x16:ZaN) (x17:ZaN)=>ZfJ (λv:Bool=>Zcn N p a b v x16 x17) s) p i j (false,0)=some (if ZkA p i a j b=true then(true,1)else(false,0)):=by
  unfold Zh1;rw[(ZjG (n:=p.Uses.length) (p:=λk=>allB p.Uses.length λm=>!(hitB p i a j b k m)) (f:=λs _=>s) (bad:=.inr (true,1)) (fin:=λs=>.inl s) (λ_ s=>s=(false,0)) (λk s hk hs=>?_) (λ_ s _ hs _=>hs) (λs _=>by simp[Zdw]) (N:=N) (by omega) rfl).1]
  ·unfold ZkA;have hf:∀(l:List Nat),l.foldl (λ(s:Bool×Nat) _=>s) (false,0)=(false,0):=by
    intro l;induction l with
    |nil=>rfl
    |cons x l ih=>simpa using ih
   rw[hf];cases allB p.Uses.length λk=>allB p.Uses.length λm=>!(hitB p i a j b k m)<;>rfl
  subst hs;simp only[Zdw];have hw:w64 ((k:Int)+1)=((k+1:Nat):Int):=ZaO (by omega);rw[Zav (by simpa using hk),ZbH hk,Zak,hw];by_cases c1:p.Uses[k].Stream=i
  ·rw[Zau (by simpa using c1)];rw[(ZjG (n:=p.Uses.length) (p:=λm=>!(hitB p i a j b k m)) (f:=λs _=>s) (bad:=.inr (true,1)) (fin:=λs=>.inl s) (λ_ s=>s=(false,0)) (λm s hm hs=>?_) (λ_ s _ hs _=>hs) (λs _=>by simp[Zdv]) (N:=N) (by omega) rfl).1]
   ·have hf:∀(l:List Nat),l.foldl (λ(s:Bool×Nat) _=>s) (false,0)=(false,0):=by
     intro l;induction l with
     |nil=>rfl
     |cons x l ih=>simpa using ih
    rw[hf];cases allB p.Uses.length λm=>!(hitB p i a j b k m)<;>rfl
   subst hs;simp only[Zdv];have h1:w64 ((m:Int)+1)=((m+1:Nat):Int):=ZaO (by omega);rw[Zav (by simpa using hm),ZbH hm,Zak,h1];unfold hitB;rw[ZbE hk,ZbE hm];by_cases c0:k=m
   ·subst c0;simp
   have c0':((m:Int)==(k:Int))=false:=by simp;omega
   rw[c0'];simp only[Zg,Zat];by_cases c2:p.Uses[m].Stream=j
   ·rw[Zau (by simpa using c2),Zak];by_cases c3:p.Uses[k].Port=p.Uses[m].Port
    ·rw[Zau (by simp[c3])];unfold ZfJ;simp only[Zaw];rw[round k m hk hm c1 c2];simp only[c0,c1,c2,c3,ne_eq,not_false_eq_true,decide_true,Zk,beq_self_eq_true,Bool.not_not];by_cases s:SepD (Ze9 p p.Uses[k] a) (Ze9 p p.Uses[m] b) ((Ze9 p p.Uses[m] b).From-(Ze9 p p.Uses[k] a).From)
     ·simp[s]
     simp[s]
    rw[Zav (by simp;exact λq=>c3 q.symm)];simp[c3]
   rw[Zav (by simpa using c2),Zak];simp[c2]
  rw[Zav (by simpa using c1)];have:(allB p.Uses.length λm=>!(hitB p i a j b k m))=true:=by
   rw[Zbr];intro m hm;unfold hitB;rw[ZbE hk];simp[c1]
  rw[this,Zav rfl]
 rw[loop,Zak];cases ZkA p i a j b<;>rfl
def Zw6 {p:ZaB}(h:VP p){i x:Int}(ho:offB p i x=true):0<=x/\x<240:=by
 obtain⟨a,b,c,d⟩:=ZkX.1 ho;rw[ZbE (by omega)]at d;have:=h.per _ (List.getElem_mem (show i.toNat<p.Periods.length by omega));omega
end Go.Sh
namespace Go.Sh
open Go Go.Eng
def ZxL {n:Nat}{q:Nat->Nat->Bool}:(allB n λk=>allB n λm=>q k m)=allB n λm=>allB n λk=>q k m:=by
 rw[Zf];simp only[Zbr];exact⟨λh m hm k hk=>h k hk m hm,λh k hk m hm=>h m hm k hk⟩
def Zxq {p:ZaB}(h:VP p){i a j b:Int}{k m:Nat}(hk:k<p.Uses.length)(hm:m<p.Uses.length):hitB p i a j b k m=hitB p j b i a m k:=by
 have e:=Zyh (h.vspan (List.getElem_mem hk) a) (h.vspan (List.getElem_mem hm) b);unfold hitB;rw[ZbE hk,ZbE hm,Zf];simp only[Ze,Zas,beq_iff_eq,Zh,decide_eq_false_iff_not];rw[e];constructor
 ·rintro⟨a,b,c,d,e⟩;exact⟨λq=>a q.symm,c,b,d.symm,e⟩
 rintro⟨a,b,c,d,e⟩;exact⟨λq=>a q.symm,c,b,d.symm,e⟩
def Zrh {p:ZaB}(h:VP p)(i a j b:Int):ZkA p i a j b=ZkA p j b i a:=by
 unfold ZkA;rw[ZxL]
 congr 1
 exact Zk6 λk hk=>Zk6 λm hm=>by rw[Zxq h hm hk]
def ZfQ (p:ZaB)(l:List Int):Bool:=decide (l.length=p.Periods.length)&&allB l.length λk=>offB p k (l.getD k 0)
def Zi9 (p:ZaB)(l:List Int):Bool:=allB l.length λi=>allB (i+1) λj=>!(ZkA p i (l.getD i 0) j (l.getD j 0))
def Zy0 (p:ZaB)(l:List Int):Bool×Int:=if ZiL p=true then(if ZfQ p l=true then(Zi9 p l,0)else(false,2))else(false,340)
def Zsg {p:ZaB}{l:List Int}(h:ZfQ p l=true):l.length=p.Periods.length/\∀k,k<l.length->offB p k (l.getD k 0)=true:=by
 unfold ZfQ at h;rw[Ze,Zas,Zbr]at h;exact h
def ZnU {N:Nat}(hN:2000<=N)(p:ZaB)(l:List Int):Zkv N p l=some (Zy0 p l):=by
 unfold Zkv Zy0;rw[Zmw hN,Zak];cases hp:ZiL p with
 |false=>rfl
 |true=>
  have h:=VP.of hp;have hl:=h.len;simp only[Zaw,Zaq,Zg,Zat];by_cases hc:l.length=p.Periods.length
  ·rw[Zau (by simp[hc])];rw[Zbm (n:=l.length) (p:=λk=>offB p k (l.getD k 0)) (bad:=.inr (false,2)) (fin:=.inl ()) (λk hk=>?_) (by simp[Zku]) (by omega)]
   ·have e:ZfQ p l=allB l.length λk=>offB p k (l.getD k 0):=by unfold ZfQ;simp[hc]
    cases ho:allB l.length λk=>offB p k (l.getD k 0)with
    |false=>rw[e,ho];rfl
    |true=>
     rw[e,ho];simp only[Zaw,Zak];rw[ho]at e;obtain⟨h1,h2⟩:=Zsg e;unfold Zi9;rw[Zbm (n:=l.length) (p:=λi=>allB (i+1) λj=>!(ZkA p i (l.getD i 0) j (l.getD j 0))) (bad:=.inr (false,0)) (fin:=.inl ()) (λi hi=>?_) (by simp[Zkt]) (by omega)]
     ·cases allB l.length λi=>allB (i+1) λj=>!(ZkA p i (l.getD i 0) j (l.getD j 0))<;>rfl
     simp only[Zkt];have hw:w64 ((i:Int)+1)=((i+1:Nat):Int):=ZaO (by omega);have hs:subI l 0 ((i+1:Nat):Int)=some (l.take (i+1)):=by
      unfold subI;rw[Zav (by omega)];simp
     have h3:(l.take (i+1)).length=i+1:=by simp;omega
     rw[Zav (by simpa using hi),ZbH hi,Zak,hw,hs,Zak,Zbm (n:=i+1) (p:=λj=>!(ZkA p i (l.getD i 0) j (l.getD j 0))) (bad:=.inr (false,0)) (fin:=.inl ()) (λj hj=>?_) (by simp[Zks,h3]) (by omega)]
     ·cases allB (i+1) λj=>!(ZkA p i (l.getD i 0) j (l.getD j 0))<;>rfl
     simp only[Zks];have h0:j<l.length:=by omega
     have hw:w64 ((j:Int)+1)=((j+1:Nat):Int):=ZaO (by omega);have b1:=Zw6 h (h2 i hi);have b2:=Zw6 h (h2 j h0);rw[ZbE hi]at b1;rw[ZbE h0]at b2;have ei:idx (l.take (i+1)) (j:Int)=some l[j]:=by
      rw[ZbH (by omega),List.getElem_take]
     rw[Zav (by simp[h3];omega),ei,Zak,Zou hN h b2.1 (by omega) b1.1 (by omega) (λq=>by
      have:j=i:=by omega
      subst this;rfl),Zak,hw,ZbE hi,ZbE h0,Zrh h]
     cases ZkA p i l[i] j l[j]<;>rfl
   simp only[Zku];have hw:w64 ((k:Int)+1)=((k+1:Nat):Int):=ZaO (by omega);rw[Zav (by simpa using hk),ZbH hk,Zak,ZqS N (by omega) (by omega),Zak,hw,ZbE hk];cases offB p k l[k]<;>rfl
  rw[Zav (by simp;omega)];have:ZfQ p l=false:=by unfold ZfQ;simp[hc]
  rw[this];rfl
def ZiT {α:Type}{b:Nat}{l:List α}{x:α}(hl:l.length<=1000)(hb:b<=1000):appI b l [x]=some (l++[x]):=by
 refine Zd9 ?_ (by omega);simp;omega
def Zr4 {N:Nat}(hN:2000<=N){p:ZaB}(h:VP p){a:List Int}(ha:∀x∈a,InK .u8 x):∃l,ZiD N p a=some l/\ZfQ p l=true:=by
 have h0:=h.len;unfold ZiD;obtain⟨l,hl,l1,l2⟩:=ZbK (body:=λx:Int×(List Int)=>Zjg N p a x.1 x.2) (λx=>0<=x.1/\x.1<=p.Periods.length/\(x.2.length:Int)=x.1/\∀k,k<x.2.length->offB p k (x.2.getD k 0)=true) (λx=>(p.Periods.length-x.1).toNat) (λl=>l.length=p.Periods.length/\∀k,k<l.length->offB p k (l.getD k 0)=true) (λx hx=>by
  obtain⟨i,l⟩:=x;obtain⟨i0,i1,i2,i3⟩:=hx;simp only at i0 i1 i2 i3;simp only[Zjg];by_cases c:i<(p.Periods.length:Int)
  ·left;obtain⟨k,rfl⟩:∃k:Nat,i=k:=⟨i.toNat,by omega⟩;have hk:k<p.Periods.length:=by omega
   have hq:=h.per _ (List.getElem_mem hk);have key:∃x,(if(decide ((k:Int)<(a.length:Int)))then((idx a k).bind λe1010=>((idx p.Periods k).bind λe1011=>((remI (w64 (e1010)) e1011).bind λm1012=>(some m1012))))else(some 0))=some x/\0<=x/\x<p.Periods[k]:=by
    by_cases c2:k<a.length
    ·have hb:0<=a[k]/\a[k]<=255:=(ha _ (List.getElem_mem c2)).u8;refine⟨a[k]%p.Periods[k],?_,Int.emod_nonneg _ (by omega),Int.emod_lt_of_pos _ (by omega)⟩;rw[Zav (by simpa using c2),ZbH c2,Zak,ZbH hk,Zak,ZaK (by omega) (by omega),ZcO (by omega),Zak,Zr hb.1]
    exact⟨0,by rw[Zau (by simpa using c2)],by omega,by omega⟩
   obtain⟨x,hx,x0,x1⟩:=key;refine⟨(((k+1:Nat):Int),l++[x]),?_,⟨by omega,by omega,by simp;omega,λm hm=>?_⟩,by omega⟩
   ·rw[Zav (by simpa using c),hx,Zak,ZiT (by omega) (by omega),Zak,ZaO (by omega)]
   simp only[ZV,ZW,ZY]at hm;by_cases e:m<l.length
   ·have:=i3 m e;rw[ZbE e]at this;rw[ZbE (by simp;omega),List.getElem_append_left e];exact this
   obtain rfl:m=k:=by omega
   rw[ZbE (by simp;omega),List.getElem_append_right (by omega)];simp only[show m-l.length=0 by omega,List.getElem_cons_zero];rw[ZkX];simp only[Zs];rw[ZbE hk];omega
  right;refine⟨l,?_,by omega,i3⟩;rw[Zau (by simpa using c)]) N (0,[]) ⟨by omega,by simp,rfl,by simp⟩ (by simp;omega)
 rw[hl,Zak];refine⟨l,rfl,?_⟩;unfold ZfQ;rw[Ze,Zas,Zbr];exact⟨l1,l2⟩
end Go.Sh
namespace Go.Sh
open Go Go.Eng
def stB (t:Zaz)(x:Int):Bool:=t.Station.getD x.toNat false
def Zfp (t:Zaz)(x:Int):Bool:=decide (0<=x)&&decide (x<t.Nodes)
def dL:ZaW:=⟨0,0,0,0⟩
def lk (t:Zaz)(k:Nat):ZaW:=t.Links.getD k dL
def ZfA (t:Zaz)(l:ZaW):Bool:=
 Zfp t l.A&&(Zfp t l.B&&(!(l.A==l.B)&&(!(stB t l.A&&stB t l.B)&&(decide (l.Per≥1)&&(decide (l.Per<=1000)&&(decide (l.Delay≥0)&&decide (l.Delay<=10000)))))))
def ZhD (l:ZaW)(a b:Int):Bool:=(l.A==a&&l.B==b)||(l.A==b&&l.B==a)
def nojB (t:Zaz)(k:Nat):Bool:=allB k λj=>!ZhD (lk t j) (lk t k).A (lk t k).B
def bump (b:List Int)(x:Int):List Int:=b.set x.toNat (w64 (b.getD x.toNat 0+1))
def Zqd (b:List Int)(l:ZaW):List Int:=bump (bump b l.A) l.B
def degs (t:Zaz):List Int:=(List.range t.Links.length).foldl (λb k=>Zqd b (lk t k)) (List.replicate t.Nodes.toNat 0)
def degB (t:Zaz)(n:Nat):Bool:=!(stB t n)||(decide (1<=(degs t).getD n 0)&&decide ((degs t).getD n 0<=2))
def ZiA (l:List Bool)(k:ZaW):List Bool:=if l.getD k.A.toNat false||l.getD k.B.toNat false then(l.set k.A.toNat true).set k.B.toNat true else l
def Zkg (t:Zaz)(l:List Bool):List Bool:=(List.range t.Links.length).foldl (λb k=>ZiA b (lk t k)) l
def Zhy (t:Zaz)(m:Int):List Bool:=(List.range t.Nodes.toNat).foldl (λl _=>Zkg t l) ((List.replicate t.Nodes.toNat false).set m.toNat true)
def Zef (t:Zaz):Bool:=
 decide (2<=t.Nodes)&&(decide (t.Nodes<=12)&&(((t.Station.length:Int)==t.Nodes)&&(decide (t.Links.length<=24)&&
  (allB t.Links.length (λk=>ZfA t (lk t k)&&nojB t k)&&(allB t.Nodes.toNat (λn=>(Zhy t 0).getD n false&&degB t n))))))
section
variable {N:Nat} {t:Zaz}
def ZtN {k:Nat}(h:k<t.Links.length):idx t.Links (k:Int)=some (lk t k):=by
 rw[ZbH h];simp[lk,ZF,h]
def ZgD (hS:(t.Station.length:Int)=t.Nodes){x:Int}(h:Zfp t x=true):idx t.Station x=some (stB t x):=by
 simp only[Zfp,Ze,Zas]at h;exact Zb0 false h.1 (by omega)
def Zmn (x:Int):ZiH N t x=some (Zfp t x):=by simp[ZiH,Zfp]
def ZsU (x:Int):Zj7 N t x=some (Zfp t x):=by simp[Zj7,Zfp]
def Zmp (hS:(t.Station.length:Int)=t.Nodes)(l:ZaW):ZiI N t l=some (ZfA t l):=by
 unfold ZiI ZfA;rw[Zmn,Zmn];simp only[Zak];cases hA:Zfp t l.A with
 |false=>rfl
 |true=>
  cases hB:Zfp t l.B with
  |false=>rfl
  |true=>
   rw[ZgD hS hA,ZgD hS hB];cases (l.A==l.B)<;>cases stB t l.A<;>cases stB t l.B<;>rfl
def ZlA (l:ZaW)(a b:Int):Zhw N l a b=some (ZhD l a b):=by
 unfold Zhw ZhD;cases l.A==a<;>cases l.B==b<;>cases l.A==b<;>cases l.B==a<;>rfl
def ZsD (a b:Int):(a==b)=(b==a):=by
 by_cases h:a=b
 ·subst h;rfl
 rw[beq_false_of_ne h,beq_false_of_ne (Ne.symm h)]
def ZwZ (hL:t.Links.length<100)(hN:t.Links.length<N){k:Nat}(hk:k<t.Links.length):
  ZaT (λx:Int=>Zgf N t (k:Int) (lk t k) x) N 0=some (if nojB t k then .inl ()else .inr false):=by
 refine Zbm (n:=k) (λj hj=>?_) ?_ (by omega)
 ·unfold Zgf;rw[Zav (by simp;omega),ZtN (by omega),Zak,ZlA,Zak,ZaO (by omega)];cases ZhD (lk t j) (lk t k).A (lk t k).B<;>rfl
 unfold Zgf;rw[Zau (by simp)]
def Zx2 (hL:t.Links.length<100)(hN:t.Links.length<N){k:Nat}(hk:k<t.Links.length):Zgm N (k:Int) t=some (nojB t k):=by
 unfold Zgm;rw[ZtN hk,Zak];have h1:subI t.Links 0 (k:Int)=some (t.Links.take k):=by
  unfold subI;rw[Zav ⟨by omega,by omega,by omega⟩];simp
 rw[h1,Zak];have h0:(t.Links.take k).length=k:=by simp;omega
 have:=Zbm (n:=k) (p:=λj=>!ZhD (lk t j) (lk t k).A (lk t k).B) (body:=λx:Int=>Zfq N (lk t k) (t.Links.take k) x) (bad:=.inr false) (fin:=.inl ()) (λj hj=>by
  unfold Zfq;have h2:j<(t.Links.take k).length:=by omega
  rw[Zav (by rw[h0];simp;omega),ZbH h2,Zak,ZaO (by omega)];have e:(t.Links.take k)[j]=lk t j:=by simp[lk,ZF,show j<t.Links.length by omega]
  rw[e];unfold ZhD;rw[ZsD (lk t k).A (lk t j).A,ZsD (lk t k).B (lk t j).B,ZsD (lk t k).A (lk t j).B,ZsD (lk t k).B (lk t j).A];cases (lk t j).A==(lk t k).A<;>cases (lk t j).B==(lk t k).B<;>cases (lk t j).A==(lk t k).B<;>cases (lk t j).B==(lk t k).A<;>rfl) (by unfold Zfq;rw[Zau (by rw[h0];simp)]) (N:=N) (by omega)
 rw[this];unfold nojB;cases allB k λj=>!ZhD (lk t j) (lk t k).A (lk t k).B<;>rfl
def ZrO (hS:(t.Station.length:Int)=t.Nodes)(hL:t.Links.length<100)(hN:t.Links.length<N):ZkN N t=some (allB t.Links.length (λk=>ZfA t (lk t k)&&nojB t k)):=by
 unfold ZkN;have:=Zbm (n:=t.Links.length) (p:=λk=>ZfA t (lk t k)&&nojB t k) (body:=λx:Int=>ZgM N t x) (bad:=.inr false) (fin:=.inl ()) (λk hk=>by
  unfold ZgM;rw[Zav (by simp;omega),Zx2 hL hN hk,ZaO (by omega)];unfold ZhP ZhO ZhN;rw[ZtN hk];simp only[Zak,ZsU];unfold ZfA;cases hA:Zfp t (lk t k).A with
  |false=>rfl
  |true=>
   cases hB:Zfp t (lk t k).B with
   |false=>rfl
   |true=>
    simp only[Zaw,Zak];rw[ZgD hS hA,ZgD hS hB];simp only[bne,Zak];generalize (decide ((lk t k).Per≥1)&&(decide ((lk t k).Per<=1000)&&(decide ((lk t k).Delay≥0)&&decide ((lk t k).Delay<=10000))))=q;cases ((lk t k).A==(lk t k).B)<;>cases stB t (lk t k).A<;>cases stB t (lk t k).B<;>cases nojB t k<;>cases q<;>rfl) (by unfold ZgM;rw[Zau (by simp)]) (N:=N) hN
 rw[this];cases allB t.Links.length (λk=>ZfA t (lk t k)&&nojB t k)<;>rfl
def Zvu (b:List Int)(x:Int):(bump b x).length=b.length:=by simp[bump]
def Zqc (b:List Int)(l:ZaW):(Zqd b l).length=b.length:=by simp[Zqd,Zvu]
def Zdc {l:ZaW}(h:ZfA t l=true):Zfp t l.A=true/\Zfp t l.B=true/\l.A≠l.B:=by
 simp only[ZfA,Ze]at h;refine⟨h.1,h.2.1,?_⟩;have:=h.2.2.1;intro e;simp[e]at this
def ZhC {x:Int}:Zfp t x=true↔0<=x/\x<t.Nodes:=by simp[Zfp]
def Zvv {b:List Int}(hb:(b.length:Int)=t.Nodes){l:ZaW}(hA:Zfp t l.A=true)(hB:Zfp t l.B=true):
  idx b l.A=some (b.getD l.A.toNat 0)/\idx (b.set l.A.toNat (w64 (b.getD l.A.toNat 0+1))) l.B=some ((bump b l.A).getD l.B.toNat 0):=by
 rw[ZhC]at hA hB;exact⟨Zb0 0 hA.1 (by omega),Zb0 0 hB.1 (by simp;omega)⟩
def ZoX (hT:allB t.Links.length (λk=>ZfA t (lk t k)&&nojB t k)=true)(hn:0<=t.Nodes)(hL:t.Links.length<100)(hN:t.Links.length<N):
  ZaT (λx:Int×(List Int)=>ZdG N t x.1 x.2) N (0,List.replicate t.Nodes.toNat 0)=some (degs t)/\((degs t).length:Int)=t.Nodes:=by
 have:=Zd7 (n:=t.Links.length) (f:=λb k=>Zqd b (lk t k)) (body:=λx:Int×(List Int)=>ZdG N t x.1 x.2) (fin:=λb=>b) (λ_ b=>(b.length:Int)=t.Nodes)
  (λk b hk hb=>by
   have hl:=Zbr.1 hT k hk;simp only[Ze]at hl;obtain⟨hA,hB,_⟩:=Zdc hl.1;obtain⟨i1,i2⟩:=Zvv hb hA hB;show ZdG N t k b=_;unfold ZdG;rw[Zav (by simp;omega),ZtN hk,Zak,i1];simp only[Zak,i2,ZaO (show k<1000000 by omega)];rfl)
  (λk b hk hb=>by rw[Zqc];exact hb)
  (λb hb=>by show ZdG N t t.Links.length b=_;unfold ZdG;rw[Zau (by simp)]) hN (b0:=List.replicate t.Nodes.toNat 0) (by simp;omega)
 exact this
def ZvW (hS:(t.Station.length:Int)=t.Nodes)(hn:0<=t.Nodes)(hL:t.Links.length<100)(hN:t.Links.length<N):
  ZaT (λx:Int×(List Int)=>Zdi N t x.1 x.2) N (0,List.replicate t.Nodes.toNat 0)=some (if allB t.Links.length (λk=>ZfA t (lk t k)&&nojB t k)then .inl (degs t)else .inr false):=by
 refine(ZjG (ρ:=List Int⊕Bool) (body:=λx:Int×(List Int)=>Zdi N t x.1 x.2) (n:=t.Links.length) (f:=λb k=>Zqd b (lk t k)) (p:=λk=>ZfA t (lk t k)&&nojB t k) (fin:=λb=>.inl b) (bad:=.inr false) (λ_ b=>(b.length:Int)=t.Nodes)
  (λk b hk hb=>?_) (λk b hk hb _=>by rw[Zqc];exact hb) (λb hb=>by show Zdi N t t.Links.length b=_;unfold Zdi;rw[Zau (by simp)]) hN (b0:=List.replicate t.Nodes.toNat 0) (by simp;omega)).1
 show Zdi N t k b=_;unfold Zdi;rw[Zav (by simp;omega),ZtN hk,Zak,Zmp hS,Zak];cases hl:ZfA t (lk t k)with
 |false=>rfl
 |true=>
  obtain⟨hA,hB,_⟩:=Zdc hl;obtain⟨i1,i2⟩:=Zvv hb hA hB;rw[ZwZ hL hN hk];cases nojB t k with
  |false=>rfl
  |true=>
   simp only[Zi,Zg,Zat,Zaw,Zak,i1,i2,ZaO (show k<1000000 by omega),Bool.and_self];rfl
def Zo8 (l:List Bool)(k:ZaW):(ZiA l k).length=l.length:=by unfold ZiA;split<;>simp
def Zu4 {l:List Bool}{i:Nat}(h:l.getD i false=true):l.set i true=l:=by
 apply List.ext_getElem?;intro j;rw[ZP];by_cases e:i=j
 ·subst e;rw[Zav rfl];split
  ·rename_i hl;rw[ZL hl];simp[ZF,hl]at h;rw[h]
  rename_i hl;rw[ZM (by omega)]
 rw[Zau e]
def ZjH {l:List Bool}{i j:Nat}(h:l.getD j false=true):(l.set i true).getD j false=true:=by
 rw[ZF]at h⊢;rw[ZP];split
 ·split
  ·rfl
  rename_i e hl;rw[ZM (by omega)]at h;cases h
 exact h
def ZoW (hT:allB t.Links.length (λk=>ZfA t (lk t k)&&nojB t k)=true)(h0:t.Links.length<=24)(hN:t.Links.length<N)(c:Zbs)(hc:∀k:Nat,k<24->c.get (k:Int)=some false){l:List Bool}(hl:(l.length:Int)=t.Nodes):
  ZaT (λx:Int×(List Bool)=>ZdF N t c x.1 x.2) N (0,l)=some (Zkg t l)/\((Zkg t l).length:Int)=t.Nodes:=by
 have:=Zd7 (n:=t.Links.length) (f:=λb k=>ZiA b (lk t k)) (body:=λx:Int×(List Bool)=>ZdF N t c x.1 x.2) (fin:=λb=>b) (λ_ b=>(b.length:Int)=t.Nodes)
  (λk b hk hb=>by
   have hl:=Zbr.1 hT k hk;simp only[Ze]at hl;obtain⟨hA,hB,_⟩:=Zdc hl.1;rw[ZhC]at hA hB;have i1:idx b (lk t k).A=some (b.getD (lk t k).A.toNat false):=Zb0 false hA.1 (by omega);have i2:idx b (lk t k).B=some (b.getD (lk t k).B.toNat false):=Zb0 false hB.1 (by omega);have i3:idx (b.set (lk t k).A.toNat true) (lk t k).B=some ((b.set (lk t k).A.toNat true).getD (lk t k).B.toNat false):=Zb0 false hB.1 (by simp;omega);show ZdF N t c k b=_;unfold ZdF;rw[Zav (by simp;omega),ZtN hk,Zak,hc k (by omega)];simp only[Zak,i1,i2,i3,ZaO (show k<1000000 by omega),Bool.not_false,Zaw];unfold ZiA;cases h1:b.getD (lk t k).A.toNat false with
   |false=>cases h2:b.getD (lk t k).B.toNat false<;>simp
   |true=>cases h2:b.getD (lk t k).B.toNat false with
    |false=>simp
    |true=>simp[Zu4 h1,Zu4 h2])
  (λk b hk hb=>by rw[Zo8];exact hb)
  (λb hb=>by show ZdF N t c t.Links.length b=_;unfold ZdF;rw[Zau (by simp)]) hN (b0:=l) hl
 exact this
def ZnM (hT:allB t.Links.length (λk=>ZfA t (lk t k)&&nojB t k)=true)(h0:t.Links.length<=24)(hN:t.Links.length<N){l:List Bool}(hl:(l.length:Int)=t.Nodes):
  ZaT (λx:Int×(List Bool)=>Zdj N t [] x.1 x.2) N (0,l)=some (Zkg t l)/\((Zkg t l).length:Int)=t.Nodes:=by
 have:=Zd7 (n:=t.Links.length) (f:=λb k=>ZiA b (lk t k)) (body:=λx:Int×(List Bool)=>Zdj N t [] x.1 x.2) (fin:=λb=>b) (λ_ b=>(b.length:Int)=t.Nodes)
  (λk b hk hb=>by
   have hl:=Zbr.1 hT k hk;simp only[Ze]at hl;obtain⟨hA,hB,_⟩:=Zdc hl.1;rw[ZhC]at hA hB;have i1:idx b (lk t k).A=some (b.getD (lk t k).A.toNat false):=Zb0 false hA.1 (by omega);have i2:idx b (lk t k).B=some (b.getD (lk t k).B.toNat false):=Zb0 false hB.1 (by omega);have i3:idx (b.set (lk t k).A.toNat true) (lk t k).B=some ((b.set (lk t k).A.toNat true).getD (lk t k).B.toNat false):=Zb0 false hB.1 (by simp;omega);show Zdj N t [] k b=_;unfold Zdj;rw[Zav (by simp;omega),ZtN hk,Zak,Zjs (by simp;omega) (by simp)];simp only[Zak,i1,i2,i3,ZaO (show k<1000000 by omega),List.contains_nil,Bool.not_false,Zaw];unfold ZiA;cases h1:b.getD (lk t k).A.toNat false<;>cases h2:b.getD (lk t k).B.toNat false<;>simp)
  (λk b hk hb=>by rw[Zo8];exact hb)
  (λb hb=>by show Zdj N t [] t.Links.length b=_;unfold Zdj;rw[Zau (by simp)]) hN (b0:=l) hl
 exact this
def Zsp {α:Type}{b:Nat}{n:Int}(z:α)(h0:0<=n)(h1:n<=1000)(hb:b<=1000):Zgs b n n z=some (List.replicate n.toNat z):=by
 unfold Zgs;have:n*(b:Int)<=1000*1000:=Int.mul_le_mul h1 (by omega) (by omega) (by omega);rw[Zav ⟨h0,Int.le_refl _,by omega,by omega⟩]
def Zl7 (hT:allB t.Links.length (λk=>ZfA t (lk t k)&&nojB t k)=true)(h1:t.Links.length<=24)(h0:1<=t.Nodes)(h3:t.Nodes<=12)(hN:30<=N)(c:Zbs)(hc:∀k:Nat,k<24->c.get (k:Int)=some false){m:Int}(h2:0<=m)(hm:m<t.Nodes):
  ZkO N t m c=some (Zhy t m)/\((Zhy t m).length:Int)=t.Nodes:=by
 unfold ZkO;rw[Zsp _ (by omega) (by omega) (by omega),Zak,Zb0 false h2 (by simp;omega),Zak];have:=Zd7 (n:=t.Nodes.toNat) (f:=λb _=>Zkg t b) (body:=λx:Int×(List Bool)=>Zex N t c x.1 x.2) (fin:=λb=>b) (λ_ b=>(b.length:Int)=t.Nodes)
  (λk b hk hb=>by
   show Zex N t c k b=_;unfold Zex;rw[Zav (by simp;omega),(ZoW hT h1 (by omega) c hc hb).1,Zak,ZaO (by omega)])
  (λk b hk hb=>(ZoW hT h1 (N:=N) (by omega) c hc hb).2)
  (λb hb=>by show Zex N t c t.Nodes.toNat b=_;unfold Zex;rw[Zau (by simp;omega)]) (N:=N) (by omega) (b0:=(List.replicate t.Nodes.toNat false).set m.toNat true) (by simp;omega)
 rw[this.1];exact⟨rfl,this.2⟩
def ZqN (hT:allB t.Links.length (λk=>ZfA t (lk t k)&&nojB t k)=true)(h1:t.Links.length<=24)(h0:1<=t.Nodes)(h3:t.Nodes<=12)(hN:30<=N){m:Int}(h2:0<=m)(hm:m<t.Nodes):
  Zjq N t m []=some (Zhy t m):=by
 unfold Zjq;rw[Zsp _ (by omega) (by omega) (by omega),Zak,Zb0 false h2 (by simp;omega),Zak];have:=Zd7 (n:=t.Nodes.toNat) (f:=λb _=>Zkg t b) (body:=λx:Int×(List Bool)=>Zd5 N t [] x.1 x.2) (fin:=λb=>b) (λ_ b=>(b.length:Int)=t.Nodes)
  (λk b hk hb=>by
   show Zd5 N t [] k b=_;unfold Zd5;rw[Zav (by simp;omega),(ZnM hT h1 (by omega) hb).1,Zak,ZaO (by omega)])
  (λk b hk hb=>(ZnM hT h1 (N:=N) (by omega) hb).2)
  (λb hb=>by show Zd5 N t [] t.Nodes.toNat b=_;unfold Zd5;rw[Zau (by simp;omega)]) (N:=N) (by omega) (b0:=(List.replicate t.Nodes.toNat false).set m.toNat true) (by simp;omega)
 rw[this.1];rfl
def Zly (hN:40<=N):Zhu N t=some (Zef t):=by
 unfold Zhu Zef;by_cases h1:2<=t.Nodes
 ·by_cases h2:t.Nodes<=12
  ·by_cases h3:(t.Station.length:Int)=t.Nodes
   ·by_cases h4:t.Links.length<=24
    ·rw[Zau (by simp;omega),Zsp _ (by omega) (by omega) (by omega),Zak,ZvW h3 (by omega) (by omega) (by omega),Zak];have e:decide (2<=t.Nodes)=true/\decide (t.Nodes<=12)=true/\((t.Station.length:Int)==t.Nodes)=true/\decide (t.Links.length<=24)=true:=by simp[h1,h2,h3,h4]
     rw[e.1,e.2.1,e.2.2.1,e.2.2.2];simp only[Zk];cases hT:allB t.Links.length (λk=>ZfA t (lk t k)&&nojB t k)with
     |false=>rfl
     |true=>
      simp only[Zaw,Zk];rw[ZqN hT h4 (by omega) h2 (by omega) (by omega) (by omega),Zak];have hd:=(ZoX (N:=N) hT (by omega) (by omega) (by omega)).2;have hr:=(Zl7 (N:=N) hT h4 (by omega) h2 (by omega) ⟨false,false,false,false,false,false,false,false,false,false,false,false,false,false,false,false,false,false,false,false,false,false,false,false⟩ (by decide) (m:=0) (by omega) (by omega)).2;have:=Zbm (n:=t.Nodes.toNat) (p:=λn=>(Zhy t 0).getD n false&&degB t n) (body:=λx:Int=>Zge N t (degs t) (Zhy t 0) x) (bad:=.inr false) (fin:=.inl ()) (λk hk=>by
       unfold Zge;have j1:idx (Zhy t 0) (k:Int)=some ((Zhy t 0).getD k false):=Zb0 false (by omega) (by omega);have j2:idx t.Station (k:Int)=some (stB t k):=Zb0 false (by omega) (by omega);have j3:idx (degs t) (k:Int)=some ((degs t).getD k 0):=Zb0 0 (by omega) (by omega);rw[Zav (by simp;omega),j1,j2,j3,ZaO (by omega)];simp only[Zak];unfold degB;cases (Zhy t 0).getD k false with
       |false=>rfl
       |true=>
        cases stB t k with
        |false=>rfl
        |true=>
         simp only[Zi,Zg,Zat,Zaw,Zk,Bool.false_or];generalize (degs t).getD k 0=d;by_cases g1:d<1
         ·simp[g1,show ¬(1<=d)by omega]
         by_cases g2:d>2
         ·simp[g1,g2,show ¬(d<=2)by omega]
         simp[g1,g2,show 1<=d by omega,show d<=2 by omega]) (by unfold Zge;rw[Zau (by simp;omega)]) (N:=N) (by omega)
      rw[this];cases allB t.Nodes.toNat (λn=>(Zhy t 0).getD n false&&degB t n)<;>rfl
    rw[Zav (by simp;omega)];simp[h4]
   rw[Zav (by simp[h3])];simp[h3]
  rw[Zav (by simp;omega)];simp[h2]
 rw[Zav (by simp;omega)];simp[h1]
def Zq0 (l:List Bool):l.contains false=!(allB l.length λn=>l.getD n false):=by
 rw[Zf,ZA,Zh,←Bool.not_eq_true,Zbr];constructor
 ·intro h hh;obtain⟨k,hk,e⟩:=List.getElem_of_mem h;have:=hh k hk;simp[ZF,hk,e]at this
 intro h;simp only[Classical.not_forall]at h;obtain⟨k,hk,e⟩:=h;simp[ZF,hk]at e;rw[←e];exact List.getElem_mem hk
def ZgN (hN:40<=N):Zha N t=some (if Zef t then 0 else 260):=by
 unfold Zha Zef;by_cases h1:2<=t.Nodes
 ·by_cases h2:t.Nodes<=12
  ·by_cases h3:(t.Station.length:Int)=t.Nodes
   ·rw[Zau (by simp[h3];omega)];by_cases h4:t.Links.length<=24
    ·rw[Zau (by simp;omega),ZrO h3 (by omega) (by omega),Zak,Zak];have e:decide (2<=t.Nodes)=true/\decide (t.Nodes<=12)=true/\((t.Station.length:Int)==t.Nodes)=true/\decide (t.Links.length<=24)=true:=by simp[h1,h2,h3,h4]
     rw[e.1,e.2.1,e.2.2.1,e.2.2.2];simp only[Zk];cases hT:allB t.Links.length (λk=>ZfA t (lk t k)&&nojB t k)with
     |false=>rfl
     |true=>
      simp only[Zi,Zg,Zat,Zk];rw[Zsp _ (by omega) (by omega) (by omega),Zak,(ZoX hT (by omega) (by omega) (by omega)).1,Zak];have hd:=(ZoX (N:=N) hT (by omega) (by omega) (by omega)).2;have hr:=Zl7 (N:=N) hT h4 (by omega) h2 (by omega) ⟨false,false,false,false,false,false,false,false,false,false,false,false,false,false,false,false,false,false,false,false,false,false,false,false⟩ (by decide) (m:=0) (by omega) (by omega);have:=Zbm (n:=t.Station.length) (p:=λn=>degB t n) (body:=λx:Int=>ZgO N t (degs t) x) (bad:=.inr 260) (fin:=.inl ()) (λk hk=>by
       unfold ZgO;have j2:idx t.Station (k:Int)=some (stB t k):=Zb0 false (by omega) (by omega);have j3:idx (degs t) (k:Int)=some ((degs t).getD k 0):=Zb0 0 (by omega) (by omega);rw[Zav (by simp;omega),j2,j3,ZaO (by omega)];simp only[Zak];unfold degB;cases stB t k with
       |false=>rfl
       |true=>
        simp only[Zaw,Zi,Bool.false_or];generalize (degs t).getD k 0=d;by_cases g1:d<1
        ·simp[g1,show ¬(1<=d)by omega]
        by_cases g2:d>2
        ·simp[g1,g2,show ¬(d<=2)by omega]
        simp[g1,g2,show 1<=d by omega,show d<=2 by omega]) (by unfold ZgO;rw[Zau (by simp)]) (N:=N) (by omega)
      rw[this,Zak,Zy7];have h0:t.Station.length=t.Nodes.toNat:=by omega
      rw[h0];cases hD:allB t.Nodes.toNat (λn=>degB t n)with
      |false=>simp
      |true=>
       simp only[Zaw,Bool.and_true];rw[hr.1,Zak,Zgy (by omega) (by omega),Zak,Zq0,show(Zhy t 0).length=t.Nodes.toNat by omega];cases allB t.Nodes.toNat (λn=>(Zhy t 0).getD n false)<;>rfl
    rw[Zav (by simp;omega)];simp[h4]
   rw[Zav (by simp[h3])];simp[h3]
  rw[Zav (by simp;omega)];simp[h2]
 rw[Zav (by simp;omega)];simp[h1]
end
end Go.Sh

namespace Go.Sh
open Go Go.Eng
def Zh9 {α:Type}{b:Nat}{l m:List α}(h:l.length+m.length<=1000)(hb:b<=1000):appI b l m=some (l++m):=by
 unfold appI;have:(l.length+m.length)*b<=1000*1000:=Nat.mul_le_mul h hb;rw[Zav ⟨by omega,by omega⟩]
def at0 (r:List Int)(k:Nat):Int:=r.getD k 0
def ZcD (t:Zaz)(p:Int):Bool:=decide (0<=p)&&decide (p<2*(t.Links.length:Int))
def plk (t:Zaz)(p:Int):ZaW:=t.Links.getD (Int.tdiv p 2).toNat dL
def frm (t:Zaz)(p:Int):Int:=if(Int.tmod p 2==1)=true then(plk t p).B else(plk t p).A
def too (t:Zaz)(p:Int):Int:=if(Int.tmod p 2==1)=true then(plk t p).A else(plk t p).B
def Zbx (t:Zaz)(r:List Int):List Int:=frm t (at0 r 0)::r.map (too t)
def nd (t:Zaz)(r:List Int)(k:Nat):Int:=(Zbx t r).getD k 0
def okAt (t:Zaz)(r:List Int)(k:Nat):Bool:=
 ZcD t (at0 r k)&&(((k==0)||((frm t (at0 r k)==nd t r k)&&!stB t (nd t r k)))&&!((Zbx t r).take (k+1)).contains (nd t r (k+1)))
def ZbS (t:Zaz)(r:List Int):Bool:=decide (1<=r.length)&&(decide (r.length<=8)&&allB r.length (okAt t r))
section
variable {N:Nat} {t:Zaz}
structure Good (t:Zaz):Prop where
 n2:2<=t.Nodes
 n12:t.Nodes<=12
 st:(t.Station.length:Int)=t.Nodes
 l24:t.Links.length<=24
 links:∀k,k<t.Links.length->ZfA t (lk t k)=true/\nojB t k=true
 nodes:∀n,n<t.Nodes.toNat->(Zhy t 0).getD n false=true/\degB t n=true
def Zbg:Zef t=true↔Good t:=by
 unfold Zef;simp only[Ze,Zas,beq_iff_eq,Zbr];exact⟨λ⟨a,b,c,d,e,f⟩=>⟨a,b,c,d,e,f⟩,λh=>⟨h.n2,h.n12,h.st,h.l24,h.links,h.nodes⟩⟩
def Zw2 {p:Int}(hp:ZcD t p=true):0<=Int.tdiv p 2/\Int.tdiv p 2<t.Links.length:=by
 simp only[ZcD,Ze,Zas]at hp;rw[Zq hp.1];omega
def ZnS (hL:t.Links.length<=1000){p:Int}(hp:ZcD t p=true):idx t.Links (w64 (Int.tdiv p 2))=some (plk t p):=by
 obtain⟨h1,h2⟩:=Zw2 hp;rw[ZaK (by omega) (by omega)];exact Zb0 dL h1 h2
def ZeE (hL:t.Links.length<=1000){p:Int}(hp:ZcD t p=true):Zdu N t p=some (frm t p):=by
 unfold Zdu frm;rw[ZnS hL hp];simp only[Zak];split<;>rfl
def Zfe (hL:t.Links.length<=1000){p:Int}(hp:ZcD t p=true):ZeD N t p=some (too t p):=by
 unfold ZeD too;rw[ZnS hL hp];simp only[Zak];split<;>rfl
def ZlC (hL:t.Links.length<=1000){p:Int}(hp:ZcD t p=true):Zhx N t p=some (plk t p).Delay:=by
 unfold Zhx;rw[ZnS hL hp];rfl
def ZnO (hL:t.Links.length<=1000){p:Int}(hp:ZcD t p=true):Zkp N t p=some (plk t p).Per:=by
 unfold Zkp;rw[ZnS hL hp];rfl
def Zr9 (hL:t.Links.length<=1000)(p:Int):ZkS N t p=some (ZcD t p):=by
 unfold ZkS ZcD;rw[ZaK (by omega) (by omega)]
def ZhF (g:Good t){p:Int}(hp:ZcD t p=true):Zfp t (frm t p)=true/\Zfp t (too t p)=true/\frm t p≠too t p:=by
 obtain⟨h1,h2⟩:=Zw2 hp;have:=Zdc (g.links (Int.tdiv p 2).toNat (by omega)).1;unfold frm too;split
 ·exact⟨this.2.1,this.1,Ne.symm this.2.2⟩
 exact this
def Zl4 {r:List Int}{k:Nat}(h:k<r.length):at0 r k=r[k]:=ZbE h 0
def ZeG (r:List Int):(Zbx t r).length=r.length+1:=by simp[Zbx]
def Zin {r:List Int}{k:Nat}(h:k<r.length):nd t r (k+1)=too t (at0 r k):=by
 unfold nd Zbx;rw[List.getD_cons_succ,ZbE (by simpa using h),Zl4 h,ZT]
def ZAy (r:List Int):nd t r 0=frm t (at0 r 0):=rfl
def ZtG {r:List Int}{k:Nat}(h:k<(Zbx t r).length):(Zbx t r)[k]=nd t r k:=by unfold nd;rw[ZbE h]
def ZAz (g:Good t){r:List Int}(hp:∀k,k<r.length->ZcD t (at0 r k)=true)(h1:1<=r.length){k:Nat}(hk:k<=r.length):Zfp t (nd t r k)=true:=by
 cases k with
 |zero=>exact(ZhF g (hp 0 (by omega))).1
 |succ k=>rw[Zin (by omega)];exact(ZhF g (hp k (by omega))).2.1
def Zil (hL:t.Links.length<=1000){r:List Int}(h1:1<=r.length)(h2:r.length<=100)(hp:∀k,k<r.length->ZcD t (at0 r k)=true)(hN:200<=N):Zem N t r=some (Zbx t r):=by
 unfold Zem;have e0:idx r 0=some (at0 r 0):=by unfold at0;exact Zb0 0 (Int.le_refl _) (by omega)
 rw[e0,Zak,ZeE hL (hp 0 (by omega)),Zak];have h0:=ZeG (t:=t) r;have:=Zd7 (n:=r.length) (f:=λb k=>(Zbx t r).take (k+2)) (body:=λx:Int×(List Int)=>Zd4 N t r x.1 x.2) (fin:=λb=>b) (λk b=>b=(Zbx t r).take (k+1))
  (λk b hk hb=>by
   show Zd4 N t r k b=_;unfold Zd4;subst hb;rw[Zav (by simp;omega),ZbH hk,Zak];have e:r[k]=at0 r k:=(Zl4 hk).symm;rw[e,Zfe hL (hp k hk),Zak,Zh9 (by simp;omega) (by omega),Zak,ZaO (by omega)];rw[←Zin hk,←ZtG (by omega),List.take_append_getElem])
  (λk b hk hb=>rfl)
  (λb hb=>by show Zd4 N t r r.length b=_;unfold Zd4;rw[Zau (by simp)]) (N:=N) (by omega) (b0:=[frm t (at0 r 0)]) (by simp[Zbx])
 rw[this.1,Zak,this.2,Zae (by omega)]
def ZqL (g:Good t){r:List Int}(ha:r.length<=100)(hN:200<=N):ZdM N t r=some (ZbS t r):=by
 have hL:t.Links.length<=1000:=by have:=g.l24;omega
 unfold ZdM ZbS;by_cases h1:1<=r.length
 ·by_cases h8:r.length<=8
  ·rw[Zau (by simp;omega)];have a1:=Zbm (n:=r.length) (p:=λk=>ZcD t (at0 r k)) (body:=λx:Int=>Zgb N t r x) (bad:=.inr false) (fin:=.inl ()) (λk hk=>by
    unfold Zgb;rw[Zav (by simp;omega),ZbH hk,Zak,Zr9 hL,Zak,ZaO (by omega),Zl4 hk];cases ZcD t r[k]<;>rfl) (by unfold Zgb;rw[Zau (by simp)]) (N:=N) (by omega)
   rw[a1,Zak];simp only[h1,h8,decide_true,Zk];cases hp:allB r.length (λk=>ZcD t (at0 r k))with
   |false=>
    have:allB r.length (okAt t r)=false:=by
     rw[←Bool.not_eq_true,Zbr];rw[←Bool.not_eq_true,Zbr]at hp;intro h;exact hp λk hk=>by have:=h k hk;simp only[okAt,Ze]at this;exact this.1
    rw[this];rfl
   |true=>
    rw[Zbr]at hp;simp only[Zaw];rw[Zil hL h1 ha hp hN,Zak];have h7:=ZeG (t:=t) r;have a2:=Zbm (n:=r.length+1) (p:=λi=>!((Zbx t r).take i).contains (nd t r i)&&!(decide (0<i)&&(decide (i<r.length)&&(stB t (nd t r i)||!(frm t (at0 r i)==nd t r i)))))
     (body:=λx:Int=>Zga N t r (Zbx t r) x) (bad:=.inr false) (fin:=.inl ()) (λi hi=>by
     unfold Zga;have h6:i<(Zbx t r).length:=by omega
     have h5:subI (Zbx t r) 0 (i:Int)=some ((Zbx t r).take i):=by
      unfold subI;rw[Zav ⟨by omega,by omega,by omega⟩];simp
     rw[Zav (by simp;omega),h5,Zak,ZbH h6,Zak,ZtG h6,Zjs (by simp;omega) (by simp;omega),Zak,ZaO (by omega)];cases hc:((Zbx t r).take i).contains (nd t r i)with
     |true=>rfl
     |false=>
      by_cases h4:0<i
      ·by_cases h0:i<r.length
       ·have e1:decide ((i:Int)>0)=true:=by simp;omega
        have e2:decide ((i:Int)<(r.length:Int))=true:=by simp;omega
        rw[e1,e2,ZbH h0];have e3:r[i]=at0 r i:=(Zl4 h0).symm;rw[e3];simp only[Zg,Zat,Zaw,Zak];rw[ZgD g.st (ZAz g hp h1 (by omega)),ZeE hL (hp i h0)];simp only[h4,h0,decide_true,Zk,Bool.not_false,bne,Zak];cases stB t (nd t r i)<;>cases (frm t (at0 r i)==nd t r i)<;>rfl
       have e1:decide ((i:Int)>0)=true:=by simp;omega
       have e2:decide ((i:Int)<(r.length:Int))=false:=by simp;omega
       rw[e1,e2];simp[h0]
      have e1:decide ((i:Int)>0)=false:=by simp;omega
      rw[e1];simp[h4]) (by unfold Zga;rw[Zau (by simp;omega)]) (N:=N) (by omega)
    rw[a2,Zak];have:allB (r.length+1) (λi=>!((Zbx t r).take i).contains (nd t r i)&&!(decide (0<i)&&(decide (i<r.length)&&(stB t (nd t r i)||!(frm t (at0 r i)==nd t r i)))))=allB r.length (okAt t r):=by
     rw[Zf,Zbr,Zbr];constructor
     ·intro h k hk;have q1:=h k (by omega);have q2:=h (k+1) (by omega);simp only[Ze]at q1 q2;simp only[okAt,Ze];refine⟨hp k hk,?_,q2.1⟩;by_cases h9:k=0
      ·simp[h9]
      have:=q1.2;simp only[show 0<k by omega,hk,decide_true,Zk,Zh,Bool.or_eq_false_iff]at this;simp only[Zj,Ze,Zh];right;exact⟨by simpa using this.2,this.1⟩
     intro h i hi;simp only[Ze];constructor
     ·cases i with
      |zero=>simp
      |succ i=>
       have:=h i (by omega);simp only[okAt,Ze]at this;exact this.2.2
     by_cases h4:0<i
     ·by_cases h0:i<r.length
      ·have:=h i h0;simp only[okAt,Ze,Zj,Zh]at this;have h2:=this.2.1;rcases h2 with h2|⟨h2,h3⟩
       ·simp at h2;omega
       simp[h2,h3]
      simp[h0]
     simp[h4]
    rw[this];cases allB r.length (okAt t r)<;>rfl
  rw[Zav (by simp;omega)];simp[h8]
 rw[Zav (by simp;omega)];simp[h1]
def ZpW {σ:Type}(hL:t.Links.length<=1000)(y:σ->Int->Zb1->Option (σ×Bool)){r:List Int}(g:σ){k:Nat}(hk:k<r.length)(h3:k<1000):Zbd N y r ⟨t⟩ (k:Int) g=
  if ZcD t (at0 r k)=true then(y g k ⟨at0 r k,frm t (at0 r k),too t (at0 r k)⟩).bind λq=>if(!q.2)=true then some (.inr q.1)else some (.inl (((k+1:Nat):Int),q.1))else some (.inr g):=by
 unfold Zbd;rw[Zav (by simp;omega),ZbH hk,Zak,←Zl4 hk,ZaO (by omega)];simp only;have h0:(if decide (at0 r k<0)=true then some true else some (decide (at0 r k≥w64 (2*(t.Links.length:Int)))))=some (!ZcD t (at0 r k)):=by
  rw[ZaK (by omega) (by omega)];unfold ZcD;by_cases h1:at0 r k<0
  ·rw[Zav (by simpa using h1)];simp[show ¬(0<=at0 r k)by omega]
  rw[Zau (by simpa using h1)];by_cases h2:at0 r k<2*(t.Links.length:Int)
  ·rw[decide_eq_false (by omega),Zar (show 0<=at0 r k by omega),Zar h2];rfl
  rw[Zar (by omega),Zar (show 0<=at0 r k by omega),decide_eq_false h2];rfl
 rw[h0,Zak];cases hp:ZcD t (at0 r k)with
 |false=>rfl
 |true=>
  rw[ZnS hL hp];simp only[Zi,Zg,Zat,Zak,Zaw];unfold frm too;split<;>rfl
def Zvi {σ:Type}(y:σ->Int->Zb1->Option (σ×Bool)){r:List Int}(g:σ):Zbd N y r ⟨t⟩ (r.length:Int) g=some (.inr g):=by
 unfold Zbd;rw[Zau (by simp)]
def Zqh {a:ZaF}{x:Int}(h0:0<=x)(h:x<12):a.get x=some (a.l.getD x.toNat false):=by
 unfold ZaF.get;exact Zb0 false h0 (by show x<((12:Nat):Int);omega)
def Zt5 {a:ZaF}{x:Int}{v:Bool}{y:Nat}(h0:0<=x)(h:x<12):(a.set x v).l.getD y false=if y=x.toNat then v else a.l.getD y false:=by
 rw[ZaF.l_set];have h1:a.l.length=12:=rfl;rw[ZF,ZF,ZP];by_cases e:y=x.toNat
 ·subst e;rw[Zav rfl,Zav (by omega),Zav rfl];rfl
 rw[Zau (Ne.symm e),Zau e]
def VInv (t:Zaz)(r:List Int)(k:Nat)(v:Int×Int×ZaF):Prop:=
 v.1=k/\(0<k->v.2.1=nd t r k)/\∀x:Nat,x<12->v.2.2.l.getD x false=(decide (0<k)&&((Zbx t r).take (k+1)).contains (x:Int))
def Zj8 {r:List Int}{k:Nat}(h:k<(Zbx t r).length):(Zbx t r).take (k+1)=(Zbx t r).take k++[nd t r k]:=by
 rw[←ZtG h,List.take_append_getElem]
def ZvJ (g:Good t){r:List Int}{k:Nat}(hk:k<r.length)(h8:r.length<=100)(h0:∀j,j<k->ZcD t (at0 r j)=true)(hp:ZcD t (at0 r k)=true){v:Int×Int×ZaF}(hv:VInv t r k v):
  ∃v' e,ZbI N ⟨t⟩ v.1 v.2.1 v.2.2 (k:Int) ⟨at0 r k,frm t (at0 r k),too t (at0 r k)⟩=some (v',e)/\((e=0/\okAt t r k=true/\VInv t r (k+1) v')∨(e=1/\okAt t r k=false/\v'.1=k)):=by
 obtain⟨good,at_,seen⟩:=v;obtain⟨e1,e2,e3⟩:=hv;simp only at e1 e2 e3;subst e1;obtain⟨f1,f2,f3⟩:=ZhF g hp;rw[ZhC]at f1 f2;have hn:=g.n12;have h6:=ZeG (t:=t) r;have h7:∀j,j<k+1->ZcD t (at0 r j)=true:=λj hj=>by
  by_cases e:j=k
  ·subst e;exact hp
  exact h0 j (by omega)
 have h1:∀(s:ZaF),(∀x:Nat,x<12->s.l.getD x false=((Zbx t r).take (k+1)).contains (x:Int))→
   s.l.getD (too t (at0 r k)).toNat false=((Zbx t r).take (k+1)).contains (nd t r (k+1))∧
   (((Zbx t r).take (k+1)).contains (nd t r (k+1))=false->VInv t r (k+1) (w64 ((k:Int)+1),too t (at0 r k),s.set (too t (at0 r k)) true)):=by
  intro s hs;constructor
  ·rw[hs _ (by omega),Zin hk,Zt f2.1]
  intro hc;refine⟨by simp only;rw[ZaO (by omega)],λ_=>(Zin hk).symm,λx hx=>?_⟩;simp only;rw[Zt5 f2.1 (by omega),Zj8 (by omega),List.contains_append,Zin hk];simp only[show 0<k+1 by omega,decide_true,Zk,List.contains_cons,List.contains_nil,Bool.or_false];by_cases e:x=(too t (at0 r k)).toNat
  ·rw[Zav e];have:((x:Int)==too t (at0 r k))=true:=by simp;omega
   rw[this,Bool.or_true]
  rw[Zau e,hs x hx];have:((x:Int)==too t (at0 r k))=false:=by simp;omega
  rw[this,Bool.or_false]
 unfold ZbI okAt;by_cases h2:k=0
 ·subst h2;rw[Zav (by simp)];simp only;rw[Zqh f1.1 (by omega),Zak,Zqh f2.1 (by omega),Zak];have h5:∀x:Nat,x<12->(seen.set (frm t (at0 r 0)) true).l.getD x false=((Zbx t r).take (0+1)).contains (x:Int):=λx hx=>by
   rw[Zt5 f1.1 (by omega)];have he:seen.l.getD x false=false:=by rw[e3 x hx];simp
   rw[he];show _=[frm t (at0 r 0)].contains (x:Int);simp only[List.contains_cons,List.contains_nil,Bool.or_false];by_cases e:x=(frm t (at0 r 0)).toNat
   ·rw[Zav e];symm;simp;omega
   rw[Zau e];symm;simp;omega
  obtain⟨m1,m2⟩:=h1 _ h5;rw[m1];have hc:((Zbx t r).take (0+1)).contains (nd t r (0+1))=false:=by
   show[frm t (at0 r 0)].contains _=false;rw[Zin hk];simp only[List.contains_cons,List.contains_nil,Bool.or_false];simp[Ne.symm f3]
  rw[hc];refine⟨_,0,rfl,.inl ⟨rfl,?_,m2 hc⟩⟩;rw[hp];rfl
 rw[Zau (by simp;omega)];simp only;have ha:=e2 (by omega);subst ha;have h3:idx t.Station (nd t r k)=some (stB t (nd t r k)):=by
  apply ZgD g.st;obtain⟨j,rfl⟩:∃j,k=j+1:=⟨k-1,by omega⟩;rw[Zin (by omega)];exact(ZhF g (h0 j (by omega))).2.1
 have h4:∀x:Nat,x<12->seen.l.getD x false=((Zbx t r).take (k+1)).contains (x:Int):=λx hx=>by rw[e3 x hx];simp[show 0<k by omega]
 obtain⟨m1,m2⟩:=h1 _ h4;rw[h3,hp,show(k==0)=false by simp[h2]];simp only[Zak,bne,Bool.false_or,Zk];cases hf:(frm t (at0 r k)==nd t r k)with
 |false=>exact⟨_,1,rfl,.inr ⟨rfl,rfl,rfl⟩⟩
 |true=>
  cases hs:stB t (nd t r k)with
  |true=>exact⟨_,1,rfl,.inr ⟨rfl,rfl,rfl⟩⟩
  |false=>
   simp only[Zi,Zg,Zat,Zak];rw[Zqh f2.1 (by omega),Zak,Zak,m1];cases hc:((Zbx t r).take (k+1)).contains (nd t r (k+1))with
   |true=>exact⟨_,1,rfl,.inr ⟨rfl,rfl,rfl⟩⟩
   |false=>exact⟨_,0,rfl,.inl ⟨rfl,rfl,m2 hc⟩⟩
def ZvK (g:Good t){r:List Int}(h5:r.length<=100):∀(n N k:Nat) (v:Int×Int×ZaF),r.length-k=n->k<=r.length->n<N->(∀j,j<k->okAt t r j=true)->VInv t r k v->∀M:Nat,
  ∃s:(Int×Int×ZaF)×Nat,ZaT (λx:Int×((Int×Int×ZaF)×Nat)=>Zbd M (λ(s:(Int×Int×ZaF)×Nat) (x522:Int) (x523:Zb1)=>ZfJ (λv:Int×Int×ZaF=>ZbI M ⟨t⟩ v.1 v.2.1 v.2.2 x522 x523) s) r ⟨t⟩ x.1 x.2) N ((k:Int),(v,0))=some s∧
   (s.2=0∨s.2=1)/\(s.1.1==(r.length:Int))=allB r.length (okAt t r):=by
 have hL:t.Links.length<=1000:=by have:=g.l24;omega
 intro n;induction n with
 |zero=>
  intro N k v h1 h2 h3 h0 hv M;obtain rfl:k=r.length:=by omega
  cases N with
  |zero=>omega
  |succ N=>
   refine⟨(v,0),by rw[Zbh (Zvi _ _)],.inl rfl,?_⟩;rw[hv.1,Zbr.2 h0];simp
 |succ n ih=>
  intro N k v h1 h2 h3 h0 hv M;have hk:k<r.length:=by omega
  cases N with
  |zero=>omega
  |succ N=>
   have h4:okAt t r k=false->(((k:Nat):Int)==(r.length:Int))=allB r.length (okAt t r):=λhb=>by
    have e1:(((k:Nat):Int)==(r.length:Int))=false:=by simp;omega
    rw[e1];symm;rw[←Bool.not_eq_true,Zbr];intro h;rw[h k hk]at hb;cases hb
   cases hp:ZcD t (at0 r k)with
   |false=>
    refine⟨(v,0),?_,.inl rfl,?_⟩
    ·rw[Zbh];show Zbd M _ r ⟨t⟩ (k:Int) (v,0)=_;rw[ZpW hL _ _ hk (by omega),Zau (by rw[hp];simp)]
    simp only[hv.1];exact h4 (by unfold okAt;rw[hp];rfl)
   |true=>
    obtain⟨v',e,s1,s2⟩:=ZvJ (N:=M) g hk h5 (λj hj=>by have:=h0 j hj;simp only[okAt,Ze]at this;exact this.1) hp hv;have hy:Zbd M (λ(s:(Int×Int×ZaF)×Nat) (x522:Int) (x523:Zb1)=>ZfJ (λv:Int×Int×ZaF=>ZbI M ⟨t⟩ v.1 v.2.1 v.2.2 x522 x523) s) r ⟨t⟩ (k:Int) (v,0)=
      if(!(e==0))=true then some (.inr (v',e))else some (.inl (((k+1:Nat):Int),(v',e))):=by
     rw[ZpW hL _ _ hk (by omega),Zav hp];simp only[ZfJ,Zaw,s1,Zam,Zak]
    rcases s2 with⟨rfl,s3,s4⟩|⟨rfl,s3,s4⟩
    ·rw[ZbX (y:=(((k+1:Nat):Int),(v',0))) hy];exact ih N (k+1) v' (by omega) (by omega) (by omega) (λj hj=>by
      by_cases e:j=k
      ·subst e;exact s3
      exact h0 j (by omega)) s4 M
    refine⟨(v',1),by rw[Zbh (r:=(v',1)) hy],.inr rfl,?_⟩;rw[s4];exact h4 s3
def Zie (g:Good t){r:List Int}(h0:r.length<=100)(hN:200<=N):ZcL N ⟨t⟩ r=some (ZbS t r):=by
 unfold ZcL ZbS;by_cases h1:1<=r.length
 ·by_cases h8:r.length<=8
  ·rw[Zau (by simp;omega)];simp only[h1,h8,decide_true,Zk];obtain⟨s,s1,s2,s3⟩:=ZvK g h0 r.length N 0 (0,0,⟨false,false,false,false,false,false,false,false,false,false,false,false⟩) (by omega) (by omega) (by omega) (λj hj=>by omega) ⟨rfl,λh=>by omega,λx hx=>by
    simp only[Nat.lt_irrefl,decide_false,Bool.false_and];revert x;decide⟩ N
   unfold Zds Zdr;simp only[Zak];rw[show((0:Nat):Int)=0 from rfl]at s1;rw[s1];simp only[Zak];rcases s2 with e|e
   ·rw[e];simp only[beq_self_eq_true,Zaw,Zak];rw[s3]
   rw[e];simp only[show((1:Nat)==0)=false from rfl,beq_self_eq_true,Zg,Zat,Zaw,Zak];rw[s3]
  rw[Zav (by simp;omega)];simp[h8]
 rw[Zav (by simp;omega)];simp[h1]
end
end Go.Sh

namespace Go.Sh
open Go Go.Eng
def Zwe {ρ:Type}{n:Nat}{p:Nat->Bool}{body:Int->Option (Int⊕ρ)}{bad fin:ρ}(h0:∀k:Nat,k<n->body (k:Int)=if p k=true then some (.inl ((k+1:Nat):Int))else some (.inr bad))
  (h4:body (n:Int)=some (.inr fin)):∀(m N k:Nat),n-k=m->k<=n->m<N->ZaT body N (k:Int)=some (if(List.range' k m).all p then fin else bad):=by
 intro m;induction m with
 |zero=>
  intro N k h1 h2 h3;obtain rfl:k=n:=by omega
  cases N with
  |zero=>omega
  |succ N=>rw[Zbh h4];rfl
 |succ m ih=>
  intro N k h1 h2 h3;cases N with
  |zero=>omega
  |succ N=>
   rw[Z8,List.all_cons];by_cases hp:p k=true
   ·rw[ZbX (by rw[h0 k (by omega),Zav hp]),ih N (k+1) (by omega) (by omega) (by omega),hp,Zk]
   rw[Zbh (by rw[h0 k (by omega),Zau hp])];simp[hp]
section
variable {N:Nat} {t:Zaz}
def ZV4 {b:Nat}{c:Int}(h0:0<=c)(h1:c<=1000)(hb:b<=1000):Zgs b 0 c (0:Int)=some []:=by
 unfold Zgs;have:c*(b:Int)<=1000*1000:=Int.mul_le_mul h1 (by omega) (by omega) (by omega);rw[Zav ⟨Int.le_refl _,h0,by omega,by omega⟩];rfl
def Zch {r:List Int}(h:ZbS t r=true):1<=r.length/\r.length<=8/\∀k,k<r.length->ZcD t (at0 r k)=true:=by
 simp only[ZbS,Ze,Zas,Zbr]at h;exact⟨h.1,h.2.1,λk hk=>by have:=h.2.2 k hk;simp only[okAt,Ze]at this;exact this.1⟩
def Zif (g:Good t){r:List Int}(hv:ZbS t r=true)(hN:200<=N):Zc9 N ⟨t⟩ r=some (Zbx t r):=by
 have hL:t.Links.length<=1000:=by have:=g.l24;omega
 obtain⟨h1,h8,hp⟩:=Zch hv;have h2:=ZeG (t:=t) r;unfold Zc9;rw[ZaK (by omega) (by omega),ZV4 (by omega) (by omega) (by omega),Zak];unfold Zds Zdr;simp only[Zak];have:=Zd7 (n:=r.length) (f:=λb k=>(Zbx t r).take (k+2))
  (body:=λx:Int×(List Int)=>Zbd N (λ(s:(List Int)) (x13:Int) (x14:Zb1)=>Zea (λv:(List Int)=>ZbU N v x13 x14) s) r ⟨t⟩ x.1 x.2) (fin:=λb=>b) (λk b=>b=if k=0 then[]else(Zbx t r).take (k+1))
  (λk b hk hb=>by
   show Zbd N _ r ⟨t⟩ k b=_;rw[ZpW hL _ _ hk (by omega),Zav (hp k hk)];have:ZbU N b (k:Int) ⟨at0 r k,frm t (at0 r k),too t (at0 r k)⟩=some ((Zbx t r).take (k+2)):=by
    unfold ZbU;subst hb;by_cases h0:k=0
    ·subst h0;rw[Zav (by simp),Zav rfl,Zh9 (by simp) (by omega),Zak,Zak,Zh9 (by simp) (by omega),Zak,←Zin hk];unfold nd Zbx;obtain⟨a,l,rfl⟩:∃a l,r=a::l:=by cases r with
      |nil=>simp at hk
      |cons a l=>exact⟨a,l,rfl⟩
     simp
    rw[Zau (by simp;omega),Zau h0,Zak,Zh9 (by simp;omega) (by omega),Zak,←Zin hk,Zj8 (k:=k+1) (by omega)]
   simp only[Zea,this,Zam,Zak];rfl)
  (λk b hk hb=>by rw[Zau (by omega)])
  (λb hb=>Zvi _ _) (N:=N) (by omega) (b0:=[]) (by rw[Zav rfl])
 rw[this.1,Zak,Zak,this.2,Zau (by omega),Zae (by omega)]
def errR (t:Zaz)(r:List Int):Int:=if Zef t then(if ZbS t r then 0 else 310)else 260
def Zf7 {r:List Int}(h0:r.length<=100)(hN:200<=N):Zfc N t r=some (errR t r):=by
 unfold Zfc errR;rw[ZgN (by omega),Zak];cases hT:Zef t with
 |false=>rfl
 |true=>
  simp only[Zaw,Zaq,Zg,Zat];rw[Zie (Zbg.1 hT) h0 hN,Zak];cases ZbS t r<;>rfl
def ZkG {r:List Int}:errR t r=0↔Zef t=true/\ZbS t r=true:=by
 unfold errR;cases Zef t<;>cases ZbS t r<;>simp
section
variable {r:List Int}
def Zpd (h0:r.length<=100)(hN:200<=N)(he:errR t r≠0):Zfb N t r=some ([],errR t r):=by
 unfold Zfb Zd2;rw[Zf7 h0 hN];simp[he]
def Zqu (h0:r.length<=100)(hN:200<=N)(he:errR t r≠0):Zfh N t r=some (0,0,errR t r):=by
 unfold Zfh;rw[Zpd h0 hN he];simp[he]
def Zpc (h0:r.length<=100)(hN:200<=N)(he:errR t r=0):Zfb N t r=some (Zbx t r,0):=by
 obtain⟨hT,hv⟩:=ZkG.1 he;unfold Zfb Zd2 Zfu;rw[Zf7 h0 hN,he];simp only[Zak,Zaq,Zg,Zat];rw[Zif (Zbg.1 hT) hv hN];rfl
def Zqt (h1:r.length<=100)(hN:200<=N)(he:errR t r=0):Zfh N t r=some (nd t r 0,nd t r r.length,0):=by
 have h0:=ZeG (t:=t) r;unfold Zfh;rw[Zpc h1 hN he];simp only[Zak,Zaq,Zg,Zat];rw[show(0:Int)=((0:Nat):Int)from rfl,ZbH (show 0<(Zbx t r).length by omega),ZaK (by omega) (by omega),show((Zbx t r).length:Int)-1=((r.length:Nat):Int)by omega,ZbH (by omega),ZtG,ZtG];rfl
end
end
end Go.Sh
namespace Go.Sh
open Go Go.Eng
section
variable {N:Nat} {t:Zaz}
def Zt8 (a b:List Int):Bool:=allB a.length λi=>allB b.length λk=>!(w64 (Int.tdiv (at0 a i) 2)==w64 (Int.tdiv (at0 b k) 2))
def Zpb {a b:List Int}(ha:a.length<=100)(hb:b.length<=100)(hN:200<=N):ZhX N a b=some (!Zt8 a b):=by
 unfold ZhX Zt8;have h2:∀i,i<a.length->ZaT (λx:Int=>Zfs N b (at0 a i) x) N 0=some (if allB b.length (λk=>!(w64 (Int.tdiv (at0 a i) 2)==w64 (Int.tdiv (at0 b k) 2)))then .inl ()else .inr true):=λi hi=>
  Zbm (n:=b.length) (λk hk=>by
   unfold Zfs;rw[Zav (by simp;omega),ZbH hk,Zak,←Zl4 hk,ZaO (by omega)];cases (w64 (Int.tdiv (at0 a i) 2)==w64 (Int.tdiv (at0 b k) 2))<;>rfl) (by unfold Zfs;rw[Zau (by simp)]) (by omega)
 have:=Zbm (n:=a.length) (p:=λi=>allB b.length λk=>!(w64 (Int.tdiv (at0 a i) 2)==w64 (Int.tdiv (at0 b k) 2))) (body:=λx:Int=>Zft N a b x) (bad:=.inr true) (fin:=.inl ()) (λi hi=>by
  unfold Zft;rw[Zav (by simp;omega),ZbH hi,Zak,←Zl4 hi,h2 i hi,ZaO (by omega)];cases allB b.length (λk=>!(w64 (Int.tdiv (at0 a i) 2)==w64 (Int.tdiv (at0 b k) 2)))<;>rfl) (by unfold Zft;rw[Zau (by simp)]) (N:=N) (by omega)
 rw[this];cases allB a.length (λi=>allB b.length λk=>!(w64 (Int.tdiv (at0 a i) 2)==w64 (Int.tdiv (at0 b k) 2)))<;>rfl
def ZlI (A B:List Int):Bool:=(List.range' 1 (A.length-2)).all λi=>!B.contains (at0 A i)
def ZjW {A B:List Int}(h1:2<=A.length)(hA:A.length<=100)(hB:B.length<=100)(hN:200<=N):Zfv N A B=some (!ZlI A B):=by
 unfold Zfv ZlI;have:=Zwe (n:=A.length-1) (p:=λi=>!B.contains (at0 A i)) (body:=λx:Int=>Ze3 N A B x) (bad:=.inr true) (fin:=.inl ()) (λi hi=>by
  unfold Ze3;rw[Zav (by rw[ZaK (by omega) (by omega)];simp;omega),ZbH (by omega),Zak,←Zl4 (by omega),Zjs (by omega) (by omega),Zak,ZaO (by omega)];cases B.contains (at0 A i)<;>rfl) (by unfold Ze3;rw[Zau (by rw[ZaK (by omega) (by omega)];simp;omega)]) (A.length-2) N 1 (by omega) (by omega) (by omega)
 rw[show((1:Nat):Int)=1 from rfl]at this;rw[this];cases (List.range' 1 (A.length-2)).all (λi=>!B.contains (at0 A i))<;>rfl
def Zlk (g:Good t){a b:List Int}(h2:ZbS t a=true)(h1:ZbS t b=true)(hN:200<=N):ZdT N ⟨t⟩ a b=some (!ZlI (Zbx t a) (Zbx t b)):=by
 obtain⟨a1,a8,_⟩:=Zch h2;obtain⟨b1,b8,_⟩:=Zch h1;have h5:=ZeG (t:=t) a;have h4:=ZeG (t:=t) b;unfold ZdT ZlI;rw[Zif g h2 hN,Zak,Zif g h1 hN,Zak];generalize hA:Zbx t a=A at*;generalize hB:Zbx t b=B at*;have h0:subI A 1 (w64 ((A.length:Int)-1))=some ((A.take (A.length-1)).drop 1):=by
  rw[ZaK (by omega) (by omega)];unfold subI;rw[Zav ⟨by omega,by omega,by omega⟩,show((A.length:Int)-1).toNat=A.length-1 by omega];rfl
 rw[h0,Zak];have h3:((A.take (A.length-1)).drop 1).length=A.length-2:=by simp;omega
 have:=Zbm (n:=A.length-2) (p:=λi=>!B.contains (at0 A (i+1))) (body:=λx:Int=>ZdJ N B ((A.take (A.length-1)).drop 1) x) (bad:=.inr true) (fin:=.inl ()) (λi hi=>by
  unfold ZdJ;rw[Zav (by rw[h3];simp;omega),ZbH (by omega),Zak];have e:((A.take (A.length-1)).drop 1)[i]'(by omega)=at0 A (i+1):=by
   rw[Zl4 (by omega),List.getElem_drop,List.getElem_take]
   congr 1;omega
  rw[e,Zhi (by omega) (by omega),Zak,ZaO (by omega)];cases B.contains (at0 A (i+1))<;>rfl) (by unfold ZdJ;rw[Zau (by rw[h3];simp)]) (N:=N) (by omega)
 rw[this];have e2:(List.range' 1 (A.length-2)).all (λi=>!B.contains (at0 A i))=allB (A.length-2) (λi=>!B.contains (at0 A (i+1))):=by
  unfold allB;rw[Zf,Zu,Zu];constructor
  ·intro h i hi;exact h (i+1) (by simp only[Z5]at hi;simp only[List.mem_range'_1];omega)
  intro h i hi;simp only[List.mem_range'_1]at hi;have:=h (i-1) (by simp only[Z5];omega)
  rwa [show i-1+1=i by omega]at this
 rw[e2];cases allB (A.length-2) (λi=>!B.contains (at0 A (i+1)))<;>rfl
def Zqj (t:Zaz)(a b:List Int):Bool:=Zt8 a b&&(ZlI (Zbx t a) (Zbx t b)&&ZlI (Zbx t b) (Zbx t a))
def Zlw (g:Good t){a b:List Int}(h1:ZbS t a=true)(h0:ZbS t b=true)(hN:200<=N):Zen N t a b=some (Zqj t a b):=by
 obtain⟨a1,a8,pa⟩:=Zch h1;obtain⟨b1,b8,pb⟩:=Zch h0;have h4:=ZeG (t:=t) a;have h3:=ZeG (t:=t) b;have hL:t.Links.length<=1000:=by have:=g.l24;omega
 unfold Zen Zqj;have h2:∀i:Nat,i<a.length->ZaT (λx:Int=>Zgc N a b (i:Int) x) N 0=some (if allB b.length (λk=>!(w64 (Int.tdiv (at0 a i) 2)==w64 (Int.tdiv (at0 b k) 2)))then .inl ()else .inr false):=λi hi=>
  Zbm (n:=b.length) (λk hk=>by
   unfold Zgc;rw[Zav (by simp;omega),ZbH hi,Zak,ZbH hk,Zak,←Zl4 hi,←Zl4 hk,ZaO (by omega)];cases (w64 (Int.tdiv (at0 a i) 2)==w64 (Int.tdiv (at0 b k) 2))<;>rfl) (by unfold Zgc;rw[Zau (by simp)]) (by omega)
 have:=Zbm (n:=a.length) (p:=λi=>allB b.length λk=>!(w64 (Int.tdiv (at0 a i) 2)==w64 (Int.tdiv (at0 b k) 2))) (body:=λx:Int=>Zgd N a b x) (bad:=.inr false) (fin:=.inl ()) (λi hi=>by
  unfold Zgd;rw[Zav (by simp;omega),h2 i hi,ZaO (by omega)];cases allB b.length (λk=>!(w64 (Int.tdiv (at0 a i) 2)==w64 (Int.tdiv (at0 b k) 2)))<;>rfl) (by unfold Zgd;rw[Zau (by simp)]) (N:=N) (by omega)
 rw[this];unfold Zt8;cases allB a.length (λi=>allB b.length λk=>!(w64 (Int.tdiv (at0 a i) 2)==w64 (Int.tdiv (at0 b k) 2)))with
 |false=>rfl
 |true=>
  simp only[Zaw,Zak,Zk];rw[Zil hL a1 (by omega) pa hN,Zil hL b1 (by omega) pb hN];simp only[Zak];rw[ZjW (by omega) (by omega) (by omega) hN,ZjW (by omega) (by omega) (by omega) hN];cases ZlI (Zbx t a) (Zbx t b)<;>cases ZlI (Zbx t b) (Zbx t a)<;>rfl
def Zqx {a b:List Int}(ha:a.length<=100)(hb:b.length<=100)(hN:200<=N):
  Zfd N t a b=some (if errR t a=0 then(if ZbS t b then(Zqj t a b,0)else(false,310))else(false,errR t a)):=by
 unfold Zfd Zd1;rw[Zf7 ha hN,Zak];by_cases he:errR t a=0
 ·obtain⟨hT,h1⟩:=ZkG.1 he;have g:=Zbg.1 hT;rw[Zav he,he];simp only[Zaq,Zg,Zat];unfold ZeA;rw[Zie g hb hN,Zak];cases h0:ZbS t b with
  |false=>rfl
  |true=>
   simp only[Zi,Zg,Zat,Zaw];rw[Zpb ha hb hN,Zlk g h1 h0 hN,Zlk g h0 h1 hN];unfold Zqj;cases Zt8 a b<;>cases ZlI (Zbx t a) (Zbx t b)<;>cases ZlI (Zbx t b) (Zbx t a)<;>rfl
 rw[Zau he];have:(errR t a !=0)=true:=by simpa using he
 rw[this];rfl
end
end Go.Sh
