/-Part of the proof. -/
import Derived.Test.YtlajapegdomhfaaGreatSynthRoomSh
import Derived.Test.YtlajapegdomhfaaGreatSynthRoomRd
import Derived.KernelRfl
set_option linter.all false
namespace Go.Sh
open Go Go.Eng
theorem ZaG {x:Int}(h: -9223372036854775808<=x)(h2:x<=9223372036854775807):w64 x=x:=by
 unfold w64 IntKind.wrap;simp only[IntKind.bits,IntKind.signed];by_cases h0:0<=x
 ·have:x%(2 ^ 64:Int)=x:=Zn h0 (by omega);simp only[this];rw[Zaq];simp;omega
 have:x%(2 ^ 64:Int)=x+2 ^ 64:=by
  rw[←Int.add_emod_right];exact Zn (by omega) (by omega)
 simp only[this];rw[Zar]
 ·omega
 simp;omega
theorem Zq5 {σ ρ:Type}(body:σ->Option (σ⊕ρ))(m:Nat)(x:σ):ZaO body (m+1) x=match body x with
  |none=>none
  |some (.inl y)=>ZaO body m y
  |some (.inr r)=>some r:=rfl
theorem ZbL {σ ρ:Type}{body:σ->Option (σ⊕ρ)}{m:Nat}{x y:σ}(h:body x=some (.inl y)):ZaO body (m+1) x=ZaO body m y:=by rw[Zq5,h]
theorem Za5 {σ ρ:Type}{body:σ->Option (σ⊕ρ)}{m:Nat}{x:σ}{r:ρ}(h:body x=some (.inr r)):ZaO body (m+1) x=some r:=by rw[Zq5,h]
theorem Zb6 {σ ρ:Type}{body:σ->Option (σ⊕ρ)}(I:σ->Prop)(μ:σ->Nat)(Post:ρ->Prop)
  (step:∀x,I x->(∃y,body x=some (.inl y)/\I y/\μ y<μ x)∨(∃r,body x=some (.inr r)/\Post r)):∀(N:Nat) (x:σ),I x->μ x<N->∃r,ZaO body N x=some r/\Post r
 |0,x,_,h=>by omega
 |N+1,x,hI,h=>by
  rcases step x hI with⟨y,h1,h2,h3⟩|⟨r,h1,h2⟩
  ·rw[ZbL h1];exact Zb6 I μ Post step N y h2 (by omega)
  exact⟨r,by rw[Za5 h1],h2⟩
theorem Zia {α:Type}(l:List α)(k:Nat):idx l (k:Int)=l[k]?:=by
 unfold idx;rw[Zar (by omega)];rfl
theorem Zq6 {α:Type}{l:List α}{i:Int}(h0:0<=i)(h:i.toNat<l.length):idx l i=some l[i.toNat]:=by
 unfold idx;rw[Zar h0];exact ZI h
theorem ZcR {a b:Int}(h:b≠0):remI a b=some (a.tmod b):=by unfold remI;rw[Zaq h]
theorem Zjc {k:IntKind}{a b:Int}(h:b≠0):quoI k a b=some (k.wrap (a.tdiv b)):=by unfold quoI;rw[Zaq h]
theorem Zix {α:Type}{l:List α}{k:Nat}(h:k<l.length):l.drop k=l[k]::l.drop (k+1):=List.drop_eq_getElem_cons h
theorem ZrC {a b:Int}(hb:0<b):(a.tmod b+b).tmod b=a%b:=by
 have h1:0<=a.tmod b+b:=by have:=Int.lt_tmod_of_pos a hb;omega
 rw[Zq h1,Int.add_emod_right];rw[Int.tmod_eq_emod];split
 ·simp
 have:(b.natAbs:Int)=b:=by omega
 rw[this];simp
theorem ZtM {α ρ:Type}{l:List α}{p:α->Bool}{body:Int->Option (Int⊕ρ)}{bad fin:ρ}(hstep:∀(k:Nat) (h:k<l.length),body (k:Int)=if p l[k]=true then some (.inl ((k+1:Nat):Int))else some (.inr bad))
  (hend:body (l.length:Int)=some (.inr fin)):∀(n N k:Nat),l.length-k=n->k<=l.length->n<N->ZaO body N (k:Int)=some (if(l.drop k).all p then fin else bad):=by
 intro n;induction n with
 |zero=>
  intro N k hn hk hN;have:k=l.length:=by omega
  subst this;cases N with
  |zero=>omega
  |succ N=>rw[Za5 hend];simp
 |succ n ih=>
  intro N k hn hk hN;cases N with
  |zero=>omega
  |succ N=>
   have hlt:k<l.length:=by omega
   rw[Zix hlt,List.all_cons];by_cases hp:p l[k]=true
   ·rw[ZbL (by rw[hstep k hlt,Zar hp]),ih N (k+1) (by omega) (by omega) (by omega)];simp[hp]
   rw[Za5 (by rw[hstep k hlt,Zaq hp])];simp[hp]
theorem ZpA {ρ:Type}{q:Nat->Bool}{P:Nat}{body:Int->Option (Int⊕ρ)}{bad:ρ}{good:Nat->ρ}(hstep:∀k:Nat,k<P->body (k:Int)=if q k=true then some (.inr (good k))else some (.inl ((k+1:Nat):Int)))
  (hend:body (P:Int)=some (.inr bad)):∀(n N k:Nat),P-k=n->k<=P->n<N->ZaO body N (k:Int)=some (match(List.range' k n).find? q with|some j=>good j|none=>bad):=by
 intro n;induction n with
 |zero=>
  intro N k hn hk hN;have:k=P:=by omega
  subst this;cases N with
  |zero=>omega
  |succ N=>rw[Za5 hend];simp
 |succ n ih=>
  intro N k hn hk hN;cases N with
  |zero=>omega
  |succ N=>
   have hlt:k<P:=by omega
   rw[Z5,Zz];by_cases hp:q k=true
   ·rw[Za5 (by rw[hstep k hlt,Zar hp])];simp[hp]
   rw[ZbL (by rw[hstep k hlt,Zaq hp]),ih N (k+1) (by omega) (by omega) (by omega)];simp[hp]
end Go.Sh

namespace Go.Sh
open Go Go.Eng
def VSpan (s:ZaM):Prop:=1<=s.Period/\s.Period<=960/\0<=s.From/\s.From<s.Period/\1<=s.Long/\s.Long<=s.Period
instance (s:ZaM):Decidable (VSpan s):=by unfold VSpan;infer_instance
theorem Zgi (N:Nat)(s:ZaM):Zen N s=some (if VSpan s then 0 else 330):=by
 unfold Zen;by_cases h:VSpan s
 ·rw[Zar h];unfold VSpan at h;rw[Zaq (by simp;omega),Zaq (by simp;omega)]
 rw[Zaq h];unfold VSpan at h;by_cases h1:((decide (s.Period<1))||((decide (s.Period>960))||((decide (s.From<0))||(decide (s.From≥s.Period)))))=true
 ·rw[Zar h1]
 rw[Zaq h1,Zar];simp at h1⊢;omega
theorem Zqj (N:Nat){a b:Int}(hb:0<b)(hb2:b<=1000000):ZiV N a b=some (a%b):=by
 unfold ZiV;have h1:=Int.lt_tmod_of_pos a hb;have h2:=Int.tmod_lt_of_pos a hb;rw[ZcR (by omega),Zag,ZaG (by omega) (by omega),ZcR (by omega),Zag,ZrC hb]
theorem Zj5 (N:Nat){a b:Int}(hb:0<b)(hb2:b<=1000000):Zhf N a b=some (a%b):=by
 unfold Zhf;have h1:=Int.lt_tmod_of_pos a hb;have h2:=Int.tmod_lt_of_pos a hb;have h3:=ZrC (a:=a) hb;rw[ZcR (by omega),Zag];by_cases h:a.tmod b<0
 ·rw[Zar (by simpa using h),Zag,ZaG (by omega) (by omega)];rw[Int.tmod_eq_of_lt (by omega) (by omega)]at h3;rw[h3]
 rw[Zaq (by simpa using h),Zag];rw[←h3,show a.tmod b+b=a.tmod b+b*1 by omega];have e:(a.tmod b+b).tmod b=(a.tmod b+b)%b:=Zq (by omega);rw[Int.mul_one,e,Int.add_emod_right];rw[Zn (by omega) (by omega)]
theorem ZnW (M:Nat):∀(b N a:Nat),b<N->ZaO (λx:Int×Int=>ZfO M x.1 x.2) N ((a:Int),(b:Int))=some (Nat.gcd a b:Int):=by
 intro b;induction b using Nat.strongRecOn with
 |_ b ih=>
  intro N a hN;cases N with
  |zero=>omega
  |succ N=>
   by_cases hb:b=0
   ·subst hb;rw[Za5 (r:=(a:Int))]
    ·simp
    simp[ZfO]
   have hlt:=Nat.mod_lt a (Nat.pos_of_ne_zero hb);rw[ZbL (y:=((b:Int),((a%b:Nat):Int)))]
   ·rw[ih (a%b) hlt N b (by omega)];rw[Nat.gcd_comm a b,Nat.gcd_rec b a,Nat.gcd_comm (a%b) b]
   simp only[ZfO];rw[Zar (by simp;omega),ZcR (by omega),Zag,Zq (by omega)];rfl
theorem Zla {N:Nat}{a b:Int}(ha:0<=a)(hb:0<=b)(hN:b.toNat<N):Zhb N a b=some (Nat.gcd a.toNat b.toNat:Int):=by
 unfold Zhb;have:=ZnW N b.toNat N a.toNat hN;rw[Zs ha,Zs hb]at this;rw[this];rfl
theorem Zfd {a d:Int}(hd:0<d)(ha:0<=a):a.tmod d=0↔d.toNat∣a.toNat:=by
 rw[Zq ha];constructor
 ·intro h;have h1:d∣a:=Int.dvd_of_emod_eq_zero h;rw[←Zs ha,←Zs (show 0<=d by omega)]at h1;exact Int.natCast_dvd_natCast.1 h1
 intro h;have:((d.toNat:Nat):Int)∣((a.toNat:Nat):Int):=Int.natCast_dvd_natCast.2 h;rw[Zs ha,Zs (by omega)]at this;exact Int.emod_eq_zero_of_dvd this
theorem Zqr (M:Nat){a b:Int}(ha:1<=a)(hb:1<=b)(ha2:a<=1000000):∀(d:Nat) (N:Nat),d<N->(d:Int)<=a->(∀e:Nat,d<e->¬(e∣a.toNat/\e∣b.toNat))→
  ∃r,ZaO (λx:Int=>Zf7 M a b x) N (d:Int)=some r/\(match r with|.inl _=>(1:Int)|.inr p=>p)=(Nat.gcd a.toNat b.toNat:Int):=by
 intro d;induction d with
 |zero=>
  intro N hN _ hall;exfalso;exact hall 1 (by omega) ⟨Nat.one_dvd _,Nat.one_dvd _⟩
 |succ d ih=>
  intro N hN hle hall;cases N with
  |zero=>omega
  |succ N=>
   have hgpos:0<Nat.gcd a.toNat b.toNat:=Nat.gcd_pos_of_pos_left _ (by omega);have hgle:Nat.gcd a.toNat b.toNat<=d+1:=by
    rcases Nat.lt_or_ge (d+1) (Nat.gcd a.toNat b.toNat)with h|h
    ·exact absurd ⟨Nat.gcd_dvd_left _ _,Nat.gcd_dvd_right _ _⟩ (hall _ h)
    exact h
   by_cases h1:d=0
   ·subst h1;refine⟨.inl (),Za5 (by simp[Zf7]),?_⟩;simp only;omega
   have hd1:((d+1:Nat):Int)>1:=by omega
   by_cases h2:(d+1)∣a.toNat/\(d+1)∣b.toNat
   ·refine⟨.inr ((d+1:Nat):Int),Za5 ?_,?_⟩
    ·simp only[Zf7];rw[Zar (by simpa using hd1),ZcR (by omega),Zag,Zar,ZcR (by omega),Zag]
     ·simp only[Zag];rw[Zar];simp only[beq_iff_eq];exact(Zfd (by omega) (by omega)).2 (by simpa using h2.2)
     simp only[beq_iff_eq];exact(Zfd (by omega) (by omega)).2 (by simpa using h2.1)
    simp only;have:d+1∣Nat.gcd a.toNat b.toNat:=Nat.dvd_gcd h2.1 h2.2;have:=Nat.le_of_dvd hgpos this;omega
   rw[ZbL (y:=(d:Int))]
   ·refine ih N (by omega) (by omega) λe he hd=>?_
    by_cases h3:e=d+1
    ·subst h3;exact h2 hd
    exact hall e (by omega) hd
   simp only[Zf7];rw[Zar (by simpa using hd1),ZcR (by omega),Zag];have hiff1:=Zfd (a:=a) (d:=((d+1:Nat):Int)) (by omega) (by omega);have hiff2:=Zfd (a:=b) (d:=((d+1:Nat):Int)) (by omega) (by omega);simp only[Zr]at hiff1 hiff2;by_cases h4:a.tmod ((d+1:Nat):Int)=0
   ·rw[Zar (by simpa using h4),ZcR (by omega),Zag,Zag,Zaq,ZaG (by omega) (by omega)]
    ·congr 2;omega
    simp only[beq_iff_eq];intro h5;exact h2 ⟨hiff1.1 h4,hiff2.1 h5⟩
   rw[Zaq (by simpa using h4),Zag,Zaq (by simp),ZaG (by omega) (by omega)]
   congr 2;omega
theorem Ztd {N:Nat}{a b:Int}(ha:1<=a)(hb:1<=b)(ha2:a<=1000000)(hN:a.toNat<N):Zl5 N a b=some (Nat.gcd a.toNat b.toNat:Int):=by
 unfold Zl5;obtain⟨r,h1,h2⟩:=Zqr N ha hb ha2 a.toNat N hN (by omega) (λe he hd=>by
  have:=Nat.le_of_dvd (by omega) hd.1;omega)
 rw[Zs (by omega)]at h1;rw[h1,Zag,←h2];cases r<;>rfl
def gP (a b:ZaM):Int:=(Nat.gcd a.Period.toNat b.Period.toNat:Int)
theorem ZtR {a b:ZaM}(ha:1<=a.Period):0<gP a b:=by
 have:0<Nat.gcd a.Period.toNat b.Period.toNat:=Nat.gcd_pos_of_pos_left _ (by omega);unfold gP;omega
theorem ZAo {a b:ZaM}(ha:1<=a.Period):gP a b<=a.Period:=by
 have:=Nat.le_of_dvd (by omega:0<a.Period.toNat) (Nat.gcd_dvd_left a.Period.toNat b.Period.toNat);unfold gP;omega
theorem ZuI {a b:ZaM}(ha:1<=a.Period):gP a b∣a.Period:=by
 have:=Int.natCast_dvd_natCast.2 (Nat.gcd_dvd_left a.Period.toNat b.Period.toNat)
 rwa [Zs (by omega)]at this
theorem ZtS {a b:ZaM}(hb:1<=b.Period):gP a b∣b.Period:=by
 have:=Int.natCast_dvd_natCast.2 (Nat.gcd_dvd_right a.Period.toNat b.Period.toNat)
 rwa [Zs (by omega)]at this
def SepD (a b:ZaM)(d:Int):Prop:=a.Long<=d%gP a b/\d%gP a b<=gP a b-b.Long
instance (a b:ZaM) (d:Int):Decidable (SepD a b d):=by unfold SepD;infer_instance
theorem Zug {al bl d g:Int}(hg:0<g)(ha:1<=al)(hb:1<=bl):(∀x,1-bl<=x->x<al->(d-x)%g≠0)↔(al<=d%g/\d%g<=g-bl):=by
 have h0:=Int.emod_nonneg d (show g≠0 by omega);have h1:=Int.emod_lt_of_pos d hg;have hd:=Int.mul_ediv_add_emod d g;constructor
 ·intro h;constructor
  ·rcases Int.lt_or_le (d%g) al with hlt|hle
   ·exfalso;refine h (d%g) (by omega) hlt ?_;have:d-d%g=g*(d/g):=by omega
    rw[this];exact Int.mul_emod_right _ _
   exact hle
  rcases Int.lt_or_le (g-bl) (d%g)with hlt|hle
  ·exfalso;refine h (d%g-g) (by omega) (by omega) ?_;have:d-(d%g-g)=g*(d/g+1):=by rw[Int.mul_add];omega
   rw[this];exact Int.mul_emod_right _ _
  exact hle
 rintro⟨h2,h3⟩ x hx1 hx2 hx;obtain⟨q,hq⟩:=Int.dvd_of_emod_eq_zero hx;have e:d%g-x=g*(q-d/g):=by rw[Int.mul_sub];omega
 generalize q-d/g=k at e;rcases Int.lt_trichotomy k 0 with hk|hk|hk
 ·have:g*k<=g*(-1):=Int.mul_le_mul_of_nonneg_left (by omega) (by omega);omega
 ·subst hk;omega
 have:g*1<=g*k:=Int.mul_le_mul_of_nonneg_left (by omega) (by omega);omega
end Go.Sh

namespace Go.Sh
open Go Go.Eng
theorem VSpan.bounds {s:ZaM}(h:VSpan s):1<=s.Period/\s.Period<=960/\0<=s.From/\s.From<s.Period/\1<=s.Long/\s.Long<=s.Period:=h
theorem ZAp (a b:ZaM):gP a b=gP b a:=by unfold gP;rw[Nat.gcd_comm]
theorem ZmY {N:Nat}(hN:2000<=N){a b:ZaM}(ha:1<=a.Period)(ha2:a.Period<=960)(hb:1<=b.Period)(hb2:b.Period<=960)(haf:0<=a.From)(haf2:a.From<=960)(hbf:0<=b.From)(hbf2:b.From<=960)
  (hal:1<=a.Long) (hal2:a.Long<=960) (hbl:1<=b.Long) (hbl2:b.Long<=960):ZeF N a b=some (decide (SepD a b (b.From-a.From))):=by
 unfold ZeF;rw[Ztd ha hb (by omega) (by omega),Zag];have hg0:0<gP a b:=ZtR ha;have hg1:gP a b<=a.Period:=ZAo ha;have key:∀(n:Nat) (M:Nat) (x:Int),(a.Long-x).toNat=n->1-b.Long<=x->n<M->(∀y,1-b.Long<=y->y<x->(b.From-a.From-y)%gP a b≠0)→
   ∃r,ZaO (λx:Int=>ZcH N a b (gP a b) x) M x=some r/\(match r with|.inl _=>true|.inr p=>p)=decide (SepD a b (b.From-a.From)):=by
  intro n;induction n with
  |zero=>
   intro M x hn hx hM hall;cases M with
   |zero=>omega
   |succ M=>
    refine⟨.inl (),Za5 (by simp only[ZcH];rw[Zaq (by simp;omega)]),?_⟩;symm;simp only[Zao];refine(Zug hg0 hal hbl).1 λy h1 h2=>hall y h1 (by omega)
  |succ n ih=>
   intro M x hn hx hM hall;cases M with
   |zero=>omega
   |succ M=>
    have hlt:x<a.Long:=by omega
    have e1:w64 (b.From-a.From)=b.From-a.From:=ZaG (by omega) (by omega);have e2:w64 (b.From-a.From-x)=b.From-a.From-x:=ZaG (by omega) (by omega);have hbody:ZcH N a b (gP a b) x=if((b.From-a.From-x)%gP a b==0)=true then some (.inr (.inr false))else some (.inl (w64 (x+1))):=by
     simp only[ZcH];rw[Zar (by simpa using hlt),e1,e2,Zj5 N hg0 (by omega),Zag]
    by_cases h0:(b.From-a.From-x)%gP a b=0
    ·refine⟨.inr false,Za5 (by rw[hbody,Zar (by simpa using h0)]),?_⟩;symm;simp only[decide_eq_false_iff_not];intro hs;exact(Zug hg0 hal hbl).2 hs x hx hlt h0
    rw[ZbL (y:=x+1) (by rw[hbody,Zaq (by simpa using h0),ZaG (by omega) (by omega)])];refine ih M (x+1) (by omega) (by omega) (by omega) λy h1 h2=>?_
    by_cases h3:y=x
    ·subst h3;exact h0
    exact hall y h1 (by omega)
 rw[ZaG (by omega) (by omega)];obtain⟨r,h1,h2⟩:=key (a.Long-(1-b.Long)).toNat N (1-b.Long) rfl (Int.le_refl _) (by omega) (λy h1 h2=>by omega);show(ZaO (λx:Int=>ZcH N a b (gP a b) x) N (1-b.Long)).bind _=_;rw[h1,Zag,←h2];cases r<;>rfl
theorem VSpan.separate {N:Nat}(hN:2000<=N){a b:ZaM}(ha:VSpan a)(hb:VSpan b):ZeF N a b=some (decide (SepD a b (b.From-a.From))):=by
 obtain⟨a1,a2,a3,a4,a5,a6⟩:=ha;obtain⟨b1,b2,b3,b4,b5,b6⟩:=hb;exact ZmY hN a1 a2 b1 b2 a3 (by omega) b3 (by omega) a5 (by omega) b5 (by omega)
theorem ZoX {N:Nat}(hN:2000<=N){a b:ZaM}(ha:VSpan a)(hb:VSpan b):ZhK N a b=some (a.Long,gP a b-b.Long,gP a b):=by
 obtain⟨a1,a2,a3,a4,a5,a6⟩:=ha;obtain⟨b1,b2,b3,b4,b5,b6⟩:=hb;have hg0:0<gP a b:=ZtR a1;have hg1:gP a b<=a.Period:=ZAo a1;unfold ZhK;rw[Zla (by omega) (by omega) (by omega),Zag];show some (a.Long,w64 (gP a b-b.Long),gP a b)=_;rw[ZaG (by omega) (by omega)]
theorem ZnY {N:Nat}(hN:2000<=N){a b:ZaM}(ha:VSpan a)(hb:VSpan b):ZgC N a b=some (decide (SepD a b (b.From-a.From))):=by
 have hr:=ZoX hN ha hb;obtain⟨a1,a2,a3,a4,a5,a6⟩:=ha;obtain⟨b1,b2,b3,b4,b5,b6⟩:=hb;have hg0:0<gP a b:=ZtR a1;have hg1:gP a b<=a.Period:=ZAo a1;unfold ZgC;by_cases h:((a.Period==b.Period)&&((a.From==b.From)&&((a.Long==b.Long)&&true)))=true
 ·rw[Zar h];simp only[Ze,beq_iff_eq,Zal]at h;symm;simp only[Zaj,decide_eq_false_iff_not];unfold SepD;rw[h.2.1,Int.sub_self,Int.zero_emod];omega
 rw[Zaq h,hr];simp only[Zag];rw[ZaG (by omega) (by omega),Zqj N hg0 (by omega)];simp only[Zag,Zaj];rw[Zf,decide_eq_true_iff];simp only[Ze,Zao,SepD]
theorem Zn2 {N:Nat}(hN:2000<=N)(a b:ZaM):ZgE N a b=some (if VSpan a/\VSpan b then(decide (SepD a b (b.From-a.From)),0)else(false,330)):=by
 unfold ZgE;rw[Zgi,Zgi];simp only[Zag];by_cases ha:VSpan a
 ·by_cases hb:VSpan b
  ·simp only[ha,hb,Zas,and_self,Zam,Zg,Zap,ZnY hN ha hb,Zag]
  simp[ha,hb]
 simp[ha]
end Go.Sh
namespace Go.Sh
open Go Go.Eng
theorem Zew {α:Type}{b:Nat}{l m:List α}(h:l.length+m.length<=100000)(hb:b<=100000):appI b l m=some (l++m):=by
 unfold appI;rw[Zar];have:(l.length+m.length)*b<=100000*100000:=Nat.mul_le_mul h hb;omega
def allV (l:List ZaM):Bool:=l.all λs=>decide (VSpan s)
theorem ZlA {N:Nat}(hN:100<=N)(l:List ZaM):ZeO N l=some (if 32<l.length then 3 else if allV l then 0 else 330):=by
 unfold ZeO;by_cases h:32<l.length
 ·rw[Zar (by simp;omega),Zar h]
 rw[Zaq (by simp;omega),Zaq h];have:=ZtM (l:=l) (p:=λs=>decide (VSpan s)) (body:=λx:Int=>Zdu N l x) (bad:=.inr 330) (fin:=.inl ()) (λk hk=>by
  simp only[Zdu];rw[Zar (by simpa using hk),Zia,ZI hk,Zag,Zgi,Zag];by_cases hv:VSpan l[k]
  ·simp only[hv,Zas,Zam,Zg,Zap,decide_true];rw[ZaG (by omega) (by omega)];simp
  simp[hv]) (by simp[Zdu]) l.length N 0 (by omega) (by omega) (by omega)
 rw[show((0:Nat):Int)=0 from rfl]at this;rw[this,Zag,Zy];have e:(l.all λs=>decide (VSpan s))=allV l:=rfl;rw[e];cases allV l<;>rfl
end Go.Sh
namespace Go.Sh
open Go Go.Eng
def lcmP:List ZaM->Nat
 |[]=>1
 |s::l=>Nat.lcm s.Period.toNat (lcmP l)
theorem Zu9:∀{l:List ZaM},(∀s∈l,VSpan s)->0<lcmP l
 |[],_=>by decide
 |s::l,h=>by
  have h1:=(h s (by simp)).bounds;exact Nat.lcm_pos (by omega) (Zu9 λt ht=>h t (by simp[ht]))
theorem ZnK:∀{l:List ZaM} {n:Nat},lcmP l∣n↔∀s∈l,s.Period.toNat∣n
 |[],n=>by simp[lcmP]
 |s::l,n=>by
  simp only[lcmP,List.mem_cons,forall_eq_or_imp];rw[Nat.lcm_dvd_iff,ZnK]
theorem ZmW {N:Nat}(hN:2000<=N){ps:List Int}(hps:∀p∈ps,1<=p/\p<=960):∀(n M k:Nat) (m:Nat),ps.length-k=n->k<=ps.length->n<M->1<=m->m<=960->ps.length<=1000→
  ∃r,ZaO (λx:Int×Int=>Zde N 960 ps x.1 x.2) M ((m:Int),(k:Int))=some r∧
   (r<=960->r=((ps.drop k).foldl (λa p=>Nat.lcm a p.toNat) m:Nat))/\(960<r->960<(ps.drop k).foldl (λa p=>Nat.lcm a p.toNat) m):=by
 have mono:∀(l:List Int) (a:Nat),(∀p∈l,1<=p)->0<a->a<=l.foldl (λa p=>Nat.lcm a p.toNat) a:=by
  intro l;induction l with
  |nil=>intro a _ _;exact Nat.le_refl _
  |cons p l ih=>
   intro a hp ha;simp only[ZB];have h1:=hp p (by simp);have hpos:0<Nat.lcm a p.toNat:=Nat.lcm_pos ha (by omega);exact Nat.le_trans (Nat.le_of_dvd hpos (Nat.dvd_lcm_left _ _)) (ih _ (λq hq=>hp q (by simp[hq])) hpos)
 intro n;induction n with
 |zero=>
  intro M k m hn hk hM hm hm2 hl;have:k=ps.length:=by omega
  subst this;cases M with
  |zero=>omega
  |succ M=>
   refine⟨(m:Int),Za5 (by simp only[Zde];rw[Zaq (by simp)]),λ_=>?_,λh=>?_⟩
   ·simp
   omega
 |succ n ih=>
  intro M k m hn hk hM hm hm2 hl;cases M with
  |zero=>omega
  |succ M=>
   have hlt:k<ps.length:=by omega
   obtain⟨p1,p2⟩:=hps ps[k] (List.getElem_mem hlt);have hg:0<Nat.gcd m ps[k].toNat:=Nat.gcd_pos_of_pos_left _ (by omega);have hq:(m:Int).tdiv (Nat.gcd m ps[k].toNat:Int)=((m/Nat.gcd m ps[k].toNat:Nat):Int):=by
    rw[Zp (by omega)];rfl
   have hqle:m/Nat.gcd m ps[k].toNat<=m:=Nat.div_le_self _ _;have hmul:((m/Nat.gcd m ps[k].toNat:Nat):Int)*ps[k]=(Nat.lcm m ps[k].toNat:Int):=by
    have e1:ps[k]=(ps[k].toNat:Int):=by omega
    have e2:Nat.lcm m ps[k].toNat=m/Nat.gcd m ps[k].toNat*ps[k].toNat:=by
     rw[Nat.lcm,Nat.mul_comm m,Nat.mul_div_assoc _ (Nat.gcd_dvd_left _ _),Nat.mul_comm]
    rw[e2,Int.natCast_mul,←e1]
   have hlcm:Nat.lcm m ps[k].toNat<=960*960:=by
    have h1:m/Nat.gcd m ps[k].toNat*ps[k].toNat<=960*960:=Nat.mul_le_mul (by omega) (by omega);have e2:Nat.lcm m ps[k].toNat=m/Nat.gcd m ps[k].toNat*ps[k].toNat:=by
     rw[Nat.lcm,Nat.mul_comm m,Nat.mul_div_assoc _ (Nat.gcd_dvd_left _ _),Nat.mul_comm]
    omega
   have hlpos:0<Nat.lcm m ps[k].toNat:=Nat.lcm_pos (by omega) (by omega);have hbody:Zde N 960 ps (m:Int) (k:Int)=if 960<Nat.lcm m ps[k].toNat then some (.inr (Nat.lcm m ps[k].toNat:Int))else some (.inl ((Nat.lcm m ps[k].toNat:Int),((k+1:Nat):Int))):=by
    simp only[Zde];rw[Zar (by simpa using hlt),Zia,ZI hlt,Zag,Zla (by omega) (by omega) (by omega),Zag,Zr,Zjc (by omega),Zag,hq];have hq0:(0:Int)<=((m/Nat.gcd m ps[k].toNat:Nat):Int):=Int.natCast_nonneg _;have hq1:((m/Nat.gcd m ps[k].toNat:Nat):Int)<=960:=Int.ofNat_le.2 (Nat.le_trans hqle hm2);have e3:IntKind.i64.wrap ((m/Nat.gcd m ps[k].toNat:Nat):Int)=((m/Nat.gcd m ps[k].toNat:Nat):Int):=ZaG (Int.le_trans (by decide) hq0) (Int.le_trans hq1 (by decide));rw[e3,hmul,ZaG (by omega) (by omega),ZaG (by omega) (by omega)];by_cases hc:960<Nat.lcm m ps[k].toNat
    ·rw[Zar (by simp;omega),Zar hc]
    rw[Zaq (by simp;omega),Zaq hc];simp
   rw[Zix hlt,ZB];by_cases hc:960<Nat.lcm m ps[k].toNat
   ·refine⟨(Nat.lcm m ps[k].toNat:Int),Za5 (by rw[hbody,Zar hc]),λh=>?_,λ_=>?_⟩
    ·omega
    exact Nat.lt_of_lt_of_le hc (mono _ _ (λq hq=>(hps q (List.mem_of_mem_drop hq)).1) hlpos)
   rw[ZbL (by rw[hbody,Zaq hc])];exact ih M (k+1) _ (by omega) (by omega) (by omega) (by omega) (by omega) hl
theorem Zrc:∀(l:List ZaM) (m:Nat),(l.map ZaM.Period).foldl (λa p=>Nat.lcm a p.toNat) m=Nat.lcm m (lcmP l)
 |[],m=>by simp[lcmP,Nat.lcm_one_right]
 |s::l,m=>by simp only[Z0,ZB,lcmP];rw[Zrc l,Nat.lcm_assoc]
def Zvk (l:List ZaM):Int×Int:=if 32<l.length then(0,3)else if allV l=true then(if lcmP l<=960 then((lcmP l:Int),0)else(0,6))else(0,330)
theorem Zvs {l:List ZaM}(h:allV l=true):∀s∈l,VSpan s:=by
 unfold allV at h;rw[Zt]at h;exact λs hs=>by simpa using h s hs
theorem Zn0 {N:Nat}(hN:2000<=N)(l:List ZaM):ZgD N l=some (Zvk l):=by
 unfold ZgD Zvk;rw[ZlA (by omega)];simp only[Zag];by_cases h:32<l.length
 ·simp[h]
 by_cases hv:allV l=true
 ·simp only[h,hv,Zas,Zap,Zam,Zg];have hmk:Zhr 8 (l.length:Int) (l.length:Int) (0:Int)=some (List.replicate l.length 0):=by
   unfold Zhr;rw[Zar (by omega)];simp
  rw[hmk,Zag];have hloop:∀(n M k:Nat),l.length-k=n->k<=l.length->n<M->ZaO (λx:Int×List Int=>ZeP N l x.1 x.2) M ((k:Int),(l.map ZaM.Period).take k++List.replicate (l.length-k) 0)=some (l.map ZaM.Period):=by
   intro n;induction n with
   |zero=>
    intro M k hn hk hM;have:k=l.length:=by omega
    subst this;cases M with
    |zero=>omega
    |succ M=>
     refine Za5 ?_;simp only[ZeP];rw[Zaq (by simp)];simp[Zab]
   |succ n ih=>
    intro M k hn hk hM;cases M with
    |zero=>omega
    |succ M=>
     have hlt:k<l.length:=by omega
     have hc:=ih M (k+1) (by omega) (by omega) (by omega);rw[ZbL (y:=(((k+1:Nat):Int),(l.map ZaM.Period).take (k+1)++List.replicate (l.length-(k+1)) 0)),hc];simp only[ZeP];have hlen:((l.map ZaM.Period).take k++List.replicate (l.length-k) 0).length=l.length:=by simp;omega
     rw[Zar (by simpa using hlt),Zia,ZI hlt,Zag,Zia,ZI (by omega),Zag,ZaG (by omega) (by omega)];have hset:List.set ((l.map ZaM.Period).take k++List.replicate (l.length-k) 0) k l[k].Period=(l.map ZaM.Period).take (k+1)++List.replicate (l.length-(k+1)) 0:=by
      rw[Z8 _ _ (by simp;omega)];have e1:k-((l.map ZaM.Period).take k).length=0:=by simp;omega
      rw[e1,show l.length-k=(l.length-(k+1))+1 by omega,List.replicate_succ,List.set_cons_zero,Zac (by simpa using hlt)];simp
     simp only[Zr,hset];rfl
  have hc:=hloop l.length N 0 (by omega) (by omega) (by omega);simp only[List.take_zero,Z4,Nat.sub_zero]at hc;rw[show((0:Nat):Int)=0 from rfl]at hc;rw[hc,Zag];have hVl:=Zvs hv;obtain⟨r,h1,h2,h3⟩:=ZmW hN (ps:=l.map ZaM.Period) (λp hp=>by
   obtain⟨s,hs,rfl⟩:=List.mem_map.1 hp;have:=(hVl s hs).bounds;omega) l.length N 0 1 (by simp) (by omega) (by omega) (by omega) (by omega) (by simp;omega)
  rw[Zy,Zrc,Nat.lcm_one_left]at h2 h3;have hf:ZhL N 960 (l.map ZaM.Period)=some r:=by
   unfold ZhL;have h1':ZaO (λx:Int×Int=>Zde N 960 (l.map ZaM.Period) x.1 x.2) N (1,0)=some r:=h1;rw[h1',Zag]
  rw[hf,Zag];by_cases hc2:960<r
  ·rw[Zar (by simpa using hc2),Zaq (by have:=h3 hc2;omega)]
  have:=h2 (by omega);rw[Zaq (by simpa using hc2),Zar (by omega),this]
 simp[h,hv]
end Go.Sh
namespace Go.Sh
open Go Go.Eng
theorem ZL4:∀(b a:Nat),∃p q:Int,(Nat.gcd a b:Int)=a*p+b*q:=by
 intro b;induction b using Nat.strongRecOn with
 |_ b ih=>
  intro a;by_cases hb:b=0
  ·subst hb;exact⟨1,0,by simp⟩
  obtain⟨p,q,h⟩:=ih (a%b) (Nat.mod_lt _ (Nat.pos_of_ne_zero hb)) b;refine⟨q,p-(a/b:Nat)*q,?_⟩;have e1:Nat.gcd a b=Nat.gcd b (a%b):=by rw[Nat.gcd_comm a b,Nat.gcd_rec b a,Nat.gcd_comm]
  have e2:((a%b:Nat):Int)=(a:Int)-b*(a/b:Nat):=by
   have:=Nat.div_add_mod a b;have:((b*(a/b)+a%b:Nat):Int)=(a:Int):=by rw[this]
   rw[Int.natCast_add,Int.natCast_mul]at this;omega
  rw[e1,h,e2,Int.sub_mul,Int.mul_sub,Int.mul_assoc];omega
theorem crt {m n:Nat}(hm:0<m)(hn:0<n){x y:Int}(h:(y-x)%(Nat.gcd m n:Int)=0):∃z:Int,0<=z/\z<(m:Int)*n/\(z-x)%m=0/\(z-y)%n=0:=by
 obtain⟨p,q,hpq⟩:=ZL4 n m;obtain⟨c,hc⟩:=Int.dvd_of_emod_eq_zero h;have hmn:0<(m:Int)*n:=Int.mul_pos (by omega) (by omega);refine⟨(x+m*(p*c))%(m*n),Int.emod_nonneg _ (by omega),Int.emod_lt_of_pos _ hmn,?_,?_⟩
 ·rw[Int.sub_emod,Zm _ (Int.dvd_mul_right _ _),←Int.sub_emod];rw[show x+(m:Int)*(p*c)-x=m*(p*c)by omega];exact Int.mul_emod_right _ _
 rw[Int.sub_emod,Zm _ (Int.dvd_mul_left _ _),←Int.sub_emod];have:x+(m:Int)*(p*c)-y=n*(-(q*c)):=by
  have h1:y-x=(m:Int)*p*c+n*q*c:=by rw[hc,hpq,Int.add_mul]
  rw[Int.mul_neg,←Int.mul_assoc,←Int.mul_assoc];omega
 rw[this];exact Int.mul_emod_right _ _
theorem Zmr {a b g:Int}:(a-b)%g=0↔a%g=b%g:=by
 constructor
 ·intro h;exact Int.emod_eq_emod_iff_emod_sub_eq_zero.2 h
 intro h;exact Int.emod_eq_emod_iff_emod_sub_eq_zero.1 h
theorem Zxy {a b:ZaM}(ha:VSpan a)(hb:VSpan b):SepD a b (b.From-a.From)↔∀x:Nat,(x:Int)<a.Period*b.Period->¬(((x:Int)-a.From)%a.Period<a.Long/\((x:Int)-b.From)%b.Period<b.Long):=by
 obtain⟨a1,a2,a3,a4,a5,a6⟩:=ha.bounds;obtain⟨b1,b2,b3,b4,b5,b6⟩:=hb.bounds;have hg0:0<gP a b:=ZtR a1;have hga:gP a b∣a.Period:=ZuI a1;have hgb:gP a b∣b.Period:=ZtS b1;have hs:=Zug (d:=b.From-a.From) hg0 a5 b5;unfold SepD;rw[←hs];constructor
 ·rintro h x _ ⟨hx1,hx2⟩;have m0:=Int.emod_nonneg ((x:Int)-a.From) (show a.Period≠0 by omega);have n0:=Int.emod_nonneg ((x:Int)-b.From) (show b.Period≠0 by omega);refine h (((x:Int)-a.From)%a.Period-((x:Int)-b.From)%b.Period) (by omega) (by omega) ?_;obtain⟨q1,hq1⟩:=hga;obtain⟨q2,hq2⟩:=hgb;have e1:=Int.mul_ediv_add_emod ((x:Int)-a.From) a.Period;have e2:=Int.mul_ediv_add_emod ((x:Int)-b.From) b.Period;generalize ((x:Int)-a.From)/a.Period=k1 at e1;generalize ((x:Int)-b.From)/b.Period=k2 at e2;have e3:b.From-a.From-(((x:Int)-a.From)%a.Period-((x:Int)-b.From)%b.Period)=gP a b*(q1*k1-q2*k2):=by
   have f1:a.Period*k1=gP a b*(q1*k1):=by rw[←Int.mul_assoc,←hq1]
   have f2:b.Period*k2=gP a b*(q2*k2):=by rw[←Int.mul_assoc,←hq2]
   rw[Int.mul_sub];omega
  rw[e3];exact Int.mul_emod_right _ _
 intro h y hy1 hy2 hy;have hcrt:∀u v:Int,u-v=y->0<=u->u<a.Long->0<=v->v<b.Long->False:=by
  intro u v huv u0 u1 v0 v1;obtain⟨z,z0,z1,z2,z3⟩:=crt (m:=a.Period.toNat) (n:=b.Period.toNat) (by omega) (by omega) (x:=a.From+u) (y:=b.From+v) (by
   rw[show b.From+v-(a.From+u)=b.From-a.From-y by omega];exact hy)
  rw[Zs (by omega)]at z1 z2;rw[Zs (by omega)]at z1 z3;refine h z.toNat (by rw[Zs z0];exact z1) ⟨?_,?_⟩
  ·rw[Zs z0];have:(z-a.From)%a.Period=u%a.Period:=Zmr.1 (by rw[show z-a.From-u=z-(a.From+u)by omega];exact z2);rw[this,Zn u0 (by omega)];exact u1
  rw[Zs z0];have:(z-b.From)%b.Period=v%b.Period:=Zmr.1 (by rw[show z-b.From-v=z-(b.From+v)by omega];exact z3);rw[this,Zn v0 (by omega)];exact v1
 by_cases h0:0<=y
 ·exact hcrt y 0 (by omega) h0 hy2 (by omega) (by omega)
 exact hcrt 0 (-y) (by omega) (by omega) (by omega) (by omega) (by omega)
theorem Zyk {d g:Int}(hg:0<g):(-d)%g=if d%g=0 then 0 else g-d%g:=by
 have h0:=Int.emod_nonneg d (show g≠0 by omega);have h1:=Int.emod_lt_of_pos d hg;have hd:=Int.mul_ediv_add_emod d g;split
 ·rename_i h;have: -d=g*(-(d/g)):=by rw[Int.mul_neg];omega
  rw[this];exact Int.mul_emod_right _ _
 rename_i h;have: -d=(g-d%g)+g*(-(d/g)-1):=by rw[Int.mul_sub,Int.mul_neg];omega
 rw[this,Zl];exact Zn (by omega) (by omega)
theorem Zx5 {a b:ZaM}(ha:VSpan a)(hb:VSpan b):SepD b a (a.From-b.From)↔SepD a b (b.From-a.From):=by
 obtain⟨a1,a2,a3,a4,a5,a6⟩:=ha.bounds;obtain⟨b1,b2,b3,b4,b5,b6⟩:=hb.bounds;have hg0:0<gP a b:=ZtR a1;have h0:=Int.emod_nonneg (b.From-a.From) (show gP a b≠0 by omega);have h1:=Int.emod_lt_of_pos (b.From-a.From) hg0;unfold SepD;rw[ZAp b a,show a.From-b.From= -(b.From-a.From)by omega,Zyk hg0];split<;>omega
end Go.Sh
namespace Go.Sh
open Go Go.Eng
def allB (n:Nat)(p:Nat->Bool):Bool:=(List.range n).all p
theorem Zbq {n:Nat}{p:Nat->Bool}:allB n p=true↔∀k,k<n->p k=true:=by simp[allB]
theorem ZkS {n:Nat}{p q:Nat->Bool}(h:∀k,k<n->p k=q k):allB n p=allB n q:=by
 rw[Zf,Zbq,Zbq];exact⟨λhp k hk=>by rw[←h k hk];exact hp k hk,λhp k hk=>by rw[h k hk];exact hp k hk⟩
theorem ZyM (n:Nat)(p q:Nat->Bool):allB n (λk=>p k&&q k)=(allB n p&&allB n q):=by
 rw[Zf,Ze,Zbq,Zbq,Zbq];simp only[Ze];exact⟨λh=>⟨λk hk=>(h k hk).1,λk hk=>(h k hk).2⟩,λh k hk=>⟨h.1 k hk,h.2 k hk⟩⟩
theorem Zbh {ρ:Type}{n:Nat}{p:Nat->Bool}{body:Int->Option (Int⊕ρ)}{bad fin:ρ}(hstep:∀k:Nat,k<n->body (k:Int)=if p k=true then some (.inl ((k+1:Nat):Int))else some (.inr bad))
  (hend:body (n:Int)=some (.inr fin)) {N:Nat} (hN:n<N):ZaO body N 0=some (if allB n p then fin else bad):=by
 have key:∀(m N k:Nat),n-k=m->k<=n->m<N->ZaO body N (k:Int)=some (if(List.range' k m).all p then fin else bad):=by
  intro m;induction m with
  |zero=>
   intro N k h1 h2 h3;obtain rfl:k=n:=by omega
   cases N with
   |zero=>omega
   |succ N=>rw[Za5 hend];rfl
  |succ m ih=>
   intro N k h1 h2 h3;cases N with
   |zero=>omega
   |succ N=>
    rw[Z5,List.all_cons];by_cases hp:p k=true
    ·rw[ZbL (by rw[hstep k (by omega),Zar hp]),ih N (k+1) (by omega) (by omega) (by omega),hp,Zk]
    rw[Za5 (by rw[hstep k (by omega),Zaq hp])];simp[hp]
 have:=key n N 0 (by omega) (by omega) hN;rw[←Z6]at this;exact this
theorem Zjm {β ρ:Type}{n:Nat}{p:Nat->Bool}{f:β->Nat->β}{body:Int×β->Option ((Int×β)⊕ρ)}{bad:ρ}{fin:β->ρ}(I:Nat->β->Prop)
  (hstep:∀k b,k<n->I k b->body ((k:Int),b)=if p k=true then some (.inl (((k+1:Nat):Int),f b k))else some (.inr bad)) (hI:∀k b,k<n->I k b->p k=true->I (k+1) (f b k))
  (hend:∀b,I n b->body ((n:Int),b)=some (.inr (fin b))) {N:Nat} (hN:n<N) {b0:β} (h0:I 0 b0):ZaO body N (0,b0)=some (if allB n p then fin ((List.range n).foldl f b0)else bad)/\(allB n p=true->I n ((List.range n).foldl f b0)):=by
 have key:∀(m N k:Nat) (b:β),n-k=m->k<=n->m<N->I k b->ZaO body N ((k:Int),b)=some (if(List.range' k m).all p then fin ((List.range' k m).foldl f b)else bad)/\((List.range' k m).all p=true->I n ((List.range' k m).foldl f b)):=by
  intro m;induction m with
  |zero=>
   intro N k b h1 h2 h3 hb;obtain rfl:k=n:=by omega
   cases N with
   |zero=>omega
   |succ N=>exact⟨by rw[Za5 (hend b hb)];rfl,λ_=>hb⟩
  |succ m ih=>
   intro N k b h1 h2 h3 hb;cases N with
   |zero=>omega
   |succ N=>
    rw[Z5,List.all_cons,ZB];by_cases hp:p k=true
    ·obtain⟨i1,i2⟩:=ih N (k+1) (f b k) (by omega) (by omega) (by omega) (hI k b (by omega) hb hp);rw[hp,Zk];exact⟨by rw[ZbL (by rw[hstep k b (by omega) hb,Zar hp]),i1],i2⟩
    refine⟨?_,λh=>?_⟩
    ·rw[Za5 (by rw[hstep k b (by omega) hb,Zaq hp])];simp[hp]
    simp[hp]at h
 obtain⟨h1,h2⟩:=key n N 0 b0 (by omega) (by omega) hN h0;rw[←Z6]at h1 h2;exact⟨h1,h2⟩
theorem ZdQ {β ρ:Type}{n:Nat}{f:β->Nat->β}{body:Int×β->Option ((Int×β)⊕ρ)}{fin:β->ρ}(I:Nat->β->Prop)
  (hstep:∀k b,k<n->I k b->body ((k:Int),b)=some (.inl (((k+1:Nat):Int),f b k))) (hI:∀k b,k<n->I k b->I (k+1) (f b k))
  (hend:∀b,I n b->body ((n:Int),b)=some (.inr (fin b))) {N:Nat} (hN:n<N) {b0:β} (h0:I 0 b0):ZaO body N (0,b0)=some (fin ((List.range n).foldl f b0))/\I n ((List.range n).foldl f b0):=by
 have key:∀(m N k:Nat) (b:β),n-k=m->k<=n->m<N->I k b->ZaO body N ((k:Int),b)=some (fin ((List.range' k m).foldl f b))/\I n ((List.range' k m).foldl f b):=by
  intro m;induction m with
  |zero=>
   intro N k b h1 h2 h3 hb;obtain rfl:k=n:=by omega
   cases N with
   |zero=>omega
   |succ N=>exact⟨by rw[Za5 (hend b hb)];rfl,hb⟩
  |succ m ih=>
   intro N k b h1 h2 h3 hb;cases N with
   |zero=>omega
   |succ N=>
    obtain⟨i1,i2⟩:=ih N (k+1) (f b k) (by omega) (by omega) (by omega) (hI k b (by omega) hb);exact⟨by rw[ZbL (hstep k b (by omega) hb),i1];rfl,i2⟩
 obtain⟨h1,h2⟩:=key n N 0 b0 (by omega) (by omega) hN h0;rw[←Z6]at h1 h2;exact⟨h1,h2⟩
theorem ZpH {α β:Type}(d:α)(l:List α)(f:β->α->β)(b:β):(List.range l.length).foldl (λb k=>f b (l.getD k d)) b=l.foldl f b:=by
 have h:(List.range l.length).map (λk=>l.getD k d)=l:=Zux l.length d l rfl rfl
 conv=>rhs;rw[←h]
 rw[List.foldl_map]
theorem ZaL {n:Nat}(h:n<1000000):w64 ((n:Int)+1)=((n+1:Nat):Int):=by rw[ZaG (by omega) (by omega)];omega
theorem ZbM {α:Type}{l:List α}{k:Nat}(h:k<l.length):idx l (k:Int)=some l[k]:=by rw[Zia,ZI h]
theorem ZbX {α:Type}{l:List α}{i:Int}(d:α)(h0:0<=i)(h:i<l.length):idx l i=some (l.getD i.toNat d):=by
 rw[Zq6 h0 (by omega)];simp[ZC,ZI (show i.toNat<l.length by omega)]
theorem ZpQ {α:Type}[BEq α][LawfulBEq α](l:List α)(x:α):(match(List.range' 0 l.length).find? (λk=>x==l.getD k x)with|some j=>(j:Int)|none=> -1)≥0↔l.contains x=true:=by
 rw[←Z6];cases h:(List.range l.length).find? (λk=>x==l.getD k x)with
 |none=>
  simp only[List.find?_eq_none,Z2]at h;constructor
  ·intro h;exact absurd h (by decide)
  intro hc;rw[Zx]at hc;obtain⟨k,hk,rfl⟩:=List.getElem_of_mem hc;exact absurd (by simp[ZC,hk]) (h k hk)
 |some j=>
  have h1:=List.find?_some h;have h2:=List.mem_of_find?_eq_some h;simp only[Z2]at h2;constructor
  ·intro _;rw[Zx];have:l.getD j x=l[j]:=by simp[ZC,h2]
   rw[this]at h1;rw[eq_of_beq h1];exact List.getElem_mem h2
  intro _;exact Int.natCast_nonneg j
theorem Zgg {N:Nat}{l:List Bool}(h:l.length<N)(h':l.length<1000)(x:Bool):Zch N l x=some (l.contains x):=by
 unfold Zch Zds;have:=ZpA (q:=λk=>x==l.getD k x) (P:=l.length) (body:=λi=>Zcg N l x i) (bad:=.inl ()) (good:=λk=>.inr (k:Int)) (λk hk=>by
  unfold Zcg;rw[Zar (by simp;omega),ZbM hk,Zag];have:l.getD k x=l[k]:=by simp[ZC,hk]
  simp only[this];split
  ·rfl
  rw[ZaL (by omega)]) (by unfold Zcg;rw[Zaq (by simp)]) l.length N 0 (by omega) (by omega) h
 rw[show((0:Nat):Int)=0 from rfl]at this;rw[this];have hc:=ZpQ l x;cases hf:(List.range' 0 l.length).find? (λk=>x==l.getD k x)with
 |none=>
  rw[hf]at hc;have hcf:l.contains x=false:=by
   cases hl:l.contains x with
   |false=>rfl
   |true=>exact absurd (hc.2 hl) (by decide)
  rw[hcf];rfl
 |some j=>
  rw[hf]at hc;have:=hc.1 (Int.natCast_nonneg j);simp only[Zag,this];simp
theorem Zg5 {N:Nat}{l:List Int}(h:l.length<N)(h':l.length<1000)(x:Int):Zcu N l x=some (l.contains x):=by
 unfold Zcu Zd5;have:=ZpA (q:=λk=>x==l.getD k x) (P:=l.length) (body:=λi=>Zct N l x i) (bad:=.inl ()) (good:=λk=>.inr (k:Int)) (λk hk=>by
  unfold Zct;rw[Zar (by simp;omega),ZbM hk,Zag];have:l.getD k x=l[k]:=by simp[ZC,hk]
  simp only[this];split
  ·rfl
  rw[ZaL (by omega)]) (by unfold Zct;rw[Zaq (by simp)]) l.length N 0 (by omega) (by omega) h
 rw[show((0:Nat):Int)=0 from rfl]at this;rw[this];have hc:=ZpQ l x;cases hf:(List.range' 0 l.length).find? (λk=>x==l.getD k x)with
 |none=>
  rw[hf]at hc;have hcf:l.contains x=false:=by
   cases hl:l.contains x with
   |false=>rfl
   |true=>exact absurd (hc.2 hl) (by decide)
  rw[hcf];rfl
 |some j=>
  rw[hf]at hc;have:=hc.1 (Int.natCast_nonneg j);simp only[Zag,this];simp
theorem Zi9 {N:Nat}{l:List Int}(h:l.length<N)(h':l.length<1000)(x:Int):Zjb N l x=some (l.contains x):=by
 unfold Zjb;have:=Zbh (n:=l.length) (p:=λk=>!(l.getD k 0==x)) (body:=λi=>Zja N l x i) (bad:=.inr true) (fin:=.inl ()) (λk hk=>by
  unfold Zja;rw[Zar (by simp;omega),ZbM hk,Zag];have:l.getD k 0=l[k]:=by simp[ZC,hk]
  simp only[this,ZaL (show k<1000000 by omega)];cases l[k]==x<;>rfl) (by unfold Zja;rw[Zaq (by simp)]) h
 rw[this];by_cases hc:l.contains x=true
 ·rw[Zaq,hc];rfl;rw[Zbq];rw[Zx]at hc;obtain⟨k,hk,rfl⟩:=List.getElem_of_mem hc;intro h;have:=h k hk;simp[ZC,hk]at this
 rw[Zar]
 ·simp only[Bool.not_eq_true]at hc;rw[hc];rfl
 rw[Zbq];intro k hk;have hne:l[k]≠x:=λe=>hc (by rw[Zx,←e];exact List.getElem_mem hk)
 simp[ZC,hk,hne]
theorem ZbC {α:Type}{l:List α}{k:Nat}(h:k<l.length)(d:α):l.getD k d=l[k]:=by simp[ZC,h]
end Go.Sh

namespace Go.Sh
open Go Go.Eng
def mkS (p:Int):ZaM:=⟨p,0,1⟩
def perB (p:Int):Bool:=decide (1<=p)&&decide (p<=240)
def lcmL (P:List Int):Nat:=lcmP (P.map mkS)
def perU (P:List Int)(u:ZaH):Int:=P.getD u.Stream.toNat 0
def useB (P:List Int)(u:ZaH):Bool:=decide (0<=u.Stream/\u.Stream<(P.length:Int)/\0<=u.Port/\u.Port<48/\0<=u.From/\u.From<perU P u/\1<=u.Long/\u.Long<=perU P u)
def ZjM (p:Zax):Bool:=decide (p.Periods.length<=12)&&decide (p.Uses.length<=192)&&p.Periods.all perB&&p.Uses.all (useB p.Periods)&&decide (lcmL p.Periods<=960)
theorem Zjj {p:Int}:perB p=true↔1<=p/\p<=240:=by simp[perB]
theorem Zvr {P:List Int}(h:P.all perB=true):allV (P.map mkS)=true:=by
 unfold allV;rw[Zt]at h⊢;intro s hs;obtain⟨p,hp,rfl⟩:=List.mem_map.1 hs;have:=Zjj.1 (h p hp);rw[Zao];show 1<=p/\p<=960/\(0:Int)<=0/\(0:Int)<p/\(1:Int)<=1/\(1:Int)<=p;omega
theorem ZrZ {N:Nat}(hN:2000<=N){P:List Int}(hl:P.length<=1000):Zfy N P=some (Zvk (P.map mkS)):=by
 unfold Zfy;have hmk:Zhr 24 (P.length:Int) (P.length:Int) (ZaM.mk 0 0 0)=some (List.replicate P.length (ZaM.mk 0 0 0)):=by
  unfold Zhr;rw[Zar (by omega)];simp
 rw[hmk,Zag];have hloop:∀(n M k:Nat),P.length-k=n->k<=P.length->n<M->ZaO (λx:Int×List ZaM=>ZgJ N P x.1 x.2) M ((k:Int),(P.map mkS).take k++List.replicate (P.length-k) (ZaM.mk 0 0 0))=some (P.map mkS):=by
  intro n;induction n with
  |zero=>
   intro M k hn hk hM;have:k=P.length:=by omega
   subst this;cases M with
   |zero=>omega
   |succ M=>
    refine Za5 ?_;simp only[ZgJ];rw[Zaq (by simp)];simp[Zab]
  |succ n ih=>
   intro M k hn hk hM;cases M with
   |zero=>omega
   |succ M=>
    have hlt:k<P.length:=by omega
    have hc:=ih M (k+1) (by omega) (by omega) (by omega);rw[ZbL (y:=(((k+1:Nat):Int),(P.map mkS).take (k+1)++List.replicate (P.length-(k+1)) (ZaM.mk 0 0 0))),hc];simp only[ZgJ];have hlen:((P.map mkS).take k++List.replicate (P.length-k) (ZaM.mk 0 0 0)).length=P.length:=by simp;omega
    rw[Zar (by simpa using hlt),Zia,ZI hlt,Zag,Zia,ZI (by omega),Zag,ZaG (by omega) (by omega)];have hset:List.set ((P.map mkS).take k++List.replicate (P.length-k) (ZaM.mk 0 0 0)) k (mkS P[k])=(P.map mkS).take (k+1)++List.replicate (P.length-(k+1)) (ZaM.mk 0 0 0):=by
     rw[Z8 _ _ (by simp;omega)];have e1:k-((P.map mkS).take k).length=0:=by simp;omega
     rw[e1,show P.length-k=(P.length-(k+1))+1 by omega,List.replicate_succ,List.set_cons_zero,Zac (by simpa using hlt)];simp
    simp only[Zr];rw[show(ZaM.mk P[k] 0 1)=mkS P[k]from rfl,hset];rfl
 have hc:=hloop P.length N 0 (by omega) (by omega) (by omega);simp only[List.take_zero,Z4,Nat.sub_zero]at hc;rw[show((0:Nat):Int)=0 from rfl]at hc;rw[hc,Zag,Zn0 hN,Zag]
theorem Zom {P:List Int}(h:P.all perB=true):0<lcmL P:=Zu9 (Zvs (Zvr h))
theorem Zkm {P:List Int}{n:Nat}:lcmL P∣n↔∀p∈P,p.toNat∣n:=by
 unfold lcmL;rw[ZnK];simp[mkS]
theorem Zhm {N:Nat}(hN:2000<=N){P:List Int}(hl:P.length<=12)(h:P.all perB=true):Zfy N P=some (if lcmL P<=960 then((lcmL P:Int),0)else(0,6)):=by
 rw[ZrZ hN (by omega)];unfold Zvk;rw[Zaq (by simp;omega),Zar (Zvr h)];rfl
theorem Znw {N:Nat}(hN:2000<=N){P:List Int}(hl:P.length<=12)(h:P.all perB=true):Zil N P=some (if lcmL P<=960 then(lcmL P:Int)else 0):=by
 have hp:∀p∈P,1<=p/\p<=240:=λp hp=>Zjj.1 (List.all_eq_true.1 h p hp)
 have inner:∀(j:Nat),1<=j->j<=1000->∀(n M k:Nat) (b:Bool),P.length-k=n->k<=P.length->n<M->ZaO (λx:Bool×Int=>ZhM N P (j:Int) x.1 x.2) M (b,(k:Int))=some (b&&(P.drop k).all (λp=>decide (p.toNat∣j))):=by
  intro j hj1 hj2 n;induction n with
  |zero=>
   intro M k b hn hk hM;have:k=P.length:=by omega
   subst this;cases M with
   |zero=>omega
   |succ M=>rw[Za5 (r:=b) (by simp[ZhM])];simp
  |succ n ih=>
   intro M k b hn hk hM;cases M with
   |zero=>omega
   |succ M=>
    have hlt:k<P.length:=by omega
    have hV:=hp P[k] (List.getElem_mem hlt);have hiff:=Zfd (a:=(j:Int)) (d:=P[k]) (by omega) (by omega);simp only[Zr]at hiff;have hc:=ih M (k+1) (b&&decide (P[k].toNat∣j)) (by omega) (by omega) (by omega);rw[ZbL (y:=(b&&decide (P[k].toNat∣j),((k+1:Nat):Int))),hc,Zix hlt,List.all_cons,Bool.and_assoc];simp only[ZhM];rw[Zar (by simpa using hlt)];cases b with
    |false=>simp only[Zg,Zap,Zag,Bool.false_and];rw[ZaG (by omega) (by omega)];rfl
    |true=>
     simp only[Zas,Zk];rw[Zia,ZI hlt,Zag,ZcR (by omega),Zag];by_cases hd:P[k].toNat∣j
     ·rw[Zar (by simpa using hiff.2 hd),Zag,ZaG (by omega) (by omega)];simp[hd]
     have:¬(j:Int).tmod P[k]=0:=λe=>hd (hiff.1 e)
     rw[Zaq (by simpa using this),Zag,ZaG (by omega) (by omega)];simp[hd]
 have step:∀j:Nat,1<=j->j<=960->Zf6 N P (j:Int)=if lcmL P∣j then some (.inr (.inr (j:Int)))else some (.inl ((j+1:Nat):Int)):=by
  intro j h1 h2;simp only[Zf6];rw[Zar (by simp;omega)];have:=inner j h1 (by omega) P.length N 0 true (by omega) (by omega) (by omega);rw[show((0:Nat):Int)=0 from rfl]at this;rw[this,Zag,Zy,Zk];have e:(P.all (λp=>decide (p.toNat∣j))=true)↔lcmL P∣j:=by
   rw[Zkm,Zt];simp
  by_cases hd:lcmL P∣j
  ·rw[Zar (e.2 hd),Zar hd]
  rw[Zaq (λq=>hd (e.1 q)),Zaq hd,ZaG (by omega) (by omega)]
  congr 2
 have hpos:=Zom h;have key:∀(n M j:Nat),961-j=n->1<=j->j<=961->n<M->(∀i,1<=i->i<j->¬lcmL P∣i)->∃r,ZaO (λx:Int=>Zf6 N P x) M (j:Int)=some r/\(match r with|.inl _=>(0:Int)|.inr p=>p)=if lcmL P<=960 then(lcmL P:Int)else 0:=by
  intro n;induction n with
  |zero=>
   intro M j hn h1 h2 hM hno;obtain rfl:j=961:=by omega
   cases M with
   |zero=>omega
   |succ M=>
    refine⟨.inl (),Za5 (by simp[Zf6]),?_⟩;rw[Zaq];intro hle;exact hno (lcmL P) (by omega) (by omega) (Nat.dvd_refl _)
  |succ n ih=>
   intro M j hn h1 h2 hM hno;cases M with
   |zero=>omega
   |succ M=>
    by_cases hd:lcmL P∣j
    ·refine⟨.inr (j:Int),Za5 (by rw[step j h1 (by omega),Zar hd]),?_⟩;have hle:=Nat.le_of_dvd (by omega) hd;have:lcmL P=j:=by
      by_cases e:lcmL P=j
      ·exact e
      exact absurd (Nat.dvd_refl _) (hno (lcmL P) (by omega) (by omega))
     rw[Zar (by omega),this]
    rw[ZbL (by rw[step j h1 (by omega),Zaq hd])];refine ih M (j+1) (by omega) (by omega) (by omega) (by omega) λi hi1 hi2=>?_
    by_cases e:i=j
    ·subst e;exact hd
    exact hno i hi1 (by omega)
 unfold Zil;obtain⟨r,h1,h2⟩:=key 960 N 1 (by omega) (by omega) (by omega) (by omega) (λi h1 h2=>by omega);rw[show((1:Nat):Int)=1 from rfl]at h1;rw[h1,Zag,←h2];cases r<;>rfl
theorem ZfB {α ρ:Type}{l:List α}{p:α->Bool}{body:Int->Option (Int⊕ρ)}{bad fin:ρ}(hstep:∀(k:Nat) (h:k<l.length),body (k:Int)=if p l[k]=true then some (.inl ((k+1:Nat):Int))else some (.inr bad))
  (hend:body (l.length:Int)=some (.inr fin)) {N:Nat} (hN:l.length<N):ZaO body N 0=some (if l.all p=true then fin else bad):=by
 have:=ZtM hstep hend l.length N 0 (by omega) (by omega) hN;rw[show((0:Nat):Int)=0 from rfl]at this;rw[this,Zy]
theorem Zkq {P:List Int}{u:ZaH}(h0:0<=u.Stream)(h1:u.Stream<(P.length:Int)):idx P u.Stream=some (perU P u):=ZbX 0 h0 h1
theorem ZhA {P:List Int}{u:ZaH}:useB P u=true↔0<=u.Stream/\u.Stream<(P.length:Int)/\0<=u.Port/\u.Port<48/\0<=u.From/\u.From<perU P u/\1<=u.Long/\u.Long<=perU P u:=by simp[useB]
theorem Zqq {N:Nat}(hN:2000<=N)(p:Zax):ZiY N p=some (ZjM p):=by
 unfold ZiY ZjM;by_cases h1:p.Periods.length<=12
 ·by_cases h2:p.Uses.length<=192
  ·rw[Zaq (by simp;omega)];simp only[h1,h2,decide_true,Zk];rw[ZfB (l:=p.Periods) (p:=perB) (bad:=.inr false) (fin:=.inl ()) (λk hk=>?_) (by simp[Zh1]) (by omega)]
   ·cases hP:p.Periods.all perB with
    |false=>simp
    |true=>
     simp only[Zas,Zag,Zk];rw[ZfB (l:=p.Uses) (p:=useB p.Periods) (bad:=.inr false) (fin:=.inl ()) (λk hk=>?_) (by simp[Zh0]) (by omega)]
     ·cases hU:p.Uses.all (useB p.Periods)with
      |false=>simp
      |true=>
       simp only[Zas,Zag,Zk];rw[Znw hN h1 hP,Zag];have:=Zom hP;by_cases hc:lcmL p.Periods<=960
       ·rw[Zar hc];simp[hc];omega
       rw[Zaq hc];simp[hc]
     simp only[Zh0];rw[Zar (by simpa using hk),ZbM hk,Zag];have hw:w64 ((k:Int)+1)=((k+1:Nat):Int):=ZaL (by omega);rw[hw];by_cases hc:0<=p.Uses[k].Stream/\p.Uses[k].Stream<(p.Periods.length:Int)/\0<=p.Uses[k].Port/\p.Uses[k].Port<48
     ·obtain⟨c1,c2,c3,c4⟩:=hc;rw[Zaq (by simp;omega),Zkq c1 c2];simp only[Zag];by_cases hu:useB p.Periods p.Uses[k]=true
      ·obtain⟨_,_,_,_,u1,u2,u3,u4⟩:=ZhA.1 hu;rw[Zaq (by simpa using u1),Zaq (by simpa using u2),Zaq (by simp;omega),Zag,Zaq (by simpa using u4),Zar hu]
      have hn:¬(0<=p.Uses[k].From/\p.Uses[k].From<perU p.Periods p.Uses[k]/\1<=p.Uses[k].Long/\p.Uses[k].Long<=perU p.Periods p.Uses[k]):=λq=>hu (ZhA.2 ⟨c1,c2,c3,c4,q⟩)
      rw[Zaq hu];by_cases u1:p.Uses[k].From<0
      ·rw[Zar (by simpa using u1)];rfl
      rw[Zaq (by simpa using u1)];by_cases u2:p.Uses[k].From≥perU p.Periods p.Uses[k]
      ·rw[Zar (by simpa using u2)];rfl
      rw[Zaq (by simpa using u2)];by_cases u3:p.Uses[k].Long<1
      ·rw[Zar (by simpa using u3)];rfl
      rw[Zaq (by simpa using u3),Zag,Zar (by simp;omega)]
     have hu:¬useB p.Periods p.Uses[k]=true:=λq=>hc (by obtain⟨a,b,c,d,_⟩:=ZhA.1 q;exact⟨a,b,c,d⟩)
     rw[Zar (by simp;omega),Zaq hu]
   simp only[Zh1];rw[Zar (by simpa using hk),ZbM hk];simp only[Zag];rw[ZaL (by omega)];by_cases c1:p.Periods[k]<1
   ·rw[Zar (by simpa using c1)];simp only[Zag,Zas];rw[Zaq (by simp[perB];omega)]
   rw[Zaq (by simpa using c1),Zag];by_cases c2:p.Periods[k]>240
   ·rw[Zar (by simpa using c2),Zaq (by simp[perB];omega)]
   rw[Zaq (by simpa using c2),Zar (by simp[perB];omega)]
  rw[Zar (by simp;omega)];simp[h2]
 rw[Zar (by simp;omega)];simp[h1]
theorem Zmi {N:Nat}(hN:2000<=N)(p:Zax):Zit N p=some (if ZjM p=true then 0 else 340):=by
 unfold Zit ZjM;by_cases h1:p.Periods.length<=12
 ·by_cases h2:p.Uses.length<=192
  ·rw[Zaq (by simp;omega)];simp only[h1,h2,decide_true,Zk];rw[ZfB (l:=p.Periods) (p:=perB) (bad:=.inr 340) (fin:=.inl ()) (λk hk=>?_) (by simp[Zji]) (by omega)]
   ·cases hP:p.Periods.all perB with
    |false=>simp
    |true=>
     simp only[Zas,Zag,Zk];rw[Zhm hN h1 hP,Zag];by_cases hc:lcmL p.Periods<=960
     ·rw[Zar hc];simp only[Zam,Zg,Zap];rw[ZfB (l:=p.Uses) (p:=useB p.Periods) (bad:=.inr 340) (fin:=.inl ()) (λk hk=>?_) (by simp[Zjh]) (by omega)]
      ·cases hU:p.Uses.all (useB p.Periods)with
       |false=>simp
       |true=>simp[hc]
      simp only[Zjh];rw[Zar (by simpa using hk),ZbM hk,Zag];have hw:w64 ((k:Int)+1)=((k+1:Nat):Int):=ZaL (by omega);rw[hw];by_cases hc:0<=p.Uses[k].Stream/\p.Uses[k].Stream<(p.Periods.length:Int)/\0<=p.Uses[k].Port/\p.Uses[k].Port<48
      ·obtain⟨c1,c2,c3,c4⟩:=hc;rw[Zaq (by simp;omega),Zkq c1 c2];simp only[Zag];by_cases hu:useB p.Periods p.Uses[k]=true
       ·obtain⟨_,_,_,_,u1,u2,u3,u4⟩:=ZhA.1 hu;rw[Zaq (by simp;omega),Zar hu]
       have hn:¬(0<=p.Uses[k].From/\p.Uses[k].From<perU p.Periods p.Uses[k]/\1<=p.Uses[k].Long/\p.Uses[k].Long<=perU p.Periods p.Uses[k]):=λq=>hu (ZhA.2 ⟨c1,c2,c3,c4,q⟩)
       rw[Zaq hu,Zar (by simp;omega)]
      have hu:¬useB p.Periods p.Uses[k]=true:=λq=>hc (by obtain⟨a,b,c,d,_⟩:=ZhA.1 q;exact⟨a,b,c,d⟩)
      rw[Zar (by simp;omega),Zaq hu]
     rw[Zaq hc];simp[hc]
   simp only[Zji];rw[Zar (by simpa using hk),ZbM hk];simp only[Zag];rw[ZaL (by omega)];by_cases c:perB p.Periods[k]=true
   ·have:=Zjj.1 c;rw[Zaq (by simp;omega),Zar c]
   rw[Zar,Zaq c];simp[perB]at c⊢;omega
  rw[Zar (by simp;omega)];simp[h2]
 rw[Zar (by simp;omega)];simp[h1]
theorem Zpd {p:Zax}:ZjM p=true↔p.Periods.length<=12/\p.Uses.length<=192/\p.Periods.all perB=true/\p.Uses.all (useB p.Periods)=true/\lcmL p.Periods<=960:=by
 unfold ZjM;simp only[Ze,Zao];constructor
 ·rintro⟨⟨⟨⟨a,b⟩,c⟩,d⟩,e⟩;exact⟨a,b,c,d,e⟩
 rintro⟨a,b,c,d,e⟩;exact⟨⟨⟨⟨a,b⟩,c⟩,d⟩,e⟩
theorem Zr0 {N:Nat}(hN:2000<=N)(p:Zax):Zis N p=some (if ZjM p=true then((lcmL p.Periods:Int),0)else(0,340)):=by
 unfold Zis;rw[Zmi hN,Zag];cases h:ZjM p with
 |false=>rfl
 |true=>
  obtain⟨h1,h2,h3,h4,h5⟩:=Zpd.1 h;simp only[Zas,Zam,Zg,Zap];rw[Zhm hN h1 h3,Zag,Zar h5]
end Go.Sh
namespace Go.Sh
open Go Go.Eng
structure VP (p:Zax):Prop where
 len:p.Periods.length<=12
 uses:p.Uses.length<=192
 per:∀q∈p.Periods,1<=q/\q<=240
 use:∀u∈p.Uses,0<=u.Stream/\u.Stream<(p.Periods.length:Int)/\0<=u.Port/\u.Port<48/\0<=u.From/\u.From<perU p.Periods u/\1<=u.Long/\u.Long<=perU p.Periods u
 lcm:lcmL p.Periods<=960
 lpos:0<lcmL p.Periods
theorem VP.of {p:Zax}(h:ZjM p=true):VP p:=by
 obtain⟨h1,h2,h3,h4,h5⟩:=Zpd.1 h;exact⟨h1,h2,λq hq=>Zjj.1 (List.all_eq_true.1 h3 q hq),λu hu=>ZhA.1 (List.all_eq_true.1 h4 u hu),h5,Zom h3⟩
theorem Zut {P:List Int}{u:ZaH}(h0:0<=u.Stream)(h1:u.Stream<(P.length:Int)):perU P u∈P:=by
 unfold perU;rw[ZbC (by omega)];exact List.getElem_mem _
theorem VP.peru {p:Zax}(h:VP p){u:ZaH}(hu:u∈p.Uses):1<=perU p.Periods u/\perU p.Periods u<=240:=by
 obtain⟨a,b,_⟩:=h.use u hu;exact h.per _ (Zut a b)
def ZeT (p:Zax)(u:ZaH)(x:Int):ZaM:=⟨perU p.Periods u,(u.From+x)%perU p.Periods u,u.Long⟩
def u0:ZaH:=⟨0,0,0,0⟩
theorem VP.vspan {p:Zax}(h:VP p){u:ZaH}(hu:u∈p.Uses)(x:Int):VSpan (ZeT p u x):=by
 obtain⟨_,_,_,_,_,_,h1,h2⟩:=h.use u hu;obtain⟨h3,h4⟩:=h.peru hu;have h5:=Int.emod_nonneg (u.From+x) (show perU p.Periods u≠0 by omega);have h6:=Int.emod_lt_of_pos (u.From+x) (show 0<perU p.Periods u by omega);show 1<=perU p.Periods u/\perU p.Periods u<=960/\0<=(u.From+x)%perU p.Periods u/\(u.From+x)%perU p.Periods u<perU p.Periods u/\1<=u.Long/\u.Long<=perU p.Periods u;omega
theorem VP.rem {p:Zax}(h:VP p){u:ZaH}(hu:u∈p.Uses){x:Int}(h0:0<=x)(h1:x<=1000000):remI (w64 (u.From+x)) (perU p.Periods u)=some ((u.From+x)%perU p.Periods u):=by
 obtain⟨_,_,_,_,h5,h6,h7,h8⟩:=h.use u hu;obtain⟨h3,h4⟩:=h.peru hu;rw[ZaG (by omega) (by omega),ZcR (by omega),Zq (by omega)]
theorem ZjF (N:Nat){p:Zax}(h:VP p){u:ZaH}(hu:u∈p.Uses){x:Int}(h0:0<=x)(h1:x<=1000000):Zfl N p u x=some (ZeT p u x):=by
 obtain⟨a,b,_⟩:=h.use u hu;unfold Zfl;rw[Zkq a b,Zag,h.rem hu h0 h1,Zag];rfl
theorem Zo2 (N:Nat){p:Zax}(h:VP p){k:Nat}(hk:k<p.Uses.length){x:Int}(h0:0<=x)(h1:x<=1000000):Zl4 N p k x=some (ZeT p (p.Uses.getD k u0) x):=by
 have hu:p.Uses[k]∈p.Uses:=List.getElem_mem hk;obtain⟨a,b,_⟩:=h.use _ hu;unfold Zl4;rw[ZbM hk];simp only[Zag];rw[Zkq a b,Zag,h.rem hu h0 h1,Zag,ZbC hk];rfl
def offB (p:Zax)(i x:Int):Bool:=decide (0<=i/\i<(p.Periods.length:Int)/\0<=x/\x<p.Periods.getD i.toNat 0)
theorem Zmm {p:Zax}{i x:Int}:offB p i x=true↔0<=i/\i<(p.Periods.length:Int)/\0<=x/\x<p.Periods.getD i.toNat 0:=by simp[offB]
theorem ZqC (N:Nat){p:Zax}{i x:Int}(h0:0<=i)(h1:i<(p.Periods.length:Int)):Zjd N p i x=some (offB p i x):=by
 unfold Zjd;by_cases hx:x≥0
 ·rw[Zar (by simpa using hx),ZbX 0 h0 h1];simp only[Zag]
  congr 1
  rw[Zf,Zmm];simp;omega
 rw[Zaq (by simpa using hx),Zag]
 congr 1
 symm;rw[Bool.eq_false_iff];intro q;have:=Zmm.1 q;omega
def hitB (p:Zax)(i a j b:Int)(k m:Nat):Bool:=
 decide (k≠m)&&(((p.Uses.getD k u0).Stream==i)&&(((p.Uses.getD m u0).Stream==j)&&(((p.Uses.getD k u0).Port==(p.Uses.getD m u0).Port)&&
  !(decide (SepD (ZeT p (p.Uses.getD k u0) a) (ZeT p (p.Uses.getD m u0) b) ((ZeT p (p.Uses.getD m u0) b).From-(ZeT p (p.Uses.getD k u0) a).From))))))
def Zkl (p:Zax)(i a j b:Int):Bool:=!(allB p.Uses.length λk=>allB p.Uses.length λm=>!(hitB p i a j b k m))
theorem Zlf {N:Nat}(hN:2000<=N){p:Zax}(h:VP p){i a j b:Int}(ha:0<=a)(ha2:a<=1000)(hb:0<=b)(hb2:b<=1000):Zhe N p i a j b=some (Zkl p i a j b):=by
 have hl:=h.uses;unfold Zhe;rw[Zbh (n:=p.Uses.length) (p:=λk=>allB p.Uses.length λm=>!(hitB p i a j b k m)) (bad:=.inr true) (fin:=.inl ()) (λk hk=>?_) (by simp[Zh3]) (by omega)]
 ·unfold Zkl;cases allB p.Uses.length λk=>allB p.Uses.length λm=>!(hitB p i a j b k m)<;>rfl
 simp only[Zh3];rw[Zar (by simpa using hk),Zbh (n:=p.Uses.length) (p:=λm=>!(hitB p i a j b k m)) (bad:=.inr true) (fin:=.inl ()) (λm hm=>?_) (by simp[Zh2]) (by omega)]
 ·have hw:w64 ((k:Int)+1)=((k+1:Nat):Int):=ZaL (by omega);cases allB p.Uses.length λm=>!(hitB p i a j b k m)with
  |false=>rfl
  |true=>simp only[Zas,Zag];rw[hw]
 simp only[Zh2];have hw:w64 ((m:Int)+1)=((m+1:Nat):Int):=ZaL (by omega);rw[Zar (by simpa using hm),ZbM hk,ZbM hm,hw];simp only[Zag];rw[Zo2 N h hk ha (by omega),Zo2 N h hm hb (by omega)];simp only[Zag];rw[ZbC hk,ZbC hm,VSpan.separate hN (h.vspan (List.getElem_mem hk) a) (h.vspan (List.getElem_mem hm) b)];simp only[Zag];unfold hitB;rw[ZbC hk,ZbC hm];by_cases c0:k=m
 ·subst c0;simp
 rw[Zar (by simp;omega)];cases c1:(p.Uses[k].Stream==i)with
 |false=>simp
 |true=>
  cases c2:(p.Uses[m].Stream==j)with
  |false=>simp
  |true=>
   cases c3:(p.Uses[k].Port==p.Uses[m].Port)with
   |false=>simp
   |true=>
    simp only[Zas,Zag,c0,ne_eq,not_false_eq_true,decide_true,Zk,Bool.not_not];cases decide (SepD (ZeT p p.Uses[k] a) (ZeT p p.Uses[m] b) ((ZeT p p.Uses[m] b).From-(ZeT p p.Uses[k] a).From))<;>rfl
theorem Zx6 {s:ZaM}(hs:VSpan s):¬SepD s s (s.From-s.From):=by
 have:=hs.bounds;unfold SepD;simp;omega
theorem Zza {u v:ZaH}(h:(((u.Stream==v.Stream)&&((u.Port==v.Port)&&((u.From==v.From)&&((u.Long==v.Long)&&true))))=true)):u=v:=by
 obtain⟨a,b,c,d⟩:=u;obtain⟨a',b',c',d'⟩:=v;simp at h;obtain⟨rfl,rfl,rfl,rfl⟩:=h;rfl
theorem Zoe {N:Nat}(hN:2000<=N){p:Zax}(h:VP p){i a j b:Int}(ha:0<=a)(ha2:a<=1000)(hb:0<=b)(hb2:b<=1000)(hij:i=j->a=b):ZgK N p i a j b=some (Zkl p i a j b):=by
 have hl:=h.uses;unfold ZgK ZkG;simp only[Zag];have round:∀k m:Nat,∀(hk:k<p.Uses.length) (hm:m<p.Uses.length),p.Uses[k].Stream=i->p.Uses[m].Stream=j→
   Zcd N p a b false p.Uses[k] p.Uses[m]=some (if SepD (ZeT p p.Uses[k] a) (ZeT p p.Uses[m] b) ((ZeT p p.Uses[m] b).From-(ZeT p p.Uses[k] a).From)then(false,0)else(true,1)):=by
  intro k m hk hm e1 e2;unfold Zcd;have hv1:=h.vspan (List.getElem_mem hk) a;have hv2:=h.vspan (List.getElem_mem hm) b;by_cases c:((p.Uses[k].Stream==p.Uses[m].Stream)&&((p.Uses[k].Port==p.Uses[m].Port)&&((p.Uses[k].From==p.Uses[m].From)&&((p.Uses[k].Long==p.Uses[m].Long)&&true))))=true
  ·rw[Zar c];have e:=Zza c;have hab:a=b:=hij (by rw[←e1,←e2,e]);subst hab;rw[←e,Zaq (Zx6 hv1)]
  have hA:=Zn2 hN (ZeT p p.Uses[k] a) (ZeT p p.Uses[m] b);rw[Zar ⟨hv1,hv2⟩]at hA;rw[Zaq c,ZjF N h (List.getElem_mem hk) ha (by omega),Zag,ZjF N h (List.getElem_mem hm) hb (by omega),Zag,hA,Zag];by_cases s:SepD (ZeT p p.Uses[k] a) (ZeT p p.Uses[m] b) ((ZeT p p.Uses[m] b).From-(ZeT p p.Uses[k] a).From)
  ·simp[s]
  simp[s]
 have loop:ZhN N (λ(s:Bool×Nat) (x16:ZaH) (x17:ZaH)=>Zgn (λv:Bool=>Zcd N p a b v x16 x17) s) p i j (false,0)=some (if Zkl p i a j b=true then(true,1)else(false,0)):=by
  unfold ZhN;rw[(Zjm (n:=p.Uses.length) (p:=λk=>allB p.Uses.length λm=>!(hitB p i a j b k m)) (f:=λs _=>s) (bad:=.inr (true,1)) (fin:=λs=>.inl s) (λ_ s=>s=(false,0)) (λk s hk hs=>?_) (λ_ s _ hs _=>hs) (λs _=>by simp[Zdh]) (N:=N) (by omega) rfl).1]
  ·unfold Zkl;have hf:∀(l:List Nat),l.foldl (λ(s:Bool×Nat) _=>s) (false,0)=(false,0):=by
    intro l;induction l with
    |nil=>rfl
    |cons x l ih=>simpa using ih
   rw[hf];cases allB p.Uses.length λk=>allB p.Uses.length λm=>!(hitB p i a j b k m)<;>rfl
  subst hs;simp only[Zdh];have hw:w64 ((k:Int)+1)=((k+1:Nat):Int):=ZaL (by omega);rw[Zar (by simpa using hk),ZbM hk,Zag,hw];by_cases c1:p.Uses[k].Stream=i
  ·rw[Zaq (by simpa using c1)];rw[(Zjm (n:=p.Uses.length) (p:=λm=>!(hitB p i a j b k m)) (f:=λs _=>s) (bad:=.inr (true,1)) (fin:=λs=>.inl s) (λ_ s=>s=(false,0)) (λm s hm hs=>?_) (λ_ s _ hs _=>hs) (λs _=>by simp[Zdg]) (N:=N) (by omega) rfl).1]
   ·have hf:∀(l:List Nat),l.foldl (λ(s:Bool×Nat) _=>s) (false,0)=(false,0):=by
     intro l;induction l with
     |nil=>rfl
     |cons x l ih=>simpa using ih
    rw[hf];cases allB p.Uses.length λm=>!(hitB p i a j b k m)<;>rfl
   subst hs;simp only[Zdg];have hw2:w64 ((m:Int)+1)=((m+1:Nat):Int):=ZaL (by omega);rw[Zar (by simpa using hm),ZbM hm,Zag,hw2];unfold hitB;rw[ZbC hk,ZbC hm];by_cases c0:k=m
   ·subst c0;simp
   have c0':((m:Int)==(k:Int))=false:=by simp;omega
   rw[c0'];simp only[Zg,Zap];by_cases c2:p.Uses[m].Stream=j
   ·rw[Zaq (by simpa using c2),Zag];by_cases c3:p.Uses[k].Port=p.Uses[m].Port
    ·rw[Zaq (by simp[c3])];unfold Zgn;simp only[Zas];rw[round k m hk hm c1 c2];simp only[c0,c1,c2,c3,ne_eq,not_false_eq_true,decide_true,Zk,beq_self_eq_true,Bool.not_not];by_cases s:SepD (ZeT p p.Uses[k] a) (ZeT p p.Uses[m] b) ((ZeT p p.Uses[m] b).From-(ZeT p p.Uses[k] a).From)
     ·simp[s]
     simp[s]
    rw[Zar (by simp;exact λq=>c3 q.symm)];simp[c3]
   rw[Zar (by simpa using c2),Zag];simp[c2]
  rw[Zar (by simpa using c1)];have:(allB p.Uses.length λm=>!(hitB p i a j b k m))=true:=by
   rw[Zbq];intro m hm;unfold hitB;rw[ZbC hk];simp[c1]
  rw[this,Zar rfl]
 rw[loop,Zag];cases Zkl p i a j b<;>rfl
theorem ZyY {p:Zax}(h:VP p){i x:Int}(ho:offB p i x=true):0<=x/\x<240:=by
 obtain⟨a,b,c,d⟩:=Zmm.1 ho;rw[ZbC (by omega)]at d;have:=h.per _ (List.getElem_mem (show i.toNat<p.Periods.length by omega));omega
end Go.Sh
namespace Go.Sh
open Go Go.Eng
theorem ZxA {n:Nat}{q:Nat->Nat->Bool}:(allB n λk=>allB n λm=>q k m)=allB n λm=>allB n λk=>q k m:=by
 rw[Zf];simp only[Zbq];exact⟨λh m hm k hk=>h k hk m hm,λh k hk m hm=>h m hm k hk⟩
theorem Zxe {p:Zax}(h:VP p){i a j b:Int}{k m:Nat}(hk:k<p.Uses.length)(hm:m<p.Uses.length):hitB p i a j b k m=hitB p j b i a m k:=by
 have e:=Zx5 (h.vspan (List.getElem_mem hk) a) (h.vspan (List.getElem_mem hm) b);unfold hitB;rw[ZbC hk,ZbC hm,Zf];simp only[Ze,Zao,beq_iff_eq,Zh,decide_eq_false_iff_not];rw[e];constructor
 ·rintro⟨a,b,c,d,e⟩;exact⟨λq=>a q.symm,c,b,d.symm,e⟩
 rintro⟨a,b,c,d,e⟩;exact⟨λq=>a q.symm,c,b,d.symm,e⟩
theorem Zq0 {p:Zax}(h:VP p)(i a j b:Int):Zkl p i a j b=Zkl p j b i a:=by
 unfold Zkl;rw[ZxA]
 congr 1
 exact ZkS λk hk=>ZkS λm hm=>by rw[Zxe h hm hk]
def ZjN (p:Zax)(l:List Int):Bool:=decide (l.length=p.Periods.length)&&allB l.length λk=>offB p k (l.getD k 0)
def ZiQ (p:Zax)(l:List Int):Bool:=allB l.length λi=>allB (i+1) λj=>!(Zkl p i (l.getD i 0) j (l.getD j 0))
def ZAq (p:Zax)(l:List Int):Bool×Int:=if ZjM p=true then(if ZjN p l=true then(ZiQ p l,0)else(false,2))else(false,340)
theorem Zr4 {p:Zax}{l:List Int}(h:ZjN p l=true):l.length=p.Periods.length/\∀k,k<l.length->offB p k (l.getD k 0)=true:=by
 unfold ZjN at h;rw[Ze,Zao,Zbq]at h;exact h
theorem Ztp {N:Nat}(hN:2000<=N)(p:Zax)(l:List Int):Zkf N p l=some (ZAq p l):=by
 unfold Zkf ZAq;rw[Zmi hN,Zag];cases hp:ZjM p with
 |false=>rfl
 |true=>
  have h:=VP.of hp;have hl:=h.len;simp only[Zas,Zam,Zg,Zap];by_cases hc:l.length=p.Periods.length
  ·rw[Zaq (by simp[hc])];rw[Zbh (n:=l.length) (p:=λk=>offB p k (l.getD k 0)) (bad:=.inr (false,2)) (fin:=.inl ()) (λk hk=>?_) (by simp[Zke]) (by omega)]
   ·have e:ZjN p l=allB l.length λk=>offB p k (l.getD k 0):=by unfold ZjN;simp[hc]
    cases ho:allB l.length λk=>offB p k (l.getD k 0)with
    |false=>rw[e,ho];rfl
    |true=>
     rw[e,ho];simp only[Zas,Zag];rw[ho]at e;obtain⟨h1,h2⟩:=Zr4 e;unfold ZiQ;rw[Zbh (n:=l.length) (p:=λi=>allB (i+1) λj=>!(Zkl p i (l.getD i 0) j (l.getD j 0))) (bad:=.inr (false,0)) (fin:=.inl ()) (λi hi=>?_) (by simp[Zkd]) (by omega)]
     ·cases allB l.length λi=>allB (i+1) λj=>!(Zkl p i (l.getD i 0) j (l.getD j 0))<;>rfl
     simp only[Zkd];have hw:w64 ((i:Int)+1)=((i+1:Nat):Int):=ZaL (by omega);have hs:subI l 0 ((i+1:Nat):Int)=some (l.take (i+1)):=by
      unfold subI;rw[Zar (by omega)];simp
     have hlt:(l.take (i+1)).length=i+1:=by simp;omega
     rw[Zar (by simpa using hi),ZbM hi,Zag,hw,hs,Zag,Zbh (n:=i+1) (p:=λj=>!(Zkl p i (l.getD i 0) j (l.getD j 0))) (bad:=.inr (false,0)) (fin:=.inl ()) (λj hj=>?_) (by simp[Zkc,hlt]) (by omega)]
     ·cases allB (i+1) λj=>!(Zkl p i (l.getD i 0) j (l.getD j 0))<;>rfl
     simp only[Zkc];have hj':j<l.length:=by omega
     have hw:w64 ((j:Int)+1)=((j+1:Nat):Int):=ZaL (by omega);have b1:=ZyY h (h2 i hi);have b2:=ZyY h (h2 j hj');rw[ZbC hi]at b1;rw[ZbC hj']at b2;have ei:idx (l.take (i+1)) (j:Int)=some l[j]:=by
      rw[ZbM (by omega),List.getElem_take]
     rw[Zar (by simp[hlt];omega),ei,Zag,Zoe hN h b2.1 (by omega) b1.1 (by omega) (λq=>by
      have:j=i:=by omega
      subst this;rfl),Zag,hw,ZbC hi,ZbC hj',Zq0 h]
     cases Zkl p i l[i] j l[j]<;>rfl
   simp only[Zke];have hw:w64 ((k:Int)+1)=((k+1:Nat):Int):=ZaL (by omega);rw[Zar (by simpa using hk),ZbM hk,Zag,ZqC N (by omega) (by omega),Zag,hw,ZbC hk];cases offB p k l[k]<;>rfl
  rw[Zar (by simp;omega)];have:ZjN p l=false:=by unfold ZjN;simp[hc]
  rw[this];rfl
theorem Ziy {α:Type}{b:Nat}{l:List α}{x:α}(hl:l.length<=1000)(hb:b<=1000):appI b l [x]=some (l++[x]):=by
 refine Zew ?_ (by omega);simp;omega
theorem ZrQ {N:Nat}(hN:2000<=N){p:Zax}(h:VP p){a:List Int}(ha:∀x∈a,InK .u8 x):∃l,Zik N p a=some l/\ZjN p l=true:=by
 have hlen:=h.len;unfold Zik;obtain⟨l,hl,l1,l2⟩:=Zb6 (body:=λx:Int×(List Int)=>ZiX N p a x.1 x.2) (λx=>0<=x.1/\x.1<=p.Periods.length/\(x.2.length:Int)=x.1/\∀k,k<x.2.length->offB p k (x.2.getD k 0)=true) (λx=>(p.Periods.length-x.1).toNat) (λl=>l.length=p.Periods.length/\∀k,k<l.length->offB p k (l.getD k 0)=true) (λx hx=>by
  obtain⟨i,l⟩:=x;obtain⟨i0,i1,i2,i3⟩:=hx;simp only at i0 i1 i2 i3;simp only[ZiX];by_cases c:i<(p.Periods.length:Int)
  ·left;obtain⟨k,rfl⟩:∃k:Nat,i=k:=⟨i.toNat,by omega⟩;have hk:k<p.Periods.length:=by omega
   have hq:=h.per _ (List.getElem_mem hk);have key:∃x,(if(decide ((k:Int)<((List.length a:Nat):Int)))then((idx a k).bind λe1010=>((idx p.Periods k).bind λe1011=>((remI (w64 (e1010)) e1011).bind λm1012=>(some m1012))))else(some 0))=some x/\0<=x/\x<p.Periods[k]:=by
    by_cases c2:k<a.length
    ·have hb:0<=a[k]/\a[k]<=255:=(ha _ (List.getElem_mem c2)).u8;refine⟨a[k]%p.Periods[k],?_,Int.emod_nonneg _ (by omega),Int.emod_lt_of_pos _ (by omega)⟩;rw[Zar (by simpa using c2),ZbM c2,Zag,ZbM hk,Zag,ZaG (by omega) (by omega),ZcR (by omega),Zag,Zq hb.1]
    exact⟨0,by rw[Zaq (by simpa using c2)],by omega,by omega⟩
   obtain⟨x,hx,x0,x1⟩:=key;refine⟨(((k+1:Nat):Int),l++[x]),?_,⟨by omega,by omega,by simp;omega,λm hm=>?_⟩,by omega⟩
   ·rw[Zar (by simpa using c),hx,Zag,Ziy (by omega) (by omega),Zag,ZaL (by omega)]
   simp only[ZS,ZT,ZV]at hm;by_cases e:m<l.length
   ·have:=i3 m e;rw[ZbC e]at this;rw[ZbC (by simp;omega),List.getElem_append_left e];exact this
   obtain rfl:m=k:=by omega
   rw[ZbC (by simp;omega),List.getElem_append_right (by omega)];simp only[show m-l.length=0 by omega,List.getElem_cons_zero];rw[Zmm];simp only[Zr];rw[ZbC hk];omega
  right;refine⟨l,?_,by omega,i3⟩;rw[Zaq (by simpa using c)]) N (0,[]) ⟨by omega,by simp,rfl,by simp⟩ (by simp;omega)
 rw[hl,Zag];refine⟨l,rfl,?_⟩;unfold ZjN;rw[Ze,Zao,Zbq];exact⟨l1,l2⟩
end Go.Sh
namespace Go.Sh
open Go Go.Eng
def stB (t:Zav)(x:Int):Bool:=t.Station.getD x.toNat false
def Zfb (t:Zav)(x:Int):Bool:=decide (0<=x)&&decide (x<t.Nodes)
def dL:ZaR:=⟨0,0,0,0⟩
def lk (t:Zav)(k:Nat):ZaR:=t.Links.getD k dL
def Zfn (t:Zav)(l:ZaR):Bool:=
 Zfb t l.A&&(Zfb t l.B&&(!(l.A==l.B)&&(!(stB t l.A&&stB t l.B)&&(decide (l.Per≥1)&&(decide (l.Per<=1000)&&(decide (l.Delay≥0)&&decide (l.Delay<=10000)))))))
def Zht (l:ZaR)(a b:Int):Bool:=(l.A==a&&l.B==b)||(l.A==b&&l.B==a)
def nojB (t:Zav)(k:Nat):Bool:=allB k λj=>!Zht (lk t j) (lk t k).A (lk t k).B
def bump (b:List Int)(x:Int):List Int:=b.set x.toNat (w64 (b.getD x.toNat 0+1))
def ZpV (b:List Int)(l:ZaR):List Int:=bump (bump b l.A) l.B
def degs (t:Zav):List Int:=(List.range t.Links.length).foldl (λb k=>ZpV b (lk t k)) (List.replicate t.Nodes.toNat 0)
def degB (t:Zav)(n:Nat):Bool:=!(stB t n)||(decide (1<=(degs t).getD n 0)&&decide ((degs t).getD n 0<=2))
def Zii (l:List Bool)(k:ZaR):List Bool:=if l.getD k.A.toNat false||l.getD k.B.toNat false then(l.set k.A.toNat true).set k.B.toNat true else l
def Zj1 (t:Zav)(l:List Bool):List Bool:=(List.range t.Links.length).foldl (λb k=>Zii b (lk t k)) l
def Zhl (t:Zav)(m:Int):List Bool:=(List.range t.Nodes.toNat).foldl (λl _=>Zj1 t l) ((List.replicate t.Nodes.toNat false).set m.toNat true)
def Zez (t:Zav):Bool:=
 decide (2<=t.Nodes)&&(decide (t.Nodes<=12)&&(((t.Station.length:Int)==t.Nodes)&&(decide (t.Links.length<=24)&&
  (allB t.Links.length (λk=>Zfn t (lk t k)&&nojB t k)&&(allB t.Nodes.toNat (λn=>(Zhl t 0).getD n false&&degB t n))))))
section
variable {N:Nat} {t:Zav}
theorem ZtJ {k:Nat}(h:k<t.Links.length):idx t.Links (k:Int)=some (lk t k):=by
 rw[ZbM h];simp[lk,ZC,h]
theorem Zgk (hS:(t.Station.length:Int)=t.Nodes){x:Int}(h:Zfb t x=true):idx t.Station x=some (stB t x):=by
 simp only[Zfb,Ze,Zao]at h;exact ZbX false h.1 (by omega)
theorem Zmb (x:Int):Zio N t x=some (Zfb t x):=by simp[Zio,Zfb]
theorem ZsO (x:Int):ZjS N t x=some (Zfb t x):=by simp[ZjS,Zfb]
theorem Zmd (hS:(t.Station.length:Int)=t.Nodes)(l:ZaR):Zip N t l=some (Zfn t l):=by
 unfold Zip Zfn;rw[Zmb,Zmb];simp only[Zag];cases hA:Zfb t l.A with
 |false=>rfl
 |true=>
  cases hB:Zfb t l.B with
  |false=>rfl
  |true=>
   rw[Zgk hS hA,Zgk hS hB];cases (l.A==l.B)<;>cases stB t l.A<;>cases stB t l.B<;>rfl
theorem Zln (l:ZaR)(a b:Int):Zhj N l a b=some (Zht l a b):=by
 unfold Zhj Zht;cases l.A==a<;>cases l.B==b<;>cases l.A==b<;>cases l.B==a<;>rfl
theorem Zsw (a b:Int):(a==b)=(b==a):=by
 by_cases h:a=b
 ·subst h;rfl
 rw[beq_false_of_ne h,beq_false_of_ne (Ne.symm h)]
theorem ZwS (hL:t.Links.length<100)(hN:t.Links.length<N){k:Nat}(hk:k<t.Links.length):
  ZaO (λx:Int=>ZfV N t (k:Int) (lk t k) x) N 0=some (if nojB t k then .inl ()else .inr false):=by
 refine Zbh (n:=k) (λj hj=>?_) ?_ (by omega)
 ·unfold ZfV;rw[Zar (by simp;omega),ZtJ (by omega),Zag,Zln,Zag,ZaL (by omega)];cases Zht (lk t j) (lk t k).A (lk t k).B<;>rfl
 unfold ZfV;rw[Zaq (by simp)]
theorem ZxR (hL:t.Links.length<100)(hN:t.Links.length<N){k:Nat}(hk:k<t.Links.length):Zf2 N (k:Int) t=some (nojB t k):=by
 unfold Zf2;rw[ZtJ hk,Zag];have hsub:subI t.Links 0 (k:Int)=some (t.Links.take k):=by
  unfold subI;rw[Zar ⟨by omega,by omega,by omega⟩];simp
 rw[hsub,Zag];have hlen:(t.Links.take k).length=k:=by simp;omega
 have:=Zbh (n:=k) (p:=λj=>!Zht (lk t j) (lk t k).A (lk t k).B) (body:=λx:Int=>Zfc N (lk t k) (t.Links.take k) x) (bad:=.inr false) (fin:=.inl ()) (λj hj=>by
  unfold Zfc;have hj':j<(t.Links.take k).length:=by omega
  rw[Zar (by rw[hlen];simp;omega),ZbM hj',Zag,ZaL (by omega)];have e:(t.Links.take k)[j]=lk t j:=by simp[lk,ZC,show j<t.Links.length by omega]
  rw[e];unfold Zht;rw[Zsw (lk t k).A (lk t j).A,Zsw (lk t k).B (lk t j).B,Zsw (lk t k).A (lk t j).B,Zsw (lk t k).B (lk t j).A];cases (lk t j).A==(lk t k).A<;>cases (lk t j).B==(lk t k).B<;>cases (lk t j).A==(lk t k).B<;>cases (lk t j).B==(lk t k).A<;>rfl) (by unfold Zfc;rw[Zaq (by rw[hlen];simp)]) (N:=N) (by omega)
 rw[this];unfold nojB;cases allB k λj=>!Zht (lk t j) (lk t k).A (lk t k).B<;>rfl
theorem ZrA (hS:(t.Station.length:Int)=t.Nodes)(hL:t.Links.length<100)(hN:t.Links.length<N):Zky N t=some (allB t.Links.length (λk=>Zfn t (lk t k)&&nojB t k)):=by
 unfold Zky;have:=Zbh (n:=t.Links.length) (p:=λk=>Zfn t (lk t k)&&nojB t k) (body:=λx:Int=>Zgv N t x) (bad:=.inr false) (fin:=.inl ()) (λk hk=>by
  unfold Zgv;rw[Zar (by simp;omega),ZxR hL hN hk,ZaL (by omega)];unfold ZhD ZhC ZhB;rw[ZtJ hk];simp only[Zag,ZsO];unfold Zfn;cases hA:Zfb t (lk t k).A with
  |false=>rfl
  |true=>
   cases hB:Zfb t (lk t k).B with
   |false=>rfl
   |true=>
    simp only[Zas,Zag];rw[Zgk hS hA,Zgk hS hB];simp only[bne,Zag];generalize (decide ((lk t k).Per≥1)&&(decide ((lk t k).Per<=1000)&&(decide ((lk t k).Delay≥0)&&decide ((lk t k).Delay<=10000))))=q;cases ((lk t k).A==(lk t k).B)<;>cases stB t (lk t k).A<;>cases stB t (lk t k).B<;>cases nojB t k<;>cases q<;>rfl) (by unfold Zgv;rw[Zaq (by simp)]) (N:=N) hN
 rw[this];cases allB t.Links.length (λk=>Zfn t (lk t k)&&nojB t k)<;>rfl
theorem Zvn (b:List Int)(x:Int):(bump b x).length=b.length:=by simp[bump]
theorem ZpU (b:List Int)(l:ZaR):(ZpV b l).length=b.length:=by simp[ZpV,Zvn]
theorem ZcW {l:ZaR}(h:Zfn t l=true):Zfb t l.A=true/\Zfb t l.B=true/\l.A≠l.B:=by
 simp only[Zfn,Ze]at h;refine⟨h.1,h.2.1,?_⟩;have:=h.2.2.1;intro e;simp[e]at this
theorem Zhq {x:Int}:Zfb t x=true↔0<=x/\x<t.Nodes:=by simp[Zfb]
theorem Zvo {b:List Int}(hb:(b.length:Int)=t.Nodes){l:ZaR}(hA:Zfb t l.A=true)(hB:Zfb t l.B=true):
  idx b l.A=some (b.getD l.A.toNat 0)/\idx (b.set l.A.toNat (w64 (b.getD l.A.toNat 0+1))) l.B=some ((bump b l.A).getD l.B.toNat 0):=by
 rw[Zhq]at hA hB;exact⟨ZbX 0 hA.1 (by omega),ZbX 0 hB.1 (by simp;omega)⟩
theorem ZoD (hT:allB t.Links.length (λk=>Zfn t (lk t k)&&nojB t k)=true)(hn:0<=t.Nodes)(hL:t.Links.length<100)(hN:t.Links.length<N):
  ZaO (λx:Int×(List Int)=>Zdq N t x.1 x.2) N (0,List.replicate t.Nodes.toNat 0)=some (degs t)/\((degs t).length:Int)=t.Nodes:=by
 have:=ZdQ (n:=t.Links.length) (f:=λb k=>ZpV b (lk t k)) (body:=λx:Int×(List Int)=>Zdq N t x.1 x.2) (fin:=λb=>b) (λ_ b=>(b.length:Int)=t.Nodes)
  (λk b hk hb=>by
   have hl:=Zbq.1 hT k hk;simp only[Ze]at hl;obtain⟨hA,hB,_⟩:=ZcW hl.1;obtain⟨i1,i2⟩:=Zvo hb hA hB;show Zdq N t k b=_;unfold Zdq;rw[Zar (by simp;omega),ZtJ hk,Zag,i1];simp only[Zag,i2,ZaL (show k<1000000 by omega)];rfl)
  (λk b hk hb=>by rw[ZpU];exact hb)
  (λb hb=>by show Zdq N t t.Links.length b=_;unfold Zdq;rw[Zaq (by simp)]) hN (b0:=List.replicate t.Nodes.toNat 0) (by simp;omega)
 exact this
theorem ZvO (hS:(t.Station.length:Int)=t.Nodes)(hn:0<=t.Nodes)(hL:t.Links.length<100)(hN:t.Links.length<N):
  ZaO (λx:Int×(List Int)=>Zc3 N t x.1 x.2) N (0,List.replicate t.Nodes.toNat 0)=some (if allB t.Links.length (λk=>Zfn t (lk t k)&&nojB t k)then .inl (degs t)else .inr false):=by
 refine(Zjm (ρ:=List Int⊕Bool) (body:=λx:Int×(List Int)=>Zc3 N t x.1 x.2) (n:=t.Links.length) (f:=λb k=>ZpV b (lk t k)) (p:=λk=>Zfn t (lk t k)&&nojB t k) (fin:=λb=>.inl b) (bad:=.inr false) (λ_ b=>(b.length:Int)=t.Nodes)
  (λk b hk hb=>?_) (λk b hk hb _=>by rw[ZpU];exact hb) (λb hb=>by show Zc3 N t t.Links.length b=_;unfold Zc3;rw[Zaq (by simp)]) hN (b0:=List.replicate t.Nodes.toNat 0) (by simp;omega)).1
 show Zc3 N t k b=_;unfold Zc3;rw[Zar (by simp;omega),ZtJ hk,Zag,Zmd hS,Zag];cases hl:Zfn t (lk t k)with
 |false=>rfl
 |true=>
  obtain⟨hA,hB,_⟩:=ZcW hl;obtain⟨i1,i2⟩:=Zvo hb hA hB;rw[ZwS hL hN hk];cases nojB t k with
  |false=>rfl
  |true=>
   simp only[Zi,Zg,Zap,Zas,Zag,i1,i2,ZaL (show k<1000000 by omega),Bool.and_self];rfl
theorem ZoO (l:List Bool)(k:ZaR):(Zii l k).length=l.length:=by unfold Zii;split<;>simp
theorem Zu0 {l:List Bool}{i:Nat}(h:l.getD i false=true):l.set i true=l:=by
 apply List.ext_getElem?;intro j;rw[ZM];by_cases e:i=j
 ·subst e;rw[Zar rfl];split
  ·rename_i hl;rw[ZI hl];simp[ZC,hl]at h;rw[h]
  rename_i hl;rw[ZJ (by omega)]
 rw[Zaq e]
theorem Zjn {l:List Bool}{i j:Nat}(h:l.getD j false=true):(l.set i true).getD j false=true:=by
 rw[ZC]at h⊢;rw[ZM];split
 ·split
  ·rfl
  rename_i e hl;rw[ZJ (by omega)]at h;cases h
 exact h
theorem ZoC (hT:allB t.Links.length (λk=>Zfn t (lk t k)&&nojB t k)=true)(hL24:t.Links.length<=24)(hN:t.Links.length<N)(c:Zbj)(hc:∀k:Nat,k<24->c.get (k:Int)=some false){l:List Bool}(hl:(l.length:Int)=t.Nodes):
  ZaO (λx:Int×(List Bool)=>Zdp N t c x.1 x.2) N (0,l)=some (Zj1 t l)/\((Zj1 t l).length:Int)=t.Nodes:=by
 have:=ZdQ (n:=t.Links.length) (f:=λb k=>Zii b (lk t k)) (body:=λx:Int×(List Bool)=>Zdp N t c x.1 x.2) (fin:=λb=>b) (λ_ b=>(b.length:Int)=t.Nodes)
  (λk b hk hb=>by
   have hl:=Zbq.1 hT k hk;simp only[Ze]at hl;obtain⟨hA,hB,_⟩:=ZcW hl.1;rw[Zhq]at hA hB;have i1:idx b (lk t k).A=some (b.getD (lk t k).A.toNat false):=ZbX false hA.1 (by omega);have i2:idx b (lk t k).B=some (b.getD (lk t k).B.toNat false):=ZbX false hB.1 (by omega);have i3:idx (b.set (lk t k).A.toNat true) (lk t k).B=some ((b.set (lk t k).A.toNat true).getD (lk t k).B.toNat false):=ZbX false hB.1 (by simp;omega);show Zdp N t c k b=_;unfold Zdp;rw[Zar (by simp;omega),ZtJ hk,Zag,hc k (by omega)];simp only[Zag,i1,i2,i3,ZaL (show k<1000000 by omega),Bool.not_false,Zas];unfold Zii;cases h1:b.getD (lk t k).A.toNat false with
   |false=>cases h2:b.getD (lk t k).B.toNat false<;>simp
   |true=>cases h2:b.getD (lk t k).B.toNat false with
    |false=>simp
    |true=>simp[Zu0 h1,Zu0 h2])
  (λk b hk hb=>by rw[ZoO];exact hb)
  (λb hb=>by show Zdp N t c t.Links.length b=_;unfold Zdp;rw[Zaq (by simp)]) hN (b0:=l) hl
 exact this
theorem Znz (hT:allB t.Links.length (λk=>Zfn t (lk t k)&&nojB t k)=true)(hL24:t.Links.length<=24)(hN:t.Links.length<N){l:List Bool}(hl:(l.length:Int)=t.Nodes):
  ZaO (λx:Int×(List Bool)=>Zc4 N t [] x.1 x.2) N (0,l)=some (Zj1 t l)/\((Zj1 t l).length:Int)=t.Nodes:=by
 have:=ZdQ (n:=t.Links.length) (f:=λb k=>Zii b (lk t k)) (body:=λx:Int×(List Bool)=>Zc4 N t [] x.1 x.2) (fin:=λb=>b) (λ_ b=>(b.length:Int)=t.Nodes)
  (λk b hk hb=>by
   have hl:=Zbq.1 hT k hk;simp only[Ze]at hl;obtain⟨hA,hB,_⟩:=ZcW hl.1;rw[Zhq]at hA hB;have i1:idx b (lk t k).A=some (b.getD (lk t k).A.toNat false):=ZbX false hA.1 (by omega);have i2:idx b (lk t k).B=some (b.getD (lk t k).B.toNat false):=ZbX false hB.1 (by omega);have i3:idx (b.set (lk t k).A.toNat true) (lk t k).B=some ((b.set (lk t k).A.toNat true).getD (lk t k).B.toNat false):=ZbX false hB.1 (by simp;omega);show Zc4 N t [] k b=_;unfold Zc4;rw[Zar (by simp;omega),ZtJ hk,Zag,Zi9 (by simp;omega) (by simp)];simp only[Zag,i1,i2,i3,ZaL (show k<1000000 by omega),List.contains_nil,Bool.not_false,Zas];unfold Zii;cases h1:b.getD (lk t k).A.toNat false<;>cases h2:b.getD (lk t k).B.toNat false<;>simp)
  (λk b hk hb=>by rw[ZoO];exact hb)
  (λb hb=>by show Zc4 N t [] t.Links.length b=_;unfold Zc4;rw[Zaq (by simp)]) hN (b0:=l) hl
 exact this
theorem Zsf {α:Type}{b:Nat}{n:Int}(z:α)(h0:0<=n)(h1:n<=1000)(hb:b<=1000):Zhr b n n z=some (List.replicate n.toNat z):=by
 unfold Zhr;have:n*(b:Int)<=1000*1000:=Int.mul_le_mul h1 (by omega) (by omega) (by omega);rw[Zar ⟨h0,Int.le_refl _,by omega,by omega⟩]
theorem ZlV (hT:allB t.Links.length (λk=>Zfn t (lk t k)&&nojB t k)=true)(hL24:t.Links.length<=24)(h0:1<=t.Nodes)(h12:t.Nodes<=12)(hN:30<=N)(c:Zbj)(hc:∀k:Nat,k<24->c.get (k:Int)=some false){m:Int}(hm0:0<=m)(hm:m<t.Nodes):
  Zkz N t m c=some (Zhl t m)/\((Zhl t m).length:Int)=t.Nodes:=by
 unfold Zkz;rw[Zsf _ (by omega) (by omega) (by omega),Zag,ZbX false hm0 (by simp;omega),Zag];have:=ZdQ (n:=t.Nodes.toNat) (f:=λb _=>Zj1 t b) (body:=λx:Int×(List Bool)=>Zek N t c x.1 x.2) (fin:=λb=>b) (λ_ b=>(b.length:Int)=t.Nodes)
  (λk b hk hb=>by
   show Zek N t c k b=_;unfold Zek;rw[Zar (by simp;omega),(ZoC hT hL24 (by omega) c hc hb).1,Zag,ZaL (by omega)])
  (λk b hk hb=>(ZoC hT hL24 (N:=N) (by omega) c hc hb).2)
  (λb hb=>by show Zek N t c t.Nodes.toNat b=_;unfold Zek;rw[Zaq (by simp;omega)]) (N:=N) (by omega) (b0:=(List.replicate t.Nodes.toNat false).set m.toNat true) (by simp;omega)
 rw[this.1];exact⟨rfl,this.2⟩
theorem Zqx (hT:allB t.Links.length (λk=>Zfn t (lk t k)&&nojB t k)=true)(hL24:t.Links.length<=24)(h0:1<=t.Nodes)(h12:t.Nodes<=12)(hN:30<=N){m:Int}(hm0:0<=m)(hm:m<t.Nodes):
  Zi7 N t m []=some (Zhl t m):=by
 unfold Zi7;rw[Zsf _ (by omega) (by omega) (by omega),Zag,ZbX false hm0 (by simp;omega),Zag];have:=ZdQ (n:=t.Nodes.toNat) (f:=λb _=>Zj1 t b) (body:=λx:Int×(List Bool)=>ZdO N t [] x.1 x.2) (fin:=λb=>b) (λ_ b=>(b.length:Int)=t.Nodes)
  (λk b hk hb=>by
   show ZdO N t [] k b=_;unfold ZdO;rw[Zar (by simp;omega),(Znz hT hL24 (by omega) hb).1,Zag,ZaL (by omega)])
  (λk b hk hb=>(Znz hT hL24 (N:=N) (by omega) hb).2)
  (λb hb=>by show ZdO N t [] t.Nodes.toNat b=_;unfold ZdO;rw[Zaq (by simp;omega)]) (N:=N) (by omega) (b0:=(List.replicate t.Nodes.toNat false).set m.toNat true) (by simp;omega)
 rw[this.1];rfl
theorem Zll (hN:40<=N):Zhh N t=some (Zez t):=by
 unfold Zhh Zez;by_cases h1:2<=t.Nodes
 ·by_cases h2:t.Nodes<=12
  ·by_cases h3:(t.Station.length:Int)=t.Nodes
   ·by_cases h4:t.Links.length<=24
    ·rw[Zaq (by simp;omega),Zsf _ (by omega) (by omega) (by omega),Zag,ZvO h3 (by omega) (by omega) (by omega),Zag];have e:decide (2<=t.Nodes)=true/\decide (t.Nodes<=12)=true/\((t.Station.length:Int)==t.Nodes)=true/\decide (t.Links.length<=24)=true:=by simp[h1,h2,h3,h4]
     rw[e.1,e.2.1,e.2.2.1,e.2.2.2];simp only[Zk];cases hT:allB t.Links.length (λk=>Zfn t (lk t k)&&nojB t k)with
     |false=>rfl
     |true=>
      simp only[Zas,Zk];rw[Zqx hT h4 (by omega) h2 (by omega) (by omega) (by omega),Zag];have hd:=(ZoD (N:=N) hT (by omega) (by omega) (by omega)).2;have hr:=(ZlV (N:=N) hT h4 (by omega) h2 (by omega) ⟨false,false,false,false,false,false,false,false,false,false,false,false,false,false,false,false,false,false,false,false,false,false,false,false⟩ (by decide) (m:=0) (by omega) (by omega)).2;have:=Zbh (n:=t.Nodes.toNat) (p:=λn=>(Zhl t 0).getD n false&&degB t n) (body:=λx:Int=>ZfU N t (degs t) (Zhl t 0) x) (bad:=.inr false) (fin:=.inl ()) (λk hk=>by
       unfold ZfU;have j1:idx (Zhl t 0) (k:Int)=some ((Zhl t 0).getD k false):=ZbX false (by omega) (by omega);have j2:idx t.Station (k:Int)=some (stB t k):=ZbX false (by omega) (by omega);have j3:idx (degs t) (k:Int)=some ((degs t).getD k 0):=ZbX 0 (by omega) (by omega);rw[Zar (by simp;omega),j1,j2,j3,ZaL (by omega)];simp only[Zag];unfold degB;cases (Zhl t 0).getD k false with
       |false=>rfl
       |true=>
        cases stB t k with
        |false=>rfl
        |true=>
         simp only[Zi,Zg,Zap,Zas,Zk,Bool.false_or];generalize (degs t).getD k 0=d;by_cases g1:d<1
         ·simp[g1,show ¬(1<=d)by omega]
         by_cases g2:d>2
         ·simp[g1,g2,show ¬(d<=2)by omega]
         simp[g1,g2,show 1<=d by omega,show d<=2 by omega]) (by unfold ZfU;rw[Zaq (by simp;omega)]) (N:=N) (by omega)
      rw[this];cases allB t.Nodes.toNat (λn=>(Zhl t 0).getD n false&&degB t n)<;>rfl
    rw[Zar (by simp;omega)];simp[h4]
   rw[Zar (by simp[h3])];simp[h3]
  rw[Zar (by simp;omega)];simp[h2]
 rw[Zar (by simp;omega)];simp[h1]
theorem ZqL (l:List Bool):l.contains false=!(allB l.length λn=>l.getD n false):=by
 rw[Zf,Zx,Zh,←Bool.not_eq_true,Zbq];constructor
 ·intro h hh;obtain⟨k,hk,e⟩:=List.getElem_of_mem h;have:=hh k hk;simp[ZC,hk,e]at this
 intro h;simp only[Classical.not_forall]at h;obtain⟨k,hk,e⟩:=h;simp[ZC,hk]at e;rw[←e];exact List.getElem_mem hk
theorem Zgw (hN:40<=N):ZgV N t=some (if Zez t then 0 else 260):=by
 unfold ZgV Zez;by_cases h1:2<=t.Nodes
 ·by_cases h2:t.Nodes<=12
  ·by_cases h3:(t.Station.length:Int)=t.Nodes
   ·rw[Zaq (by simp[h3];omega)];by_cases h4:t.Links.length<=24
    ·rw[Zaq (by simp;omega),ZrA h3 (by omega) (by omega),Zag,Zag];have e:decide (2<=t.Nodes)=true/\decide (t.Nodes<=12)=true/\((t.Station.length:Int)==t.Nodes)=true/\decide (t.Links.length<=24)=true:=by simp[h1,h2,h3,h4]
     rw[e.1,e.2.1,e.2.2.1,e.2.2.2];simp only[Zk];cases hT:allB t.Links.length (λk=>Zfn t (lk t k)&&nojB t k)with
     |false=>rfl
     |true=>
      simp only[Zi,Zg,Zap,Zk];rw[Zsf _ (by omega) (by omega) (by omega),Zag,(ZoD hT (by omega) (by omega) (by omega)).1,Zag];have hd:=(ZoD (N:=N) hT (by omega) (by omega) (by omega)).2;have hr:=ZlV (N:=N) hT h4 (by omega) h2 (by omega) ⟨false,false,false,false,false,false,false,false,false,false,false,false,false,false,false,false,false,false,false,false,false,false,false,false⟩ (by decide) (m:=0) (by omega) (by omega);have:=Zbh (n:=t.Station.length) (p:=λn=>degB t n) (body:=λx:Int=>Zgx N t (degs t) x) (bad:=.inr 260) (fin:=.inl ()) (λk hk=>by
       unfold Zgx;have j2:idx t.Station (k:Int)=some (stB t k):=ZbX false (by omega) (by omega);have j3:idx (degs t) (k:Int)=some ((degs t).getD k 0):=ZbX 0 (by omega) (by omega);rw[Zar (by simp;omega),j2,j3,ZaL (by omega)];simp only[Zag];unfold degB;cases stB t k with
       |false=>rfl
       |true=>
        simp only[Zas,Zi,Bool.false_or];generalize (degs t).getD k 0=d;by_cases g1:d<1
        ·simp[g1,show ¬(1<=d)by omega]
        by_cases g2:d>2
        ·simp[g1,g2,show ¬(d<=2)by omega]
        simp[g1,g2,show 1<=d by omega,show d<=2 by omega]) (by unfold Zgx;rw[Zaq (by simp)]) (N:=N) (by omega)
      rw[this,Zag,ZyM];have hsl:t.Station.length=t.Nodes.toNat:=by omega
      rw[hsl];cases hD:allB t.Nodes.toNat (λn=>degB t n)with
      |false=>simp
      |true=>
       simp only[Zas,Bool.and_true];rw[hr.1,Zag,Zgg (by omega) (by omega),Zag,ZqL,show(Zhl t 0).length=t.Nodes.toNat by omega];cases allB t.Nodes.toNat (λn=>(Zhl t 0).getD n false)<;>rfl
    rw[Zar (by simp;omega)];simp[h4]
   rw[Zar (by simp[h3])];simp[h3]
  rw[Zar (by simp;omega)];simp[h2]
 rw[Zar (by simp;omega)];simp[h1]
end
end Go.Sh

namespace Go.Sh
open Go Go.Eng
theorem ZhV {α:Type}{b:Nat}{l m:List α}(h:l.length+m.length<=1000)(hb:b<=1000):appI b l m=some (l++m):=by
 unfold appI;have:(l.length+m.length)*b<=1000*1000:=Nat.mul_le_mul h hb;rw[Zar ⟨by omega,by omega⟩]
def at0 (r:List Int)(k:Nat):Int:=r.getD k 0
def Zcy (t:Zav)(p:Int):Bool:=decide (0<=p)&&decide (p<2*(t.Links.length:Int))
def plk (t:Zav)(p:Int):ZaR:=t.Links.getD (Int.tdiv p 2).toNat dL
def frm (t:Zav)(p:Int):Int:=if(Int.tmod p 2==1)=true then(plk t p).B else(plk t p).A
def too (t:Zav)(p:Int):Int:=if(Int.tmod p 2==1)=true then(plk t p).A else(plk t p).B
def Zbm (t:Zav)(r:List Int):List Int:=frm t (at0 r 0)::r.map (too t)
def nd (t:Zav)(r:List Int)(k:Nat):Int:=(Zbm t r).getD k 0
def okAt (t:Zav)(r:List Int)(k:Nat):Bool:=
 Zcy t (at0 r k)&&(((k==0)||((frm t (at0 r k)==nd t r k)&&!stB t (nd t r k)))&&!((Zbm t r).take (k+1)).contains (nd t r (k+1)))
def ZbN (t:Zav)(r:List Int):Bool:=decide (1<=r.length)&&(decide (r.length<=8)&&allB r.length (okAt t r))
section
variable {N:Nat} {t:Zav}
structure Good (t:Zav):Prop where
 n2:2<=t.Nodes
 n12:t.Nodes<=12
 st:(t.Station.length:Int)=t.Nodes
 l24:t.Links.length<=24
 links:∀k,k<t.Links.length->Zfn t (lk t k)=true/\nojB t k=true
 nodes:∀n,n<t.Nodes.toNat->(Zhl t 0).getD n false=true/\degB t n=true
theorem Zbo:Zez t=true↔Good t:=by
 unfold Zez;simp only[Ze,Zao,beq_iff_eq,Zbq];exact⟨λ⟨a,b,c,d,e,f⟩=>⟨a,b,c,d,e,f⟩,λh=>⟨h.n2,h.n12,h.st,h.l24,h.links,h.nodes⟩⟩
theorem ZwV {p:Int}(hp:Zcy t p=true):0<=Int.tdiv p 2/\Int.tdiv p 2<t.Links.length:=by
 simp only[Zcy,Ze,Zao]at hp;rw[Zp hp.1];omega
theorem ZnF (hL:t.Links.length<=1000){p:Int}(hp:Zcy t p=true):idx t.Links (w64 (Int.tdiv p 2))=some (plk t p):=by
 obtain⟨h1,h2⟩:=ZwV hp;rw[ZaG (by omega) (by omega)];exact ZbX dL h1 h2
theorem Zeq (hL:t.Links.length<=1000){p:Int}(hp:Zcy t p=true):Zdf N t p=some (frm t p):=by
 unfold Zdf frm;rw[ZnF hL hp];simp only[Zag];split<;>rfl
theorem ZeZ (hL:t.Links.length<=1000){p:Int}(hp:Zcy t p=true):Zep N t p=some (too t p):=by
 unfold Zep too;rw[ZnF hL hp];simp only[Zag];split<;>rfl
theorem Zlp (hL:t.Links.length<=1000){p:Int}(hp:Zcy t p=true):Zhk N t p=some (plk t p).Delay:=by
 unfold Zhk;rw[ZnF hL hp];rfl
theorem ZnB (hL:t.Links.length<=1000){p:Int}(hp:Zcy t p=true):Zka N t p=some (plk t p).Per:=by
 unfold Zka;rw[ZnF hL hp];rfl
theorem ZrV (hL:t.Links.length<=1000)(p:Int):ZkF N t p=some (Zcy t p):=by
 unfold ZkF Zcy;rw[ZaG (by omega) (by omega)]
theorem Zhv (g:Good t){p:Int}(hp:Zcy t p=true):Zfb t (frm t p)=true/\Zfb t (too t p)=true/\frm t p≠too t p:=by
 obtain⟨h1,h2⟩:=ZwV hp;have:=ZcW (g.links (Int.tdiv p 2).toNat (by omega)).1;unfold frm too;split
 ·exact⟨this.2.1,this.1,Ne.symm this.2.2⟩
 exact this
theorem ZlQ {r:List Int}{k:Nat}(h:k<r.length):at0 r k=r[k]:=ZbC h 0
theorem Zes (r:List Int):(Zbm t r).length=r.length+1:=by simp[Zbm]
theorem Zh7 {r:List Int}{k:Nat}(h:k<r.length):nd t r (k+1)=too t (at0 r k):=by
 unfold nd Zbm;rw[List.getD_cons_succ,ZbC (by simpa using h),ZlQ h,ZQ]
theorem ZAd (r:List Int):nd t r 0=frm t (at0 r 0):=rfl
theorem ZtC {r:List Int}{k:Nat}(h:k<(Zbm t r).length):(Zbm t r)[k]=nd t r k:=by unfold nd;rw[ZbC h]
theorem ZAe (g:Good t){r:List Int}(hp:∀k,k<r.length->Zcy t (at0 r k)=true)(h1:1<=r.length){k:Nat}(hk:k<=r.length):Zfb t (nd t r k)=true:=by
 cases k with
 |zero=>exact(Zhv g (hp 0 (by omega))).1
 |succ k=>rw[Zh7 (by omega)];exact(Zhv g (hp k (by omega))).2.1
theorem Zh5 (hL:t.Links.length<=1000){r:List Int}(h1:1<=r.length)(h12:r.length<=100)(hp:∀k,k<r.length->Zcy t (at0 r k)=true)(hN:200<=N):Zd9 N t r=some (Zbm t r):=by
 unfold Zd9;have e0:idx r 0=some (at0 r 0):=by unfold at0;exact ZbX 0 (Int.le_refl _) (by omega)
 rw[e0,Zag,Zeq hL (hp 0 (by omega)),Zag];have hlen:=Zes (t:=t) r;have:=ZdQ (n:=r.length) (f:=λb k=>(Zbm t r).take (k+2)) (body:=λx:Int×(List Int)=>ZdN N t r x.1 x.2) (fin:=λb=>b) (λk b=>b=(Zbm t r).take (k+1))
  (λk b hk hb=>by
   show ZdN N t r k b=_;unfold ZdN;subst hb;rw[Zar (by simp;omega),ZbM hk,Zag];have e:r[k]=at0 r k:=(ZlQ hk).symm;rw[e,ZeZ hL (hp k hk),Zag,ZhV (by simp;omega) (by omega),Zag,ZaL (by omega)];rw[←Zh7 hk,←ZtC (by omega),List.take_append_getElem])
  (λk b hk hb=>rfl)
  (λb hb=>by show ZdN N t r r.length b=_;unfold ZdN;rw[Zaq (by simp)]) (N:=N) (by omega) (b0:=[frm t (at0 r 0)]) (by simp[Zbm])
 rw[this.1,Zag,this.2,Zab (by omega)]
theorem Zqv (g:Good t){r:List Int}(h12:r.length<=100)(hN:200<=N):Zdw N t r=some (ZbN t r):=by
 have hL:t.Links.length<=1000:=by have:=g.l24;omega
 unfold Zdw ZbN;by_cases h1:1<=r.length
 ·by_cases h8:r.length<=8
  ·rw[Zaq (by simp;omega)];have a1:=Zbh (n:=r.length) (p:=λk=>Zcy t (at0 r k)) (body:=λx:Int=>ZfR N t r x) (bad:=.inr false) (fin:=.inl ()) (λk hk=>by
    unfold ZfR;rw[Zar (by simp;omega),ZbM hk,Zag,ZrV hL,Zag,ZaL (by omega),ZlQ hk];cases Zcy t r[k]<;>rfl) (by unfold ZfR;rw[Zaq (by simp)]) (N:=N) (by omega)
   rw[a1,Zag];simp only[h1,h8,decide_true,Zk];cases hp:allB r.length (λk=>Zcy t (at0 r k))with
   |false=>
    have:allB r.length (okAt t r)=false:=by
     rw[←Bool.not_eq_true,Zbq];rw[←Bool.not_eq_true,Zbq]at hp;intro h;exact hp λk hk=>by have:=h k hk;simp only[okAt,Ze]at this;exact this.1
    rw[this];rfl
   |true=>
    rw[Zbq]at hp;simp only[Zas];rw[Zh5 hL h1 h12 hp hN,Zag];have hlen:=Zes (t:=t) r;have a2:=Zbh (n:=r.length+1) (p:=λi=>!((Zbm t r).take i).contains (nd t r i)&&!(decide (0<i)&&(decide (i<r.length)&&(stB t (nd t r i)||!(frm t (at0 r i)==nd t r i)))))
     (body:=λx:Int=>ZfQ N t r (Zbm t r) x) (bad:=.inr false) (fin:=.inl ()) (λi hi=>by
     unfold ZfQ;have hi':i<(Zbm t r).length:=by omega
     have hsub:subI (Zbm t r) 0 (i:Int)=some ((Zbm t r).take i):=by
      unfold subI;rw[Zar ⟨by omega,by omega,by omega⟩];simp
     rw[Zar (by simp;omega),hsub,Zag,ZbM hi',Zag,ZtC hi',Zi9 (by simp;omega) (by simp;omega),Zag,ZaL (by omega)];cases hc:((Zbm t r).take i).contains (nd t r i)with
     |true=>rfl
     |false=>
      by_cases hi0:0<i
      ·by_cases hil:i<r.length
       ·have e1:decide ((i:Int)>0)=true:=by simp;omega
        have e2:decide ((i:Int)<(r.length:Int))=true:=by simp;omega
        rw[e1,e2,ZbM hil];have e3:r[i]=at0 r i:=(ZlQ hil).symm;rw[e3];simp only[Zg,Zap,Zas,Zag];rw[Zgk g.st (ZAe g hp h1 (by omega)),Zeq hL (hp i hil)];simp only[hi0,hil,decide_true,Zk,Bool.not_false,bne,Zag];cases stB t (nd t r i)<;>cases (frm t (at0 r i)==nd t r i)<;>rfl
       have e1:decide ((i:Int)>0)=true:=by simp;omega
       have e2:decide ((i:Int)<(r.length:Int))=false:=by simp;omega
       rw[e1,e2];simp[hil]
      have e1:decide ((i:Int)>0)=false:=by simp;omega
      rw[e1];simp[hi0]) (by unfold ZfQ;rw[Zaq (by simp;omega)]) (N:=N) (by omega)
    rw[a2,Zag];have:allB (r.length+1) (λi=>!((Zbm t r).take i).contains (nd t r i)&&!(decide (0<i)&&(decide (i<r.length)&&(stB t (nd t r i)||!(frm t (at0 r i)==nd t r i)))))=allB r.length (okAt t r):=by
     rw[Zf,Zbq,Zbq];constructor
     ·intro h k hk;have q1:=h k (by omega);have q2:=h (k+1) (by omega);simp only[Ze]at q1 q2;simp only[okAt,Ze];refine⟨hp k hk,?_,q2.1⟩;by_cases hk0:k=0
      ·simp[hk0]
      have:=q1.2;simp only[show 0<k by omega,hk,decide_true,Zk,Zh,Bool.or_eq_false_iff]at this;simp only[Zj,Ze,Zh];right;exact⟨by simpa using this.2,this.1⟩
     intro h i hi;simp only[Ze];constructor
     ·cases i with
      |zero=>simp
      |succ i=>
       have:=h i (by omega);simp only[okAt,Ze]at this;exact this.2.2
     by_cases hi0:0<i
     ·by_cases hil:i<r.length
      ·have:=h i hil;simp only[okAt,Ze,Zj,Zh]at this;have h2:=this.2.1;rcases h2 with h2|⟨h2,h3⟩
       ·simp at h2;omega
       simp[h2,h3]
      simp[hil]
     simp[hi0]
    rw[this];cases allB r.length (okAt t r)<;>rfl
  rw[Zar (by simp;omega)];simp[h8]
 rw[Zar (by simp;omega)];simp[h1]
theorem ZpC {σ:Type}(hL:t.Links.length<=1000)(y:σ->Int->ZbS->Option (σ×Bool)){r:List Int}(g:σ){k:Nat}(hk:k<r.length)(hk':k<1000):Za6 N y r ⟨t⟩ (k:Int) g=
  if Zcy t (at0 r k)=true then(y g k ⟨at0 r k,frm t (at0 r k),too t (at0 r k)⟩).bind λq=>if(!q.2)=true then some (.inr q.1)else some (.inl (((k+1:Nat):Int),q.1))else some (.inr g):=by
 unfold Za6;rw[Zar (by simp;omega),ZbM hk,Zag,←ZlQ hk,ZaL (by omega)];simp only;have hpo:(if decide (at0 r k<0)=true then some true else some (decide (at0 r k≥w64 (2*(t.Links.length:Int)))))=some (!Zcy t (at0 r k)):=by
  rw[ZaG (by omega) (by omega)];unfold Zcy;by_cases h1:at0 r k<0
  ·rw[Zar (by simpa using h1)];simp[show ¬(0<=at0 r k)by omega]
  rw[Zaq (by simpa using h1)];by_cases h2:at0 r k<2*(t.Links.length:Int)
  ·rw[decide_eq_false (by omega),Zan (show 0<=at0 r k by omega),Zan h2];rfl
  rw[Zan (by omega),Zan (show 0<=at0 r k by omega),decide_eq_false h2];rfl
 rw[hpo,Zag];cases hp:Zcy t (at0 r k)with
 |false=>rfl
 |true=>
  rw[ZnF hL hp];simp only[Zi,Zg,Zap,Zag,Zas];unfold frm too;split<;>rfl
theorem Zvc {σ:Type}(y:σ->Int->ZbS->Option (σ×Bool)){r:List Int}(g:σ):Za6 N y r ⟨t⟩ (r.length:Int) g=some (.inr g):=by
 unfold Za6;rw[Zaq (by simp)]
theorem ZpZ {a:ZaB}{x:Int}(h0:0<=x)(h:x<12):a.get x=some (a.l.getD x.toNat false):=by
 unfold ZaB.get;exact ZbX false h0 (by show x<((12:Nat):Int);omega)
theorem Zt4 {a:ZaB}{x:Int}{v:Bool}{y:Nat}(h0:0<=x)(h:x<12):(a.set x v).l.getD y false=if y=x.toNat then v else a.l.getD y false:=by
 rw[ZaB.l_set];have hlen:a.l.length=12:=rfl;rw[ZC,ZC,ZM];by_cases e:y=x.toNat
 ·subst e;rw[Zar rfl,Zar (by omega),Zar rfl];rfl
 rw[Zaq (Ne.symm e),Zaq e]
def VInv (t:Zav)(r:List Int)(k:Nat)(v:Int×Int×ZaB):Prop:=
 v.1=k/\(0<k->v.2.1=nd t r k)/\∀x:Nat,x<12->v.2.2.l.getD x false=(decide (0<k)&&((Zbm t r).take (k+1)).contains (x:Int))
theorem ZjT {r:List Int}{k:Nat}(h:k<(Zbm t r).length):(Zbm t r).take (k+1)=(Zbm t r).take k++[nd t r k]:=by
 rw[←ZtC h,List.take_append_getElem]
theorem ZvC (g:Good t){r:List Int}{k:Nat}(hk:k<r.length)(h12:r.length<=100)(hpre:∀j,j<k->Zcy t (at0 r j)=true)(hp:Zcy t (at0 r k)=true){v:Int×Int×ZaB}(hv:VInv t r k v):
  ∃v' e,ZbA N ⟨t⟩ v.1 v.2.1 v.2.2 (k:Int) ⟨at0 r k,frm t (at0 r k),too t (at0 r k)⟩=some (v',e)/\((e=0/\okAt t r k=true/\VInv t r (k+1) v')∨(e=1/\okAt t r k=false/\v'.1=k)):=by
 obtain⟨good,at_,seen⟩:=v;obtain⟨e1,e2,e3⟩:=hv;simp only at e1 e2 e3;subst e1;obtain⟨f1,f2,f3⟩:=Zhv g hp;rw[Zhq]at f1 f2;have hn:=g.n12;have hlen:=Zes (t:=t) r;have hpk:∀j,j<k+1->Zcy t (at0 r j)=true:=λj hj=>by
  by_cases e:j=k
  ·subst e;exact hp
  exact hpre j (by omega)
 have hmem:∀(s:ZaB),(∀x:Nat,x<12->s.l.getD x false=((Zbm t r).take (k+1)).contains (x:Int))→
   s.l.getD (too t (at0 r k)).toNat false=((Zbm t r).take (k+1)).contains (nd t r (k+1))∧
   (((Zbm t r).take (k+1)).contains (nd t r (k+1))=false->VInv t r (k+1) (w64 ((k:Int)+1),too t (at0 r k),s.set (too t (at0 r k)) true)):=by
  intro s hs;constructor
  ·rw[hs _ (by omega),Zh7 hk,Zs f2.1]
  intro hc;refine⟨by simp only;rw[ZaL (by omega)],λ_=>(Zh7 hk).symm,λx hx=>?_⟩;simp only;rw[Zt4 f2.1 (by omega),ZjT (by omega),List.contains_append,Zh7 hk];simp only[show 0<k+1 by omega,decide_true,Zk,List.contains_cons,List.contains_nil,Bool.or_false];by_cases e:x=(too t (at0 r k)).toNat
  ·rw[Zar e];have:((x:Int)==too t (at0 r k))=true:=by simp;omega
   rw[this,Bool.or_true]
  rw[Zaq e,hs x hx];have:((x:Int)==too t (at0 r k))=false:=by simp;omega
  rw[this,Bool.or_false]
 unfold ZbA okAt;by_cases hk0:k=0
 ·subst hk0;rw[Zar (by simp)];simp only;rw[ZpZ f1.1 (by omega),Zag,ZpZ f2.1 (by omega),Zag];have hs0:∀x:Nat,x<12->(seen.set (frm t (at0 r 0)) true).l.getD x false=((Zbm t r).take (0+1)).contains (x:Int):=λx hx=>by
   rw[Zt4 f1.1 (by omega)];have he:seen.l.getD x false=false:=by rw[e3 x hx];simp
   rw[he];show _=[frm t (at0 r 0)].contains (x:Int);simp only[List.contains_cons,List.contains_nil,Bool.or_false];by_cases e:x=(frm t (at0 r 0)).toNat
   ·rw[Zar e];symm;simp;omega
   rw[Zaq e];symm;simp;omega
  obtain⟨m1,m2⟩:=hmem _ hs0;rw[m1];have hc:((Zbm t r).take (0+1)).contains (nd t r (0+1))=false:=by
   show[frm t (at0 r 0)].contains _=false;rw[Zh7 hk];simp only[List.contains_cons,List.contains_nil,Bool.or_false];simp[Ne.symm f3]
  rw[hc];refine⟨_,0,rfl,.inl ⟨rfl,?_,m2 hc⟩⟩;rw[hp];rfl
 rw[Zaq (by simp;omega)];simp only;have ha:=e2 (by omega);subst ha;have hst:idx t.Station (nd t r k)=some (stB t (nd t r k)):=by
  apply Zgk g.st;obtain⟨j,rfl⟩:∃j,k=j+1:=⟨k-1,by omega⟩;rw[Zh7 (by omega)];exact(Zhv g (hpre j (by omega))).2.1
 have hs1:∀x:Nat,x<12->seen.l.getD x false=((Zbm t r).take (k+1)).contains (x:Int):=λx hx=>by rw[e3 x hx];simp[show 0<k by omega]
 obtain⟨m1,m2⟩:=hmem _ hs1;rw[hst,hp,show(k==0)=false by simp[hk0]];simp only[Zag,bne,Bool.false_or,Zk];cases hf:(frm t (at0 r k)==nd t r k)with
 |false=>exact⟨_,1,rfl,.inr ⟨rfl,rfl,rfl⟩⟩
 |true=>
  cases hs:stB t (nd t r k)with
  |true=>exact⟨_,1,rfl,.inr ⟨rfl,rfl,rfl⟩⟩
  |false=>
   simp only[Zi,Zg,Zap,Zag];rw[ZpZ f2.1 (by omega),Zag,Zag,m1];cases hc:((Zbm t r).take (k+1)).contains (nd t r (k+1))with
   |true=>exact⟨_,1,rfl,.inr ⟨rfl,rfl,rfl⟩⟩
   |false=>exact⟨_,0,rfl,.inl ⟨rfl,rfl,m2 hc⟩⟩
theorem ZvD (g:Good t){r:List Int}(h12:r.length<=100):∀(n N k:Nat) (v:Int×Int×ZaB),r.length-k=n->k<=r.length->n<N->(∀j,j<k->okAt t r j=true)->VInv t r k v->∀M:Nat,
  ∃s:(Int×Int×ZaB)×Nat,ZaO (λx:Int×((Int×Int×ZaB)×Nat)=>Za6 M (λ(s:(Int×Int×ZaB)×Nat) (x522:Int) (x523:ZbS)=>Zgn (λv:Int×Int×ZaB=>ZbA M ⟨t⟩ v.1 v.2.1 v.2.2 x522 x523) s) r ⟨t⟩ x.1 x.2) N ((k:Int),(v,0))=some s∧
   (s.2=0∨s.2=1)/\(s.1.1==(r.length:Int))=allB r.length (okAt t r):=by
 have hL:t.Links.length<=1000:=by have:=g.l24;omega
 intro n;induction n with
 |zero=>
  intro N k v h1 h2 h3 hpre hv M;obtain rfl:k=r.length:=by omega
  cases N with
  |zero=>omega
  |succ N=>
   refine⟨(v,0),by rw[Za5 (Zvc _ _)],.inl rfl,?_⟩;rw[hv.1,Zbq.2 hpre];simp
 |succ n ih=>
  intro N k v h1 h2 h3 hpre hv M;have hk:k<r.length:=by omega
  cases N with
  |zero=>omega
  |succ N=>
   have hbad:okAt t r k=false->(((k:Nat):Int)==(r.length:Int))=allB r.length (okAt t r):=λhb=>by
    have e1:(((k:Nat):Int)==(r.length:Int))=false:=by simp;omega
    rw[e1];symm;rw[←Bool.not_eq_true,Zbq];intro h;rw[h k hk]at hb;cases hb
   cases hp:Zcy t (at0 r k)with
   |false=>
    refine⟨(v,0),?_,.inl rfl,?_⟩
    ·rw[Za5];show Za6 M _ r ⟨t⟩ (k:Int) (v,0)=_;rw[ZpC hL _ _ hk (by omega),Zaq (by rw[hp];simp)]
    simp only[hv.1];exact hbad (by unfold okAt;rw[hp];rfl)
   |true=>
    obtain⟨v',e,s1,s2⟩:=ZvC (N:=M) g hk h12 (λj hj=>by have:=hpre j hj;simp only[okAt,Ze]at this;exact this.1) hp hv;have hy:Za6 M (λ(s:(Int×Int×ZaB)×Nat) (x522:Int) (x523:ZbS)=>Zgn (λv:Int×Int×ZaB=>ZbA M ⟨t⟩ v.1 v.2.1 v.2.2 x522 x523) s) r ⟨t⟩ (k:Int) (v,0)=
      if(!(e==0))=true then some (.inr (v',e))else some (.inl (((k+1:Nat):Int),(v',e))):=by
     rw[ZpC hL _ _ hk (by omega),Zar hp];simp only[Zgn,Zas,s1,Zai,Zag]
    rcases s2 with⟨rfl,s3,s4⟩|⟨rfl,s3,s4⟩
    ·rw[ZbL (y:=(((k+1:Nat):Int),(v',0))) hy];exact ih N (k+1) v' (by omega) (by omega) (by omega) (λj hj=>by
      by_cases e:j=k
      ·subst e;exact s3
      exact hpre j (by omega)) s4 M
    refine⟨(v',1),by rw[Za5 (r:=(v',1)) hy],.inr rfl,?_⟩;rw[s4];exact hbad s3
theorem ZhY (g:Good t){r:List Int}(h12:r.length<=100)(hN:200<=N):Zcx N ⟨t⟩ r=some (ZbN t r):=by
 unfold Zcx ZbN;by_cases h1:1<=r.length
 ·by_cases h8:r.length<=8
  ·rw[Zaq (by simp;omega)];simp only[h1,h8,decide_true,Zk];obtain⟨s,s1,s2,s3⟩:=ZvD g h12 r.length N 0 (0,0,⟨false,false,false,false,false,false,false,false,false,false,false,false⟩) (by omega) (by omega) (by omega) (λj hj=>by omega) ⟨rfl,λh=>by omega,λx hx=>by
    simp only[Nat.lt_irrefl,decide_false,Bool.false_and];revert x;decide⟩ N
   unfold Zdd Zdc;simp only[Zag];rw[show((0:Nat):Int)=0 from rfl]at s1;rw[s1];simp only[Zag];rcases s2 with e|e
   ·rw[e];simp only[beq_self_eq_true,Zas,Zag];rw[s3]
   rw[e];simp only[show((1:Nat)==0)=false from rfl,beq_self_eq_true,Zg,Zap,Zas,Zag];rw[s3]
  rw[Zar (by simp;omega)];simp[h8]
 rw[Zar (by simp;omega)];simp[h1]
end
end Go.Sh

namespace Go.Sh
open Go Go.Eng
theorem Zv7 {ρ:Type}{n:Nat}{p:Nat->Bool}{body:Int->Option (Int⊕ρ)}{bad fin:ρ}(hstep:∀k:Nat,k<n->body (k:Int)=if p k=true then some (.inl ((k+1:Nat):Int))else some (.inr bad))
  (hend:body (n:Int)=some (.inr fin)):∀(m N k:Nat),n-k=m->k<=n->m<N->ZaO body N (k:Int)=some (if(List.range' k m).all p then fin else bad):=by
 intro m;induction m with
 |zero=>
  intro N k h1 h2 h3;obtain rfl:k=n:=by omega
  cases N with
  |zero=>omega
  |succ N=>rw[Za5 hend];rfl
 |succ m ih=>
  intro N k h1 h2 h3;cases N with
  |zero=>omega
  |succ N=>
   rw[Z5,List.all_cons];by_cases hp:p k=true
   ·rw[ZbL (by rw[hstep k (by omega),Zar hp]),ih N (k+1) (by omega) (by omega) (by omega),hp,Zk]
   rw[Za5 (by rw[hstep k (by omega),Zaq hp])];simp[hp]
section
variable {N:Nat} {t:Zav}
theorem ZVR {b:Nat}{c:Int}(h0:0<=c)(h1:c<=1000)(hb:b<=1000):Zhr b 0 c (0:Int)=some []:=by
 unfold Zhr;have:c*(b:Int)<=1000*1000:=Int.mul_le_mul h1 (by omega) (by omega) (by omega);rw[Zar ⟨Int.le_refl _,h0,by omega,by omega⟩];rfl
theorem Zca {r:List Int}(h:ZbN t r=true):1<=r.length/\r.length<=8/\∀k,k<r.length->Zcy t (at0 r k)=true:=by
 simp only[ZbN,Ze,Zao,Zbq]at h;exact⟨h.1,h.2.1,λk hk=>by have:=h.2.2 k hk;simp only[okAt,Ze]at this;exact this.1⟩
theorem ZhZ (g:Good t){r:List Int}(hv:ZbN t r=true)(hN:200<=N):ZcP N ⟨t⟩ r=some (Zbm t r):=by
 have hL:t.Links.length<=1000:=by have:=g.l24;omega
 obtain⟨h1,h8,hp⟩:=Zca hv;have hlen:=Zes (t:=t) r;unfold ZcP;rw[ZaG (by omega) (by omega),ZVR (by omega) (by omega) (by omega),Zag];unfold Zdd Zdc;simp only[Zag];have:=ZdQ (n:=r.length) (f:=λb k=>(Zbm t r).take (k+2))
  (body:=λx:Int×(List Int)=>Za6 N (λ(s:(List Int)) (x13:Int) (x14:ZbS)=>ZdS (λv:(List Int)=>ZbP N v x13 x14) s) r ⟨t⟩ x.1 x.2) (fin:=λb=>b) (λk b=>b=if k=0 then[]else(Zbm t r).take (k+1))
  (λk b hk hb=>by
   show Za6 N _ r ⟨t⟩ k b=_;rw[ZpC hL _ _ hk (by omega),Zar (hp k hk)];have:ZbP N b (k:Int) ⟨at0 r k,frm t (at0 r k),too t (at0 r k)⟩=some ((Zbm t r).take (k+2)):=by
    unfold ZbP;subst hb;by_cases hk0:k=0
    ·subst hk0;rw[Zar (by simp),Zar rfl,ZhV (by simp) (by omega),Zag,Zag,ZhV (by simp) (by omega),Zag,←Zh7 hk];unfold nd Zbm;obtain⟨a,l,rfl⟩:∃a l,r=a::l:=by cases r with
      |nil=>simp at hk
      |cons a l=>exact⟨a,l,rfl⟩
     simp
    rw[Zaq (by simp;omega),Zaq hk0,Zag,ZhV (by simp;omega) (by omega),Zag,←Zh7 hk,ZjT (k:=k+1) (by omega)]
   simp only[ZdS,this,Zai,Zag];rfl)
  (λk b hk hb=>by rw[Zaq (by omega)])
  (λb hb=>Zvc _ _) (N:=N) (by omega) (b0:=[]) (by rw[Zar rfl])
 rw[this.1,Zag,Zag,this.2,Zaq (by omega),Zab (by omega)]
def errR (t:Zav)(r:List Int):Int:=if Zez t then(if ZbN t r then 0 else 310)else 260
theorem ZfN {r:List Int}(h12:r.length<=100)(hN:200<=N):ZeX N t r=some (errR t r):=by
 unfold ZeX errR;rw[Zgw (by omega),Zag];cases hT:Zez t with
 |false=>rfl
 |true=>
  simp only[Zas,Zam,Zg,Zap];rw[ZhY (Zbo.1 hT) h12 hN,Zag];cases ZbN t r<;>rfl
theorem Zks {r:List Int}:errR t r=0↔Zez t=true/\ZbN t r=true:=by
 unfold errR;cases Zez t<;>cases ZbN t r<;>simp
section
variable {r:List Int}
theorem ZoT (h12:r.length<=100)(hN:200<=N)(he:errR t r≠0):ZeW N t r=some ([],errR t r):=by
 unfold ZeW ZdL;rw[ZfN h12 hN];simp[he]
theorem Zqe (h12:r.length<=100)(hN:200<=N)(he:errR t r≠0):Ze2 N t r=some (0,0,errR t r):=by
 unfold Ze2;rw[ZoT h12 hN he];simp[he]
theorem ZoS (h12:r.length<=100)(hN:200<=N)(he:errR t r=0):ZeW N t r=some (Zbm t r,0):=by
 obtain⟨hT,hv⟩:=Zks.1 he;unfold ZeW ZdL Zfh;rw[ZfN h12 hN,he];simp only[Zag,Zam,Zg,Zap];rw[ZhZ (Zbo.1 hT) hv hN];rfl
theorem Zqd (h12:r.length<=100)(hN:200<=N)(he:errR t r=0):Ze2 N t r=some (nd t r 0,nd t r r.length,0):=by
 have hlen:=Zes (t:=t) r;unfold Ze2;rw[ZoS h12 hN he];simp only[Zag,Zam,Zg,Zap];rw[show(0:Int)=((0:Nat):Int)from rfl,ZbM (show 0<(Zbm t r).length by omega),ZaG (by omega) (by omega),show((Zbm t r).length:Int)-1=((r.length:Nat):Int)by omega,ZbM (by omega),ZtC,ZtC];rfl
end
end
end Go.Sh
namespace Go.Sh
open Go Go.Eng
section
variable {N:Nat} {t:Zav}
def Zt7 (a b:List Int):Bool:=allB a.length λi=>allB b.length λk=>!(w64 (Int.tdiv (at0 a i) 2)==w64 (Int.tdiv (at0 b k) 2))
theorem ZoR {a b:List Int}(ha:a.length<=100)(hb:b.length<=100)(hN:200<=N):ZhJ N a b=some (!Zt7 a b):=by
 unfold ZhJ Zt7;have h2:∀i,i<a.length->ZaO (λx:Int=>Zff N b (at0 a i) x) N 0=some (if allB b.length (λk=>!(w64 (Int.tdiv (at0 a i) 2)==w64 (Int.tdiv (at0 b k) 2)))then .inl ()else .inr true):=λi hi=>
  Zbh (n:=b.length) (λk hk=>by
   unfold Zff;rw[Zar (by simp;omega),ZbM hk,Zag,←ZlQ hk,ZaL (by omega)];cases (w64 (Int.tdiv (at0 a i) 2)==w64 (Int.tdiv (at0 b k) 2))<;>rfl) (by unfold Zff;rw[Zaq (by simp)]) (by omega)
 have:=Zbh (n:=a.length) (p:=λi=>allB b.length λk=>!(w64 (Int.tdiv (at0 a i) 2)==w64 (Int.tdiv (at0 b k) 2))) (body:=λx:Int=>Zfg N a b x) (bad:=.inr true) (fin:=.inl ()) (λi hi=>by
  unfold Zfg;rw[Zar (by simp;omega),ZbM hi,Zag,←ZlQ hi,h2 i hi,ZaL (by omega)];cases allB b.length (λk=>!(w64 (Int.tdiv (at0 a i) 2)==w64 (Int.tdiv (at0 b k) 2)))<;>rfl) (by unfold Zfg;rw[Zaq (by simp)]) (N:=N) (by omega)
 rw[this];cases allB a.length (λi=>allB b.length λk=>!(w64 (Int.tdiv (at0 a i) 2)==w64 (Int.tdiv (at0 b k) 2)))<;>rfl
def Zlv (A B:List Int):Bool:=(List.range' 1 (A.length-2)).all λi=>!B.contains (at0 A i)
theorem ZjD {A B:List Int}(h1:2<=A.length)(hA:A.length<=100)(hB:B.length<=100)(hN:200<=N):Zfi N A B=some (!Zlv A B):=by
 unfold Zfi Zlv;have:=Zv7 (n:=A.length-1) (p:=λi=>!B.contains (at0 A i)) (body:=λx:Int=>ZeQ N A B x) (bad:=.inr true) (fin:=.inl ()) (λi hi=>by
  unfold ZeQ;rw[Zar (by rw[ZaG (by omega) (by omega)];simp;omega),ZbM (by omega),Zag,←ZlQ (by omega),Zi9 (by omega) (by omega),Zag,ZaL (by omega)];cases B.contains (at0 A i)<;>rfl) (by unfold ZeQ;rw[Zaq (by rw[ZaG (by omega) (by omega)];simp;omega)]) (A.length-2) N 1 (by omega) (by omega) (by omega)
 rw[show((1:Nat):Int)=1 from rfl]at this;rw[this];cases (List.range' 1 (A.length-2)).all (λi=>!B.contains (at0 A i))<;>rfl
theorem Zk7 (g:Good t){a b:List Int}(hva:ZbN t a=true)(hvb:ZbN t b=true)(hN:200<=N):ZdB N ⟨t⟩ a b=some (!Zlv (Zbm t a) (Zbm t b)):=by
 obtain⟨a1,a8,_⟩:=Zca hva;obtain⟨b1,b8,_⟩:=Zca hvb;have hla:=Zes (t:=t) a;have hlb:=Zes (t:=t) b;unfold ZdB Zlv;rw[ZhZ g hva hN,Zag,ZhZ g hvb hN,Zag];generalize hA:Zbm t a=A at*;generalize hB:Zbm t b=B at*;have hsub:subI A 1 (w64 ((A.length:Int)-1))=some ((A.take (A.length-1)).drop 1):=by
  rw[ZaG (by omega) (by omega)];unfold subI;rw[Zar ⟨by omega,by omega,by omega⟩,show((A.length:Int)-1).toNat=A.length-1 by omega];rfl
 rw[hsub,Zag];have hil:((A.take (A.length-1)).drop 1).length=A.length-2:=by simp;omega
 have:=Zbh (n:=A.length-2) (p:=λi=>!B.contains (at0 A (i+1))) (body:=λx:Int=>Zdt N B ((A.take (A.length-1)).drop 1) x) (bad:=.inr true) (fin:=.inl ()) (λi hi=>by
  unfold Zdt;rw[Zar (by rw[hil];simp;omega),ZbM (by omega),Zag];have e:((A.take (A.length-1)).drop 1)[i]'(by omega)=at0 A (i+1):=by
   rw[ZlQ (by omega),List.getElem_drop,List.getElem_take]
   congr 1;omega
  rw[e,Zg5 (by omega) (by omega),Zag,ZaL (by omega)];cases B.contains (at0 A (i+1))<;>rfl) (by unfold Zdt;rw[Zaq (by rw[hil];simp)]) (N:=N) (by omega)
 rw[this];have e2:(List.range' 1 (A.length-2)).all (λi=>!B.contains (at0 A i))=allB (A.length-2) (λi=>!B.contains (at0 A (i+1))):=by
  unfold allB;rw[Zf,Zt,Zt];constructor
  ·intro h i hi;exact h (i+1) (by simp only[Z2]at hi;simp only[List.mem_range'_1];omega)
  intro h i hi;simp only[List.mem_range'_1]at hi;have:=h (i-1) (by simp only[Z2];omega)
  rwa [show i-1+1=i by omega]at this
 rw[e2];cases allB (A.length-2) (λi=>!B.contains (at0 A (i+1)))<;>rfl
def Zp1 (t:Zav)(a b:List Int):Bool:=Zt7 a b&&(Zlv (Zbm t a) (Zbm t b)&&Zlv (Zbm t b) (Zbm t a))
theorem Zlj (g:Good t){a b:List Int}(hva:ZbN t a=true)(hvb:ZbN t b=true)(hN:200<=N):Zea N t a b=some (Zp1 t a b):=by
 obtain⟨a1,a8,pa⟩:=Zca hva;obtain⟨b1,b8,pb⟩:=Zca hvb;have hla:=Zes (t:=t) a;have hlb:=Zes (t:=t) b;have hL:t.Links.length<=1000:=by have:=g.l24;omega
 unfold Zea Zp1;have h2:∀i:Nat,i<a.length->ZaO (λx:Int=>ZfS N a b (i:Int) x) N 0=some (if allB b.length (λk=>!(w64 (Int.tdiv (at0 a i) 2)==w64 (Int.tdiv (at0 b k) 2)))then .inl ()else .inr false):=λi hi=>
  Zbh (n:=b.length) (λk hk=>by
   unfold ZfS;rw[Zar (by simp;omega),ZbM hi,Zag,ZbM hk,Zag,←ZlQ hi,←ZlQ hk,ZaL (by omega)];cases (w64 (Int.tdiv (at0 a i) 2)==w64 (Int.tdiv (at0 b k) 2))<;>rfl) (by unfold ZfS;rw[Zaq (by simp)]) (by omega)
 have:=Zbh (n:=a.length) (p:=λi=>allB b.length λk=>!(w64 (Int.tdiv (at0 a i) 2)==w64 (Int.tdiv (at0 b k) 2))) (body:=λx:Int=>ZfT N a b x) (bad:=.inr false) (fin:=.inl ()) (λi hi=>by
  unfold ZfT;rw[Zar (by simp;omega),h2 i hi,ZaL (by omega)];cases allB b.length (λk=>!(w64 (Int.tdiv (at0 a i) 2)==w64 (Int.tdiv (at0 b k) 2)))<;>rfl) (by unfold ZfT;rw[Zaq (by simp)]) (N:=N) (by omega)
 rw[this];unfold Zt7;cases allB a.length (λi=>allB b.length λk=>!(w64 (Int.tdiv (at0 a i) 2)==w64 (Int.tdiv (at0 b k) 2)))with
 |false=>rfl
 |true=>
  simp only[Zas,Zag,Zk];rw[Zh5 hL a1 (by omega) pa hN,Zh5 hL b1 (by omega) pb hN];simp only[Zag];rw[ZjD (by omega) (by omega) (by omega) hN,ZjD (by omega) (by omega) (by omega) hN];cases Zlv (Zbm t a) (Zbm t b)<;>cases Zlv (Zbm t b) (Zbm t a)<;>rfl
theorem Zqh {a b:List Int}(ha:a.length<=100)(hb:b.length<=100)(hN:200<=N):
  ZeY N t a b=some (if errR t a=0 then(if ZbN t b then(Zp1 t a b,0)else(false,310))else(false,errR t a)):=by
 unfold ZeY ZdK;rw[ZfN ha hN,Zag];by_cases he:errR t a=0
 ·obtain⟨hT,hva⟩:=Zks.1 he;have g:=Zbo.1 hT;rw[Zar he,he];simp only[Zam,Zg,Zap];unfold Zem;rw[ZhY g hb hN,Zag];cases hvb:ZbN t b with
  |false=>rfl
  |true=>
   simp only[Zi,Zg,Zap,Zas];rw[ZoR ha hb hN,Zk7 g hva hvb hN,Zk7 g hvb hva hN];unfold Zp1;cases Zt7 a b<;>cases Zlv (Zbm t a) (Zbm t b)<;>cases Zlv (Zbm t b) (Zbm t a)<;>rfl
 rw[Zaq he];have:(errR t a !=0)=true:=by simpa using he
 rw[this];rfl
end
end Go.Sh
