/-Part of the proof. -/
import Derived.Test.YtlajapegdomhfaaGreatSynthListsSh
import Derived.Test.YtlajapegdomhfaaGreatSynthListsRd
import Derived.KernelRfl
set_option linter.all false
namespace Go.Sh
open Go Go.Eng
theorem ZaA {x:Int}(h: -9223372036854775808<=x)(h2:x<=9223372036854775807):w64 x=x:=by
 unfold w64 IntKind.wrap;simp only[IntKind.bits,IntKind.signed];by_cases h0:0<=x
 ·have:x%(2 ^ 64:Int)=x:=Int.emod_eq_of_lt h0 (by omega);simp only[this];rw[Zai];simp;omega
 have:x%(2 ^ 64:Int)=x+2 ^ 64:=by
  rw[←Int.add_emod_right];exact Int.emod_eq_of_lt (by omega) (by omega)
 simp only[this];rw[Zaj]
 ·omega
 simp;omega
theorem ZqO {σ ρ:Type}(body:σ->Option (σ⊕ρ))(m:Nat)(x:σ):ZaH body (m+1) x=match body x with
  |none=>none
  |some (.inl y)=>ZaH body m y
  |some (.inr r)=>some r:=rfl
theorem ZbV {σ ρ:Type}{body:σ->Option (σ⊕ρ)}{m:Nat}{x y:σ}(h:body x=some (.inl y)):ZaH body (m+1) x=ZaH body m y:=by rw[ZqO,h]
theorem Za9 {σ ρ:Type}{body:σ->Option (σ⊕ρ)}{m:Nat}{x:σ}{r:ρ}(h:body x=some (.inr r)):ZaH body (m+1) x=some r:=by rw[ZqO,h]
theorem ZbX {σ ρ:Type}{body:σ->Option (σ⊕ρ)}(I:σ->Prop)(μ:σ->Nat)(Post:ρ->Prop)
  (step:∀x,I x->(∃y,body x=some (.inl y)/\I y/\μ y<μ x)∨(∃r,body x=some (.inr r)/\Post r)):∀(N:Nat) (x:σ),I x->μ x<N->∃r,ZaH body N x=some r/\Post r
 |0,x,_,h=>by omega
 |N+1,x,hI,h=>by
  rcases step x hI with⟨y,h1,h2,h3⟩|⟨r,h1,h2⟩
  ·rw[ZbV h1];exact ZbX I μ Post step N y h2 (by omega)
  exact⟨r,by rw[Za9 h1],h2⟩
theorem Zke {α:Type}(l:List α)(k:Nat):idx l (k:Int)=l[k]?:=by
 unfold idx;rw[Zaj (by omega)];rfl
theorem ZqP {α:Type}{l:List α}{i:Int}(h0:0<=i)(h:i.toNat<l.length):idx l i=some l[i.toNat]:=by
 unfold idx;rw[Zaj h0];exact ZE h
theorem Zdq {a b:Int}(h:b≠0):remI a b=some (a.tmod b):=by unfold remI;rw[Zai h]
theorem Zi0 {k:IntKind}{a b:Int}(h:b≠0):quoI k a b=some (k.wrap (a.tdiv b)):=by unfold quoI;rw[Zai h]
theorem Zmh {α:Type}{l:List α}{k:Nat}(h:k<l.length):l.drop k=l[k]::l.drop (k+1):=List.drop_eq_getElem_cons h
theorem Zri {a b:Int}(hb:0<b):(a.tmod b+b).tmod b=a%b:=by
 have h1:0<=a.tmod b+b:=by have:=Int.lt_tmod_of_pos a hb;omega
 rw[Zn h1,Int.add_emod_right];rw[Int.tmod_eq_emod];split
 ·simp
 have:(b.natAbs:Int)=b:=by omega
 rw[this];simp
theorem Ztb {α ρ:Type}{l:List α}{p:α->Bool}{body:Int->Option (Int⊕ρ)}{bad fin:ρ}(hstep:∀(k:Nat) (h:k<l.length),body (k:Int)=if p l[k]=true then some (.inl ((k+1:Nat):Int))else some (.inr bad))
  (hend:body (l.length:Int)=some (.inr fin)):∀(n N k:Nat),l.length-k=n->k<=l.length->n<N->ZaH body N (k:Int)=some (if(l.drop k).all p then fin else bad):=by
 intro n;induction n with
 |zero=>
  intro N k hn hk hN;have:k=l.length:=by omega
  subst this;cases N with
  |zero=>omega
  |succ N=>rw[Za9 hend];simp
 |succ n ih=>
  intro N k hn hk hN;cases N with
  |zero=>omega
  |succ N=>
   have hlt:k<l.length:=by omega
   rw[Zmh hlt,List.all_cons];by_cases hp:p l[k]=true
   ·rw[ZbV (by rw[hstep k hlt,Zaj hp]),ih N (k+1) (by omega) (by omega) (by omega)];simp[hp]
   rw[Za9 (by rw[hstep k hlt,Zai hp])];simp[hp]
theorem Zpt {ρ:Type}{q:Nat->Bool}{P:Nat}{body:Int->Option (Int⊕ρ)}{bad:ρ}{good:Nat->ρ}(hstep:∀k:Nat,k<P->body (k:Int)=if q k=true then some (.inr (good k))else some (.inl ((k+1:Nat):Int)))
  (hend:body (P:Int)=some (.inr bad)):∀(n N k:Nat),P-k=n->k<=P->n<N->ZaH body N (k:Int)=some (match(List.range' k n).find? q with|some j=>good j|none=>bad):=by
 intro n;induction n with
 |zero=>
  intro N k hn hk hN;have:k=P:=by omega
  subst this;cases N with
  |zero=>omega
  |succ N=>rw[Za9 hend];simp
 |succ n ih=>
  intro N k hn hk hN;cases N with
  |zero=>omega
  |succ N=>
   have hlt:k<P:=by omega
   rw[Z0,Zv];by_cases hp:q k=true
   ·rw[Za9 (by rw[hstep k hlt,Zaj hp])];simp[hp]
   rw[ZbV (by rw[hstep k hlt,Zai hp]),ih N (k+1) (by omega) (by omega) (by omega)];simp[hp]
end Go.Sh

namespace Go.Sh
open Go Go.Eng
def VSpan (s:ZaG):Prop:=1<=s.Period/\s.Period<=960/\0<=s.From/\s.From<s.Period/\1<=s.Long/\s.Long<=s.Period
instance (s:ZaG):Decidable (VSpan s):=by unfold VSpan;infer_instance
theorem Zf5 (N:Nat)(s:ZaG):Zec N s=some (if VSpan s then 0 else 330):=by
 unfold Zec;by_cases h:VSpan s
 ·rw[Zaj h];unfold VSpan at h;rw[Zai (by simp;omega),Zai (by simp;omega)]
 rw[Zai h];unfold VSpan at h;by_cases h1:((decide (s.Period<1))||((decide (s.Period>960))||((decide (s.From<0))||(decide (s.From≥s.Period)))))=true
 ·rw[Zaj h1]
 rw[Zai h1,Zaj];simp at h1⊢;omega
theorem Zp7 (N:Nat){a b:Int}(hb:0<b)(hb2:b<=1000000):ZiH N a b=some (a%b):=by
 unfold ZiH;have h1:=Int.lt_tmod_of_pos a hb;have h2:=Int.tmod_lt_of_pos a hb;rw[Zdq (by omega),Z9,ZaA (by omega) (by omega),Zdq (by omega),Z9,Zri hb]
theorem ZjR (N:Nat){a b:Int}(hb:0<b)(hb2:b<=1000000):Zev N a b=some (a%b):=by
 unfold Zev;have h1:=Int.lt_tmod_of_pos a hb;have h2:=Int.tmod_lt_of_pos a hb;have h3:=Zri (a:=a) hb;rw[Zdq (by omega),Z9];by_cases h:a.tmod b<0
 ·rw[Zaj (by simpa using h),Z9,ZaA (by omega) (by omega)];rw[Int.tmod_eq_of_lt (by omega) (by omega)]at h3;rw[h3]
 rw[Zai (by simpa using h),Z9];rw[←h3,show a.tmod b+b=a.tmod b+b*1 by omega];have e:(a.tmod b+b).tmod b=(a.tmod b+b)%b:=Zn (by omega);rw[Int.mul_one,e,Int.add_emod_right];rw[Int.emod_eq_of_lt (by omega) (by omega)]
theorem ZnI (M:Nat):∀(b N a:Nat),b<N->ZaH (λx:Int×Int=>Zfz M x.1 x.2) N ((a:Int),(b:Int))=some (Nat.gcd a b:Int):=by
 intro b;induction b using Nat.strongRecOn with
 |_ b ih=>
  intro N a hN;cases N with
  |zero=>omega
  |succ N=>
   by_cases hb:b=0
   ·subst hb;rw[Za9 (r:=(a:Int))]
    ·simp
    simp[Zfz]
   have hlt:=Nat.mod_lt a (Nat.pos_of_ne_zero hb);rw[ZbV (y:=((b:Int),((a%b:Nat):Int)))]
   ·rw[ih (a%b) hlt N b (by omega)];rw[Nat.gcd_comm a b,Nat.gcd_rec b a,Nat.gcd_comm (a%b) b]
   simp only[Zfz];rw[Zaj (by simp;omega),Zdq (by omega),Z9,Zn (by omega)];rfl
theorem ZkY {N:Nat}{a b:Int}(ha:0<=a)(hb:0<=b)(hN:b.toNat<N):ZgW N a b=some (Nat.gcd a.toNat b.toNat:Int):=by
 unfold ZgW;have:=ZnI N b.toNat N a.toNat hN;rw[Zp ha,Zp hb]at this;rw[this];rfl
theorem ZeY {a d:Int}(hd:0<d)(ha:0<=a):a.tmod d=0↔d.toNat∣a.toNat:=by
 rw[Zn ha];constructor
 ·intro h;have h1:d∣a:=Int.dvd_of_emod_eq_zero h;rw[←Zp ha,←Zp (show 0<=d by omega)]at h1;exact Int.natCast_dvd_natCast.1 h1
 intro h;have:((d.toNat:Nat):Int)∣((a.toNat:Nat):Int):=Int.natCast_dvd_natCast.2 h;rw[Zp ha,Zp (by omega)]at this;exact Int.emod_eq_zero_of_dvd this
theorem Zqg (M:Nat){a b:Int}(ha:1<=a)(hb:1<=b)(ha2:a<=1000000):∀(d:Nat) (N:Nat),d<N->(d:Int)<=a->(∀e:Nat,d<e->¬(e∣a.toNat/\e∣b.toNat))→
  ∃r,ZaH (λx:Int=>ZfU M a b x) N (d:Int)=some r/\(match r with|.inl _=>(1:Int)|.inr p=>p)=(Nat.gcd a.toNat b.toNat:Int):=by
 intro d;induction d with
 |zero=>
  intro N hN _ hall;exfalso;exact hall 1 (by omega) ⟨Nat.one_dvd _,Nat.one_dvd _⟩
 |succ d ih=>
  intro N hN hle hall;cases N with
  |zero=>omega
  |succ N=>
   have hgpos:0<Nat.gcd a.toNat b.toNat:=Nat.gcd_pos_of_pos_left _ (by omega);have hgle:Nat.gcd a.toNat b.toNat<=d+1:=by
    rcases Nat.lt_or_ge (d+1) (Nat.gcd a.toNat b.toNat)with h|h
    ·exact absurd ⟨Nat.gcd_dvd_left _ _,Nat.gcd_dvd_right _ _⟩ (hall _ h)
    exact h
   by_cases h1:d=0
   ·subst h1;refine⟨.inl (),Za9 (by simp[ZfU]),?_⟩;simp only;omega
   have hd1:((d+1:Nat):Int)>1:=by omega
   by_cases h2:(d+1)∣a.toNat/\(d+1)∣b.toNat
   ·refine⟨.inr ((d+1:Nat):Int),Za9 ?_,?_⟩
    ·simp only[ZfU];rw[Zaj (by simpa using hd1),Zdq (by omega),Z9,Zaj,Zdq (by omega),Z9]
     ·simp only[Z9];rw[Zaj];simp only[beq_iff_eq];exact(ZeY (by omega) (by omega)).2 (by simpa using h2.2)
     simp only[beq_iff_eq];exact(ZeY (by omega) (by omega)).2 (by simpa using h2.1)
    simp only;have:d+1∣Nat.gcd a.toNat b.toNat:=Nat.dvd_gcd h2.1 h2.2;have:=Nat.le_of_dvd hgpos this;omega
   rw[ZbV (y:=(d:Int))]
   ·refine ih N (by omega) (by omega) λe he hd=>?_
    by_cases h3:e=d+1
    ·subst h3;exact h2 hd
    exact hall e (by omega) hd
   simp only[ZfU];rw[Zaj (by simpa using hd1),Zdq (by omega),Z9];have hiff1:=ZeY (a:=a) (d:=((d+1:Nat):Int)) (by omega) (by omega);have hiff2:=ZeY (a:=b) (d:=((d+1:Nat):Int)) (by omega) (by omega);simp only[Zo]at hiff1 hiff2;by_cases h4:a.tmod ((d+1:Nat):Int)=0
   ·rw[Zaj (by simpa using h4),Zdq (by omega),Z9,Z9,Zai,ZaA (by omega) (by omega)]
    ·congr 2;omega
    simp only[beq_iff_eq];intro h5;exact h2 ⟨hiff1.1 h4,hiff2.1 h5⟩
   rw[Zai (by simpa using h4),Z9,Zai (by simp),ZaA (by omega) (by omega)]
   congr 2;omega
theorem ZsF {N:Nat}{a b:Int}(ha:1<=a)(hb:1<=b)(ha2:a<=1000000)(hN:a.toNat<N):ZlR N a b=some (Nat.gcd a.toNat b.toNat:Int):=by
 unfold ZlR;obtain⟨r,h1,h2⟩:=Zqg N ha hb ha2 a.toNat N hN (by omega) (λe he hd=>by
  have:=Nat.le_of_dvd (by omega) hd.1;omega)
 rw[Zp (by omega)]at h1;rw[h1,Z9,←h2];cases r<;>rfl
def gP (a b:ZaG):Int:=(Nat.gcd a.Period.toNat b.Period.toNat:Int)
theorem Zuv {a b:ZaG}(ha:1<=a.Period):0<gP a b:=by
 have:0<Nat.gcd a.Period.toNat b.Period.toNat:=Nat.gcd_pos_of_pos_left _ (by omega);unfold gP;omega
theorem Zy6 {a b:ZaG}(ha:1<=a.Period):gP a b<=a.Period:=by
 have:=Nat.le_of_dvd (by omega:0<a.Period.toNat) (Nat.gcd_dvd_left a.Period.toNat b.Period.toNat);unfold gP;omega
def SepD (a b:ZaG)(d:Int):Prop:=a.Long<=d%gP a b/\d%gP a b<=gP a b-b.Long
instance (a b:ZaG) (d:Int):Decidable (SepD a b d):=by unfold SepD;infer_instance
theorem Zv6 {al bl d g:Int}(hg:0<g)(ha:1<=al)(hb:1<=bl):(∀x,1-bl<=x->x<al->(d-x)%g≠0)↔(al<=d%g/\d%g<=g-bl):=by
 have h0:=Int.emod_nonneg d (show g≠0 by omega);have h1:=Int.emod_lt_of_pos d hg;have hd:=Int.mul_ediv_add_emod d g;constructor
 ·intro h;constructor
  ·rcases Int.lt_or_le (d%g) al with hlt|hle
   ·exfalso;refine h (d%g) (by omega) hlt ?_;have:d-d%g=g*(d/g):=by omega
    rw[this];exact Int.mul_emod_right _ _
   exact hle
  rcases Int.lt_or_le (g-bl) (d%g)with hlt|hle
  ·exfalso;refine h (d%g-g) (by omega) (by omega) ?_;have:d-(d%g-g)=g*(d/g+1):=by rw[Int.mul_add];omega
   rw[this];exact Int.mul_emod_right _ _
  exact hle
 rintro⟨h2,h3⟩ x hx1 hx2 hx;obtain⟨q,hq⟩:=Int.dvd_of_emod_eq_zero hx;have e:d%g-x=g*(q-d/g):=by rw[Int.mul_sub];omega
 generalize q-d/g=k at e;rcases Int.lt_trichotomy k 0 with hk|hk|hk
 ·have:g*k<=g*(-1):=Int.mul_le_mul_of_nonneg_left (by omega) (by omega);omega
 ·subst hk;omega
 have:g*1<=g*k:=Int.mul_le_mul_of_nonneg_left (by omega) (by omega);omega
end Go.Sh

namespace Go.Sh
open Go Go.Eng
theorem VSpan.bounds {s:ZaG}(h:VSpan s):1<=s.Period/\s.Period<=960/\0<=s.From/\s.From<s.Period/\1<=s.Long/\s.Long<=s.Period:=h
theorem Zy7 (a b:ZaG):gP a b=gP b a:=by unfold gP;rw[Nat.gcd_comm]
theorem ZmO {N:Nat}(hN:2000<=N){a b:ZaG}(ha:1<=a.Period)(ha2:a.Period<=960)(hb:1<=b.Period)(hb2:b.Period<=960)(haf:0<=a.From)(haf2:a.From<=960)(hbf:0<=b.From)(hbf2:b.From<=960)
  (hal:1<=a.Long) (hal2:a.Long<=960) (hbl:1<=b.Long) (hbl2:b.Long<=960):Zeu N a b=some (decide (SepD a b (b.From-a.From))):=by
 unfold Zeu;rw[ZsF ha hb (by omega) (by omega),Z9];have hg0:0<gP a b:=Zuv ha;have hg1:gP a b<=a.Period:=Zy6 ha;have key:∀(n:Nat) (M:Nat) (x:Int),(a.Long-x).toNat=n->1-b.Long<=x->n<M->(∀y,1-b.Long<=y->y<x->(b.From-a.From-y)%gP a b≠0)→
   ∃r,ZaH (λx:Int=>Zcz N a b (gP a b) x) M x=some r/\(match r with|.inl _=>true|.inr p=>p)=decide (SepD a b (b.From-a.From)):=by
  intro n;induction n with
  |zero=>
   intro M x hn hx hM hall;cases M with
   |zero=>omega
   |succ M=>
    refine⟨.inl (),Za9 (by simp only[Zcz];rw[Zai (by simp;omega)]),?_⟩;symm;simp only[Zag];refine(Zv6 hg0 hal hbl).1 λy h1 h2=>hall y h1 (by omega)
  |succ n ih=>
   intro M x hn hx hM hall;cases M with
   |zero=>omega
   |succ M=>
    have hlt:x<a.Long:=by omega
    have e1:w64 (b.From-a.From)=b.From-a.From:=ZaA (by omega) (by omega);have e2:w64 (b.From-a.From-x)=b.From-a.From-x:=ZaA (by omega) (by omega);have hbody:Zcz N a b (gP a b) x=if((b.From-a.From-x)%gP a b==0)=true then some (.inr (.inr false))else some (.inl (w64 (x+1))):=by
     simp only[Zcz];rw[Zaj (by simpa using hlt),e1,e2,ZjR N hg0 (by omega),Z9]
    by_cases h0:(b.From-a.From-x)%gP a b=0
    ·refine⟨.inr false,Za9 (by rw[hbody,Zaj (by simpa using h0)]),?_⟩;symm;simp only[decide_eq_false_iff_not];intro hs;exact(Zv6 hg0 hal hbl).2 hs x hx hlt h0
    rw[ZbV (y:=x+1) (by rw[hbody,Zai (by simpa using h0),ZaA (by omega) (by omega)])];refine ih M (x+1) (by omega) (by omega) (by omega) λy h1 h2=>?_
    by_cases h3:y=x
    ·subst h3;exact h0
    exact hall y h1 (by omega)
 rw[ZaA (by omega) (by omega)];obtain⟨r,h1,h2⟩:=key (a.Long-(1-b.Long)).toNat N (1-b.Long) rfl (Int.le_refl _) (by omega) (λy h1 h2=>by omega);show(ZaH (λx:Int=>Zcz N a b (gP a b) x) N (1-b.Long)).bind _=_;rw[h1,Z9,←h2];cases r<;>rfl
theorem VSpan.separate {N:Nat}(hN:2000<=N){a b:ZaG}(ha:VSpan a)(hb:VSpan b):Zeu N a b=some (decide (SepD a b (b.From-a.From))):=by
 obtain⟨a1,a2,a3,a4,a5,a6⟩:=ha;obtain⟨b1,b2,b3,b4,b5,b6⟩:=hb;exact ZmO hN a1 a2 b1 b2 a3 (by omega) b3 (by omega) a5 (by omega) b5 (by omega)
theorem ZoK {N:Nat}(hN:2000<=N){a b:ZaG}(ha:VSpan a)(hb:VSpan b):Zhw N a b=some (a.Long,gP a b-b.Long,gP a b):=by
 obtain⟨a1,a2,a3,a4,a5,a6⟩:=ha;obtain⟨b1,b2,b3,b4,b5,b6⟩:=hb;have hg0:0<gP a b:=Zuv a1;have hg1:gP a b<=a.Period:=Zy6 a1;unfold Zhw;rw[ZkY (by omega) (by omega) (by omega),Z9];show some (a.Long,w64 (gP a b-b.Long),gP a b)=_;rw[ZaA (by omega) (by omega)]
theorem ZnK {N:Nat}(hN:2000<=N){a b:ZaG}(ha:VSpan a)(hb:VSpan b):Zgr N a b=some (decide (SepD a b (b.From-a.From))):=by
 have hr:=ZoK hN ha hb;obtain⟨a1,a2,a3,a4,a5,a6⟩:=ha;obtain⟨b1,b2,b3,b4,b5,b6⟩:=hb;have hg0:0<gP a b:=Zuv a1;have hg1:gP a b<=a.Period:=Zy6 a1;unfold Zgr;by_cases h:((a.Period==b.Period)&&((a.From==b.From)&&((a.Long==b.Long)&&true)))=true
 ·rw[Zaj h];simp only[Ze,beq_iff_eq,Zae]at h;symm;simp only[Zac,decide_eq_false_iff_not];unfold SepD;rw[h.2.1,Int.sub_self,Int.zero_emod];omega
 rw[Zai h,hr];simp only[Z9];rw[ZaA (by omega) (by omega),Zp7 N hg0 (by omega)];simp only[Z9,Zac];rw[Zf,decide_eq_true_iff];simp only[Ze,Zag,SepD]
theorem ZnO {N:Nat}(hN:2000<=N)(a b:ZaG):Zgt N a b=some (if VSpan a/\VSpan b then(decide (SepD a b (b.From-a.From)),0)else(false,330)):=by
 unfold Zgt;rw[Zf5,Zf5];simp only[Z9];by_cases ha:VSpan a
 ·by_cases hb:VSpan b
  ·simp only[ha,hb,Zak,and_self,Zaf,Zg,Zah,ZnK hN ha hb,Z9]
  simp[ha,hb]
 simp[ha]
end Go.Sh
namespace Go.Sh
open Go Go.Eng
theorem Zdc {α:Type}{b:Nat}{l m:List α}(h:l.length+m.length<=100000)(hb:b<=100000):appI b l m=some (l++m):=by
 unfold appI;rw[Zaj];have:(l.length+m.length)*b<=100000*100000:=Nat.mul_le_mul h hb;omega
def allV (l:List ZaG):Bool:=l.all λs=>decide (VSpan s)
theorem Zlm {N:Nat}(hN:100<=N)(l:List ZaG):ZeB N l=some (if 32<l.length then 3 else if allV l then 0 else 330):=by
 unfold ZeB;by_cases h:32<l.length
 ·rw[Zaj (by simp;omega),Zaj h]
 rw[Zai (by simp;omega),Zai h];have:=Ztb (l:=l) (p:=λs=>decide (VSpan s)) (body:=λx:Int=>Zdp N l x) (bad:=.inr 330) (fin:=.inl ()) (λk hk=>by
  simp only[Zdp];rw[Zaj (by simpa using hk),Zke,ZE hk,Z9,Zf5,Z9];by_cases hv:VSpan l[k]
  ·simp only[hv,Zak,Zaf,Zg,Zah,decide_true];rw[ZaA (by omega) (by omega)];simp
  simp[hv]) (by simp[Zdp]) l.length N 0 (by omega) (by omega) (by omega)
 rw[show((0:Nat):Int)=0 from rfl]at this;rw[this,Z9,List.drop_zero];have e:(l.all λs=>decide (VSpan s))=allV l:=rfl;rw[e];cases allV l<;>rfl
end Go.Sh
namespace Go.Sh
open Go Go.Eng
def lcmP:List ZaG->Nat
 |[]=>1
 |s::l=>Nat.lcm s.Period.toNat (lcmP l)
theorem Zup:∀{l:List ZaG},(∀s∈l,VSpan s)->0<lcmP l
 |[],_=>by decide
 |s::l,h=>by
  have h1:=(h s (by simp)).bounds;exact Nat.lcm_pos (by omega) (Zup λt ht=>h t (by simp[ht]))
theorem Znv:∀{l:List ZaG} {n:Nat},lcmP l∣n↔∀s∈l,s.Period.toNat∣n
 |[],n=>by simp[lcmP]
 |s::l,n=>by
  simp only[lcmP,List.mem_cons,forall_eq_or_imp];rw[Nat.lcm_dvd_iff,Znv]
theorem ZmM {N:Nat}(hN:2000<=N){ps:List Int}(hps:∀p∈ps,1<=p/\p<=960):∀(n M k:Nat) (m:Nat),ps.length-k=n->k<=ps.length->n<M->1<=m->m<=960->ps.length<=1000→
  ∃r,ZaH (λx:Int×Int=>Zc7 N 960 ps x.1 x.2) M ((m:Int),(k:Int))=some r∧
   (r<=960->r=((ps.drop k).foldl (λa p=>Nat.lcm a p.toNat) m:Nat))/\(960<r->960<(ps.drop k).foldl (λa p=>Nat.lcm a p.toNat) m):=by
 have mono:∀(l:List Int) (a:Nat),(∀p∈l,1<=p)->0<a->a<=l.foldl (λa p=>Nat.lcm a p.toNat) a:=by
  intro l;induction l with
  |nil=>intro a _ _;exact Nat.le_refl _
  |cons p l ih=>
   intro a hp ha;simp only[Zx];have h1:=hp p (by simp);have hpos:0<Nat.lcm a p.toNat:=Nat.lcm_pos ha (by omega);exact Nat.le_trans (Nat.le_of_dvd hpos (Nat.dvd_lcm_left _ _)) (ih _ (λq hq=>hp q (by simp[hq])) hpos)
 intro n;induction n with
 |zero=>
  intro M k m hn hk hM hm hm2 hl;have:k=ps.length:=by omega
  subst this;cases M with
  |zero=>omega
  |succ M=>
   refine⟨(m:Int),Za9 (by simp only[Zc7];rw[Zai (by simp)]),λ_=>?_,λh=>?_⟩
   ·simp
   omega
 |succ n ih=>
  intro M k m hn hk hM hm hm2 hl;cases M with
  |zero=>omega
  |succ M=>
   have hlt:k<ps.length:=by omega
   obtain⟨p1,p2⟩:=hps ps[k] (List.getElem_mem hlt);have hg:0<Nat.gcd m ps[k].toNat:=Nat.gcd_pos_of_pos_left _ (by omega);have hq:(m:Int).tdiv (Nat.gcd m ps[k].toNat:Int)=((m/Nat.gcd m ps[k].toNat:Nat):Int):=by
    rw[Zm (by omega)];rfl
   have hqle:m/Nat.gcd m ps[k].toNat<=m:=Nat.div_le_self _ _;have hmul:((m/Nat.gcd m ps[k].toNat:Nat):Int)*ps[k]=(Nat.lcm m ps[k].toNat:Int):=by
    have e1:ps[k]=(ps[k].toNat:Int):=by omega
    have e2:Nat.lcm m ps[k].toNat=m/Nat.gcd m ps[k].toNat*ps[k].toNat:=by
     rw[Nat.lcm,Nat.mul_comm m,Nat.mul_div_assoc _ (Nat.gcd_dvd_left _ _),Nat.mul_comm]
    rw[e2,Int.natCast_mul,←e1]
   have hlcm:Nat.lcm m ps[k].toNat<=960*960:=by
    have h1:m/Nat.gcd m ps[k].toNat*ps[k].toNat<=960*960:=Nat.mul_le_mul (by omega) (by omega);have e2:Nat.lcm m ps[k].toNat=m/Nat.gcd m ps[k].toNat*ps[k].toNat:=by
     rw[Nat.lcm,Nat.mul_comm m,Nat.mul_div_assoc _ (Nat.gcd_dvd_left _ _),Nat.mul_comm]
    omega
   have hlpos:0<Nat.lcm m ps[k].toNat:=Nat.lcm_pos (by omega) (by omega);have hbody:Zc7 N 960 ps (m:Int) (k:Int)=if 960<Nat.lcm m ps[k].toNat then some (.inr (Nat.lcm m ps[k].toNat:Int))else some (.inl ((Nat.lcm m ps[k].toNat:Int),((k+1:Nat):Int))):=by
    simp only[Zc7];rw[Zaj (by simpa using hlt),Zke,ZE hlt,Z9,ZkY (by omega) (by omega) (by omega),Z9,Zo,Zi0 (by omega),Z9,hq];have hq0:(0:Int)<=((m/Nat.gcd m ps[k].toNat:Nat):Int):=Int.natCast_nonneg _;have hq1:((m/Nat.gcd m ps[k].toNat:Nat):Int)<=960:=Int.ofNat_le.2 (Nat.le_trans hqle hm2);have e3:IntKind.i64.wrap ((m/Nat.gcd m ps[k].toNat:Nat):Int)=((m/Nat.gcd m ps[k].toNat:Nat):Int):=ZaA (Int.le_trans (by decide) hq0) (Int.le_trans hq1 (by decide));rw[e3,hmul,ZaA (by omega) (by omega),ZaA (by omega) (by omega)];by_cases hc:960<Nat.lcm m ps[k].toNat
    ·rw[Zaj (by simp;omega),Zaj hc]
    rw[Zai (by simp;omega),Zai hc];simp
   rw[Zmh hlt,Zx];by_cases hc:960<Nat.lcm m ps[k].toNat
   ·refine⟨(Nat.lcm m ps[k].toNat:Int),Za9 (by rw[hbody,Zaj hc]),λh=>?_,λ_=>?_⟩
    ·omega
    exact Nat.lt_of_lt_of_le hc (mono _ _ (λq hq=>(hps q (List.mem_of_mem_drop hq)).1) hlpos)
   rw[ZbV (by rw[hbody,Zai hc])];exact ih M (k+1) _ (by omega) (by omega) (by omega) (by omega) (by omega) hl
theorem ZqV:∀(l:List ZaG) (m:Nat),(l.map ZaG.Period).foldl (λa p=>Nat.lcm a p.toNat) m=Nat.lcm m (lcmP l)
 |[],m=>by simp[lcmP,Nat.lcm_one_right]
 |s::l,m=>by simp only[ZV,Zx,lcmP];rw[ZqV l,Nat.lcm_assoc]
def ZuB (l:List ZaG):Int×Int:=if 32<l.length then(0,3)else if allV l=true then(if lcmP l<=960 then((lcmP l:Int),0)else(0,6))else(0,330)
theorem ZuJ {l:List ZaG}(h:allV l=true):∀s∈l,VSpan s:=by
 unfold allV at h;rw[Zq]at h;exact λs hs=>by simpa using h s hs
theorem ZnM {N:Nat}(hN:2000<=N)(l:List ZaG):Zgs N l=some (ZuB l):=by
 unfold Zgs ZuB;rw[Zlm (by omega)];simp only[Z9];by_cases h:32<l.length
 ·simp[h]
 by_cases hv:allV l=true
 ·simp only[h,hv,Zak,Zah,Zaf,Zg];have hmk:Zhe 8 (l.length:Int) (l.length:Int) (0:Int)=some (List.replicate l.length 0):=by
   unfold Zhe;rw[Zaj (by omega)];simp
  rw[hmk,Z9];have hloop:∀(n M k:Nat),l.length-k=n->k<=l.length->n<M->ZaH (λx:Int×List Int=>ZeC N l x.1 x.2) M ((k:Int),(l.map ZaG.Period).take k++List.replicate (l.length-k) 0)=some (l.map ZaG.Period):=by
   intro n;induction n with
   |zero=>
    intro M k hn hk hM;have:k=l.length:=by omega
    subst this;cases M with
    |zero=>omega
    |succ M=>
     refine Za9 ?_;simp only[ZeC];rw[Zai (by simp)];simp[Z5]
   |succ n ih=>
    intro M k hn hk hM;cases M with
    |zero=>omega
    |succ M=>
     have hlt:k<l.length:=by omega
     have hc:=ih M (k+1) (by omega) (by omega) (by omega);rw[ZbV (y:=(((k+1:Nat):Int),(l.map ZaG.Period).take (k+1)++List.replicate (l.length-(k+1)) 0)),hc];simp only[ZeC];have hlen:((l.map ZaG.Period).take k++List.replicate (l.length-k) 0).length=l.length:=by simp;omega
     rw[Zaj (by simpa using hlt),Zke,ZE hlt,Z9,Zke,ZE (by omega),Z9,ZaA (by omega) (by omega)];have hset:List.set ((l.map ZaG.Period).take k++List.replicate (l.length-k) 0) k l[k].Period=(l.map ZaG.Period).take (k+1)++List.replicate (l.length-(k+1)) 0:=by
      rw[Z3 _ _ (by simp;omega)];have e1:k-((l.map ZaG.Period).take k).length=0:=by simp;omega
      rw[e1,show l.length-k=(l.length-(k+1))+1 by omega,List.replicate_succ,List.set_cons_zero,Z6 (by simpa using hlt)];simp
     simp only[Zo,hset];rfl
  have hc:=hloop l.length N 0 (by omega) (by omega) (by omega);simp only[List.take_zero,ZZ,Nat.sub_zero]at hc;rw[show((0:Nat):Int)=0 from rfl]at hc;rw[hc,Z9];have hVl:=ZuJ hv;obtain⟨r,h1,h2,h3⟩:=ZmM hN (ps:=l.map ZaG.Period) (λp hp=>by
   obtain⟨s,hs,rfl⟩:=List.mem_map.1 hp;have:=(hVl s hs).bounds;omega) l.length N 0 1 (by simp) (by omega) (by omega) (by omega) (by omega) (by simp;omega)
  rw[List.drop_zero,ZqV,Nat.lcm_one_left]at h2 h3;have hf:Zhx N 960 (l.map ZaG.Period)=some r:=by
   unfold Zhx;have h1':ZaH (λx:Int×Int=>Zc7 N 960 (l.map ZaG.Period) x.1 x.2) N (1,0)=some r:=h1;rw[h1',Z9]
  rw[hf,Z9];by_cases hc2:960<r
  ·rw[Zaj (by simpa using hc2),Zai (by have:=h3 hc2;omega)]
  have:=h2 (by omega);rw[Zai (by simpa using hc2),Zaj (by omega),this]
 simp[h,hv]
end Go.Sh
namespace Go.Sh
open Go Go.Eng
theorem Zxk {d g:Int}(hg:0<g):(-d)%g=if d%g=0 then 0 else g-d%g:=by
 have h0:=Int.emod_nonneg d (show g≠0 by omega);have h1:=Int.emod_lt_of_pos d hg;have hd:=Int.mul_ediv_add_emod d g;split
 ·rename_i h;have: -d=g*(-(d/g)):=by rw[Int.mul_neg];omega
  rw[this];exact Int.mul_emod_right _ _
 rename_i h;have: -d=(g-d%g)+g*(-(d/g)-1):=by rw[Int.mul_sub,Int.mul_neg];omega
 rw[this,Int.add_mul_emod_self_left];exact Int.emod_eq_of_lt (by omega) (by omega)
theorem Zw7 {a b:ZaG}(ha:VSpan a)(hb:VSpan b):SepD b a (a.From-b.From)↔SepD a b (b.From-a.From):=by
 obtain⟨a1,a2,a3,a4,a5,a6⟩:=ha.bounds;obtain⟨b1,b2,b3,b4,b5,b6⟩:=hb.bounds;have hg0:0<gP a b:=Zuv a1;have h0:=Int.emod_nonneg (b.From-a.From) (show gP a b≠0 by omega);have h1:=Int.emod_lt_of_pos (b.From-a.From) hg0;unfold SepD;rw[Zy7 b a,show a.From-b.From= -(b.From-a.From)by omega,Zxk hg0];split<;>omega
end Go.Sh
namespace Go.Sh
open Go Go.Eng
def allB (n:Nat)(p:Nat->Bool):Bool:=(List.range n).all p
theorem ZbD {n:Nat}{p:Nat->Bool}:allB n p=true↔∀k,k<n->p k=true:=by simp[allB]
theorem ZkF {n:Nat}{p q:Nat->Bool}(h:∀k,k<n->p k=q k):allB n p=allB n q:=by
 rw[Zf,ZbD,ZbD];exact⟨λhp k hk=>by rw[←h k hk];exact hp k hk,λhp k hk=>by rw[h k hk];exact hp k hk⟩
theorem ZxF (n:Nat)(p q:Nat->Bool):allB n (λk=>p k&&q k)=(allB n p&&allB n q):=by
 rw[Zf,Ze,ZbD,ZbD,ZbD];simp only[Ze];exact⟨λh=>⟨λk hk=>(h k hk).1,λk hk=>(h k hk).2⟩,λh k hk=>⟨h.1 k hk,h.2 k hk⟩⟩
theorem Za7 {ρ:Type}{n:Nat}{p:Nat->Bool}{body:Int->Option (Int⊕ρ)}{bad fin:ρ}(hstep:∀k:Nat,k<n->body (k:Int)=if p k=true then some (.inl ((k+1:Nat):Int))else some (.inr bad))
  (hend:body (n:Int)=some (.inr fin)) {N:Nat} (hN:n<N):ZaH body N 0=some (if allB n p then fin else bad):=by
 have key:∀(m N k:Nat),n-k=m->k<=n->m<N->ZaH body N (k:Int)=some (if(List.range' k m).all p then fin else bad):=by
  intro m;induction m with
  |zero=>
   intro N k h1 h2 h3;obtain rfl:k=n:=by omega
   cases N with
   |zero=>omega
   |succ N=>rw[Za9 hend];rfl
  |succ m ih=>
   intro N k h1 h2 h3;cases N with
   |zero=>omega
   |succ N=>
    rw[Z0,List.all_cons];by_cases hp:p k=true
    ·rw[ZbV (by rw[hstep k (by omega),Zaj hp]),ih N (k+1) (by omega) (by omega) (by omega),hp,Zk]
    rw[Za9 (by rw[hstep k (by omega),Zai hp])];simp[hp]
 have:=key n N 0 (by omega) (by omega) hN;rw[←Z1]at this;exact this
theorem Zja {β ρ:Type}{n:Nat}{p:Nat->Bool}{f:β->Nat->β}{body:Int×β->Option ((Int×β)⊕ρ)}{bad:ρ}{fin:β->ρ}(I:Nat->β->Prop)
  (hstep:∀k b,k<n->I k b->body ((k:Int),b)=if p k=true then some (.inl (((k+1:Nat):Int),f b k))else some (.inr bad)) (hI:∀k b,k<n->I k b->p k=true->I (k+1) (f b k))
  (hend:∀b,I n b->body ((n:Int),b)=some (.inr (fin b))) {N:Nat} (hN:n<N) {b0:β} (h0:I 0 b0):ZaH body N (0,b0)=some (if allB n p then fin ((List.range n).foldl f b0)else bad)/\(allB n p=true->I n ((List.range n).foldl f b0)):=by
 have key:∀(m N k:Nat) (b:β),n-k=m->k<=n->m<N->I k b->ZaH body N ((k:Int),b)=some (if(List.range' k m).all p then fin ((List.range' k m).foldl f b)else bad)/\((List.range' k m).all p=true->I n ((List.range' k m).foldl f b)):=by
  intro m;induction m with
  |zero=>
   intro N k b h1 h2 h3 hb;obtain rfl:k=n:=by omega
   cases N with
   |zero=>omega
   |succ N=>exact⟨by rw[Za9 (hend b hb)];rfl,λ_=>hb⟩
  |succ m ih=>
   intro N k b h1 h2 h3 hb;cases N with
   |zero=>omega
   |succ N=>
    rw[Z0,List.all_cons,Zx];by_cases hp:p k=true
    ·obtain⟨i1,i2⟩:=ih N (k+1) (f b k) (by omega) (by omega) (by omega) (hI k b (by omega) hb hp);rw[hp,Zk];exact⟨by rw[ZbV (by rw[hstep k b (by omega) hb,Zaj hp]),i1],i2⟩
    refine⟨?_,λh=>?_⟩
    ·rw[Za9 (by rw[hstep k b (by omega) hb,Zai hp])];simp[hp]
    simp[hp]at h
 obtain⟨h1,h2⟩:=key n N 0 b0 (by omega) (by omega) hN h0;rw[←Z1]at h1 h2;exact⟨h1,h2⟩
theorem ZdM {β ρ:Type}{n:Nat}{f:β->Nat->β}{body:Int×β->Option ((Int×β)⊕ρ)}{fin:β->ρ}(I:Nat->β->Prop)
  (hstep:∀k b,k<n->I k b->body ((k:Int),b)=some (.inl (((k+1:Nat):Int),f b k))) (hI:∀k b,k<n->I k b->I (k+1) (f b k))
  (hend:∀b,I n b->body ((n:Int),b)=some (.inr (fin b))) {N:Nat} (hN:n<N) {b0:β} (h0:I 0 b0):ZaH body N (0,b0)=some (fin ((List.range n).foldl f b0))/\I n ((List.range n).foldl f b0):=by
 have key:∀(m N k:Nat) (b:β),n-k=m->k<=n->m<N->I k b->ZaH body N ((k:Int),b)=some (fin ((List.range' k m).foldl f b))/\I n ((List.range' k m).foldl f b):=by
  intro m;induction m with
  |zero=>
   intro N k b h1 h2 h3 hb;obtain rfl:k=n:=by omega
   cases N with
   |zero=>omega
   |succ N=>exact⟨by rw[Za9 (hend b hb)];rfl,hb⟩
  |succ m ih=>
   intro N k b h1 h2 h3 hb;cases N with
   |zero=>omega
   |succ N=>
    obtain⟨i1,i2⟩:=ih N (k+1) (f b k) (by omega) (by omega) (by omega) (hI k b (by omega) hb);exact⟨by rw[ZbV (hstep k b (by omega) hb),i1];rfl,i2⟩
 obtain⟨h1,h2⟩:=key n N 0 b0 (by omega) (by omega) hN h0;rw[←Z1]at h1 h2;exact⟨h1,h2⟩
theorem Zpy {α β:Type}(d:α)(l:List α)(f:β->α->β)(b:β):(List.range l.length).foldl (λb k=>f b (l.getD k d)) b=l.foldl f b:=by
 have h:(List.range l.length).map (λk=>l.getD k d)=l:=ZtR l.length d l rfl rfl
 conv=>rhs;rw[←h]
 rw[List.foldl_map]
theorem ZaB {n:Nat}(h:n<1000000):w64 ((n:Int)+1)=((n+1:Nat):Int):=by rw[ZaA (by omega) (by omega)];omega
theorem Zbj {α:Type}{l:List α}{k:Nat}(h:k<l.length):idx l (k:Int)=some l[k]:=by rw[Zke,ZE h]
theorem ZbL {α:Type}{l:List α}{i:Int}(d:α)(h0:0<=i)(h:i<l.length):idx l i=some (l.getD i.toNat d):=by
 rw[ZqP h0 (by omega)];simp[Zy,ZE (show i.toNat<l.length by omega)]
theorem ZpE {α:Type}[BEq α][LawfulBEq α](l:List α)(x:α):(match(List.range' 0 l.length).find? (λk=>x==l.getD k x)with|some j=>(j:Int)|none=> -1)≥0↔l.contains x=true:=by
 rw[←Z1];cases h:(List.range l.length).find? (λk=>x==l.getD k x)with
 |none=>
  simp only[List.find?_eq_none,ZX]at h;constructor
  ·intro h;exact absurd h (by decide)
  intro hc;rw[Zu]at hc;obtain⟨k,hk,rfl⟩:=List.getElem_of_mem hc;exact absurd (by simp[Zy,hk]) (h k hk)
 |some j=>
  have h1:=List.find?_some h;have h2:=List.mem_of_find?_eq_some h;simp only[ZX]at h2;constructor
  ·intro _;rw[Zu];have:l.getD j x=l[j]:=by simp[Zy,h2]
   rw[this]at h1;rw[eq_of_beq h1];exact List.getElem_mem h2
  intro _;exact Int.natCast_nonneg j
theorem Zf2 {N:Nat}{l:List Bool}(h:l.length<N)(h':l.length<1000)(x:Bool):Zb7 N l x=some (l.contains x):=by
 unfold Zb7 Zdn;have:=Zpt (q:=λk=>x==l.getD k x) (P:=l.length) (body:=λi=>Zb6 N l x i) (bad:=.inl ()) (good:=λk=>.inr (k:Int)) (λk hk=>by
  unfold Zb6;rw[Zaj (by simp;omega),Zbj hk,Z9];have:l.getD k x=l[k]:=by simp[Zy,hk]
  simp only[this];split
  ·rfl
  rw[ZaB (by omega)]) (by unfold Zb6;rw[Zai (by simp)]) l.length N 0 (by omega) (by omega) h
 rw[show((0:Nat):Int)=0 from rfl]at this;rw[this];have hc:=ZpE l x;cases hf:(List.range' 0 l.length).find? (λk=>x==l.getD k x)with
 |none=>
  rw[hf]at hc;have hcf:l.contains x=false:=by
   cases hl:l.contains x with
   |false=>rfl
   |true=>exact absurd (hc.2 hl) (by decide)
  rw[hcf];rfl
 |some j=>
  rw[hf]at hc;have:=hc.1 (Int.natCast_nonneg j);simp only[Z9,this];simp
theorem ZgQ {N:Nat}{l:List Int}(h:l.length<N)(h':l.length<1000)(x:Int):Zcl N l x=some (l.contains x):=by
 unfold Zcl ZdW;have:=Zpt (q:=λk=>x==l.getD k x) (P:=l.length) (body:=λi=>Zck N l x i) (bad:=.inl ()) (good:=λk=>.inr (k:Int)) (λk hk=>by
  unfold Zck;rw[Zaj (by simp;omega),Zbj hk,Z9];have:l.getD k x=l[k]:=by simp[Zy,hk]
  simp only[this];split
  ·rfl
  rw[ZaB (by omega)]) (by unfold Zck;rw[Zai (by simp)]) l.length N 0 (by omega) (by omega) h
 rw[show((0:Nat):Int)=0 from rfl]at this;rw[this];have hc:=ZpE l x;cases hf:(List.range' 0 l.length).find? (λk=>x==l.getD k x)with
 |none=>
  rw[hf]at hc;have hcf:l.contains x=false:=by
   cases hl:l.contains x with
   |false=>rfl
   |true=>exact absurd (hc.2 hl) (by decide)
  rw[hcf];rfl
 |some j=>
  rw[hf]at hc;have:=hc.1 (Int.natCast_nonneg j);simp only[Z9,this];simp
theorem ZiX {N:Nat}{l:List Int}(h:l.length<N)(h':l.length<1000)(x:Int):ZiZ N l x=some (l.contains x):=by
 unfold ZiZ;have:=Za7 (n:=l.length) (p:=λk=>!(l.getD k 0==x)) (body:=λi=>ZiY N l x i) (bad:=.inr true) (fin:=.inl ()) (λk hk=>by
  unfold ZiY;rw[Zaj (by simp;omega),Zbj hk,Z9];have:l.getD k 0=l[k]:=by simp[Zy,hk]
  simp only[this,ZaB (show k<1000000 by omega)];cases l[k]==x<;>rfl) (by unfold ZiY;rw[Zai (by simp)]) h
 rw[this];by_cases hc:l.contains x=true
 ·rw[Zai,hc];rfl;rw[ZbD];rw[Zu]at hc;obtain⟨k,hk,rfl⟩:=List.getElem_of_mem hc;intro h;have:=h k hk;simp[Zy,hk]at this
 rw[Zaj]
 ·simp only[Bool.not_eq_true]at hc;rw[hc];rfl
 rw[ZbD];intro k hk;have hne:l[k]≠x:=λe=>hc (by rw[Zu,←e];exact List.getElem_mem hk)
 simp[Zy,hk,hne]
theorem Zbp {α:Type}{l:List α}{k:Nat}(h:k<l.length)(d:α):l.getD k d=l[k]:=by simp[Zy,h]
end Go.Sh

namespace Go.Sh
open Go Go.Eng
def mkS (p:Int):ZaG:=⟨p,0,1⟩
def perB (p:Int):Bool:=decide (1<=p)&&decide (p<=240)
def lcmL (P:List Int):Nat:=lcmP (P.map mkS)
def perU (P:List Int)(u:Zay):Int:=P.getD u.Stream.toNat 0
def useB (P:List Int)(u:Zay):Bool:=decide (0<=u.Stream/\u.Stream<(P.length:Int)/\0<=u.Port/\u.Port<48/\0<=u.From/\u.From<perU P u/\1<=u.Long/\u.Long<=perU P u)
def Zj0 (p:Zap):Bool:=decide (p.Periods.length<=12)&&decide (p.Uses.length<=192)&&p.Periods.all perB&&p.Uses.all (useB p.Periods)&&decide (lcmL p.Periods<=960)
theorem Zi7 {p:Int}:perB p=true↔1<=p/\p<=240:=by simp[perB]
theorem ZuI {P:List Int}(h:P.all perB=true):allV (P.map mkS)=true:=by
 unfold allV;rw[Zq]at h⊢;intro s hs;obtain⟨p,hp,rfl⟩:=List.mem_map.1 hs;have:=Zi7.1 (h p hp);rw[Zag];show 1<=p/\p<=960/\(0:Int)<=0/\(0:Int)<p/\(1:Int)<=1/\(1:Int)<=p;omega
theorem ZrB {N:Nat}(hN:2000<=N){P:List Int}(hl:P.length<=1000):Zfm N P=some (ZuB (P.map mkS)):=by
 unfold Zfm;have hmk:Zhe 24 (P.length:Int) (P.length:Int) (ZaG.mk 0 0 0)=some (List.replicate P.length (ZaG.mk 0 0 0)):=by
  unfold Zhe;rw[Zaj (by omega)];simp
 rw[hmk,Z9];have hloop:∀(n M k:Nat),P.length-k=n->k<=P.length->n<M->ZaH (λx:Int×List ZaG=>Zgy N P x.1 x.2) M ((k:Int),(P.map mkS).take k++List.replicate (P.length-k) (ZaG.mk 0 0 0))=some (P.map mkS):=by
  intro n;induction n with
  |zero=>
   intro M k hn hk hM;have:k=P.length:=by omega
   subst this;cases M with
   |zero=>omega
   |succ M=>
    refine Za9 ?_;simp only[Zgy];rw[Zai (by simp)];simp[Z5]
  |succ n ih=>
   intro M k hn hk hM;cases M with
   |zero=>omega
   |succ M=>
    have hlt:k<P.length:=by omega
    have hc:=ih M (k+1) (by omega) (by omega) (by omega);rw[ZbV (y:=(((k+1:Nat):Int),(P.map mkS).take (k+1)++List.replicate (P.length-(k+1)) (ZaG.mk 0 0 0))),hc];simp only[Zgy];have hlen:((P.map mkS).take k++List.replicate (P.length-k) (ZaG.mk 0 0 0)).length=P.length:=by simp;omega
    rw[Zaj (by simpa using hlt),Zke,ZE hlt,Z9,Zke,ZE (by omega),Z9,ZaA (by omega) (by omega)];have hset:List.set ((P.map mkS).take k++List.replicate (P.length-k) (ZaG.mk 0 0 0)) k (mkS P[k])=(P.map mkS).take (k+1)++List.replicate (P.length-(k+1)) (ZaG.mk 0 0 0):=by
     rw[Z3 _ _ (by simp;omega)];have e1:k-((P.map mkS).take k).length=0:=by simp;omega
     rw[e1,show P.length-k=(P.length-(k+1))+1 by omega,List.replicate_succ,List.set_cons_zero,Z6 (by simpa using hlt)];simp
    simp only[Zo];rw[show(ZaG.mk P[k] 0 1)=mkS P[k]from rfl,hset];rfl
 have hc:=hloop P.length N 0 (by omega) (by omega) (by omega);simp only[List.take_zero,ZZ,Nat.sub_zero]at hc;rw[show((0:Nat):Int)=0 from rfl]at hc;rw[hc,Z9,ZnM hN,Z9]
theorem Zn9 {P:List Int}(h:P.all perB=true):0<lcmL P:=Zup (ZuJ (ZuI h))
theorem Znw {P:List Int}{n:Nat}:lcmL P∣n↔∀p∈P,p.toNat∣n:=by
 unfold lcmL;rw[Znv];simp[mkS]
theorem Zha {N:Nat}(hN:2000<=N){P:List Int}(hl:P.length<=12)(h:P.all perB=true):Zfm N P=some (if lcmL P<=960 then((lcmL P:Int),0)else(0,6)):=by
 rw[ZrB hN (by omega)];unfold ZuB;rw[Zai (by simp;omega),Zaj (ZuI h)];rfl
theorem ZjQ {N:Nat}(hN:2000<=N){P:List Int}(hl:P.length<=12)(h:P.all perB=true):Zg1 N P=some (if lcmL P<=960 then(lcmL P:Int)else 0):=by
 have hp:∀p∈P,1<=p/\p<=240:=λp hp=>Zi7.1 (List.all_eq_true.1 h p hp)
 have inner:∀(j:Nat),1<=j->j<=1000->∀(n M k:Nat) (b:Bool),P.length-k=n->k<=P.length->n<M->ZaH (λx:Bool×Int=>ZhB N P (j:Int) x.1 x.2) M (b,(k:Int))=some (b&&(P.drop k).all (λp=>decide (p.toNat∣j))):=by
  intro j hj1 hj2 n;induction n with
  |zero=>
   intro M k b hn hk hM;have:k=P.length:=by omega
   subst this;cases M with
   |zero=>omega
   |succ M=>rw[Za9 (r:=b) (by simp[ZhB])];simp
  |succ n ih=>
   intro M k b hn hk hM;cases M with
   |zero=>omega
   |succ M=>
    have hlt:k<P.length:=by omega
    have hV:=hp P[k] (List.getElem_mem hlt);have hiff:=ZeY (a:=(j:Int)) (d:=P[k]) (by omega) (by omega);simp only[Zo]at hiff;have hc:=ih M (k+1) (b&&decide (P[k].toNat∣j)) (by omega) (by omega) (by omega);rw[ZbV (y:=(b&&decide (P[k].toNat∣j),((k+1:Nat):Int))),hc,Zmh hlt,List.all_cons,Bool.and_assoc];simp only[ZhB];rw[Zaj (by simpa using hlt)];cases b with
    |false=>simp only[Zg,Zah,Z9,Bool.false_and];rw[ZaA (by omega) (by omega)];rfl
    |true=>
     simp only[Zak,Zk];rw[Zke,ZE hlt,Z9,Zdq (by omega),Z9];by_cases hd:P[k].toNat∣j
     ·rw[Zaj (by simpa using hiff.2 hd),Z9,ZaA (by omega) (by omega)];simp[hd]
     have:¬(j:Int).tmod P[k]=0:=λe=>hd (hiff.1 e)
     rw[Zai (by simpa using this),Z9,ZaA (by omega) (by omega)];simp[hd]
 have step:∀j:Nat,1<=j->j<=960->ZfT N P (j:Int)=if lcmL P∣j then some (.inr (.inr (j:Int)))else some (.inl ((j+1:Nat):Int)):=by
  intro j h1 h2;simp only[ZfT];rw[Zaj (by simp;omega)];have:=inner j h1 (by omega) P.length N 0 true (by omega) (by omega) (by omega);rw[show((0:Nat):Int)=0 from rfl]at this;rw[this,Z9,List.drop_zero,Zk];have e:(P.all (λp=>decide (p.toNat∣j))=true)↔lcmL P∣j:=by
   rw[Znw,Zq];simp
  by_cases hd:lcmL P∣j
  ·rw[Zaj (e.2 hd),Zaj hd]
  rw[Zai (λq=>hd (e.1 q)),Zai hd,ZaA (by omega) (by omega)]
  congr 2
 have hpos:=Zn9 h;have key:∀(n M j:Nat),961-j=n->1<=j->j<=961->n<M->(∀i,1<=i->i<j->¬lcmL P∣i)->∃r,ZaH (λx:Int=>ZfT N P x) M (j:Int)=some r/\(match r with|.inl _=>(0:Int)|.inr p=>p)=if lcmL P<=960 then(lcmL P:Int)else 0:=by
  intro n;induction n with
  |zero=>
   intro M j hn h1 h2 hM hno;obtain rfl:j=961:=by omega
   cases M with
   |zero=>omega
   |succ M=>
    refine⟨.inl (),Za9 (by simp[ZfT]),?_⟩;rw[Zai];intro hle;exact hno (lcmL P) (by omega) (by omega) (Nat.dvd_refl _)
  |succ n ih=>
   intro M j hn h1 h2 hM hno;cases M with
   |zero=>omega
   |succ M=>
    by_cases hd:lcmL P∣j
    ·refine⟨.inr (j:Int),Za9 (by rw[step j h1 (by omega),Zaj hd]),?_⟩;have hle:=Nat.le_of_dvd (by omega) hd;have:lcmL P=j:=by
      by_cases e:lcmL P=j
      ·exact e
      exact absurd (Nat.dvd_refl _) (hno (lcmL P) (by omega) (by omega))
     rw[Zaj (by omega),this]
    rw[ZbV (by rw[step j h1 (by omega),Zai hd])];refine ih M (j+1) (by omega) (by omega) (by omega) (by omega) λi hi1 hi2=>?_
    by_cases e:i=j
    ·subst e;exact hd
    exact hno i hi1 (by omega)
 unfold Zg1;obtain⟨r,h1,h2⟩:=key 960 N 1 (by omega) (by omega) (by omega) (by omega) (λi h1 h2=>by omega);rw[show((1:Nat):Int)=1 from rfl]at h1;rw[h1,Z9,←h2];cases r<;>rfl
theorem ZeT {α ρ:Type}{l:List α}{p:α->Bool}{body:Int->Option (Int⊕ρ)}{bad fin:ρ}(hstep:∀(k:Nat) (h:k<l.length),body (k:Int)=if p l[k]=true then some (.inl ((k+1:Nat):Int))else some (.inr bad))
  (hend:body (l.length:Int)=some (.inr fin)) {N:Nat} (hN:l.length<N):ZaH body N 0=some (if l.all p=true then fin else bad):=by
 have:=Ztb hstep hend l.length N 0 (by omega) (by omega) hN;rw[show((0:Nat):Int)=0 from rfl]at this;rw[this,List.drop_zero]
theorem Zkd {P:List Int}{u:Zay}(h0:0<=u.Stream)(h1:u.Stream<(P.length:Int)):idx P u.Stream=some (perU P u):=ZbL 0 h0 h1
theorem Zhl {P:List Int}{u:Zay}:useB P u=true↔0<=u.Stream/\u.Stream<(P.length:Int)/\0<=u.Port/\u.Port<48/\0<=u.From/\u.From<perU P u/\1<=u.Long/\u.Long<=perU P u:=by simp[useB]
theorem Zqf {N:Nat}(hN:2000<=N)(p:Zap):ZiM N p=some (Zj0 p):=by
 unfold ZiM Zj0;by_cases h1:p.Periods.length<=12
 ·by_cases h2:p.Uses.length<=192
  ·rw[Zai (by simp;omega)];simp only[h1,h2,decide_true,Zk];rw[ZeT (l:=p.Periods) (p:=perB) (bad:=.inr false) (fin:=.inl ()) (λk hk=>?_) (by simp[ZhP]) (by omega)]
   ·cases hP:p.Periods.all perB with
    |false=>simp
    |true=>
     simp only[Zak,Z9,Zk];rw[ZeT (l:=p.Uses) (p:=useB p.Periods) (bad:=.inr false) (fin:=.inl ()) (λk hk=>?_) (by simp[ZhO]) (by omega)]
     ·cases hU:p.Uses.all (useB p.Periods)with
      |false=>simp
      |true=>
       simp only[Zak,Z9,Zk];rw[ZjQ hN h1 hP,Z9];have:=Zn9 hP;by_cases hc:lcmL p.Periods<=960
       ·rw[Zaj hc];simp[hc];omega
       rw[Zai hc];simp[hc]
     simp only[ZhO];rw[Zaj (by simpa using hk),Zbj hk,Z9];have hw:w64 ((k:Int)+1)=((k+1:Nat):Int):=ZaB (by omega);rw[hw];by_cases hc:0<=p.Uses[k].Stream/\p.Uses[k].Stream<(p.Periods.length:Int)/\0<=p.Uses[k].Port/\p.Uses[k].Port<48
     ·obtain⟨c1,c2,c3,c4⟩:=hc;rw[Zai (by simp;omega),Zkd c1 c2];simp only[Z9];by_cases hu:useB p.Periods p.Uses[k]=true
      ·obtain⟨_,_,_,_,u1,u2,u3,u4⟩:=Zhl.1 hu;rw[Zai (by simpa using u1),Zai (by simpa using u2),Zai (by simp;omega),Z9,Zai (by simpa using u4),Zaj hu]
      have hn:¬(0<=p.Uses[k].From/\p.Uses[k].From<perU p.Periods p.Uses[k]/\1<=p.Uses[k].Long/\p.Uses[k].Long<=perU p.Periods p.Uses[k]):=λq=>hu (Zhl.2 ⟨c1,c2,c3,c4,q⟩)
      rw[Zai hu];by_cases u1:p.Uses[k].From<0
      ·rw[Zaj (by simpa using u1)];rfl
      rw[Zai (by simpa using u1)];by_cases u2:p.Uses[k].From≥perU p.Periods p.Uses[k]
      ·rw[Zaj (by simpa using u2)];rfl
      rw[Zai (by simpa using u2)];by_cases u3:p.Uses[k].Long<1
      ·rw[Zaj (by simpa using u3)];rfl
      rw[Zai (by simpa using u3),Z9,Zaj (by simp;omega)]
     have hu:¬useB p.Periods p.Uses[k]=true:=λq=>hc (by obtain⟨a,b,c,d,_⟩:=Zhl.1 q;exact⟨a,b,c,d⟩)
     rw[Zaj (by simp;omega),Zai hu]
   simp only[ZhP];rw[Zaj (by simpa using hk),Zbj hk];simp only[Z9];rw[ZaB (by omega)];by_cases c1:p.Periods[k]<1
   ·rw[Zaj (by simpa using c1)];simp only[Z9,Zak];rw[Zai (by simp[perB];omega)]
   rw[Zai (by simpa using c1),Z9];by_cases c2:p.Periods[k]>240
   ·rw[Zaj (by simpa using c2),Zai (by simp[perB];omega)]
   rw[Zai (by simpa using c2),Zaj (by simp[perB];omega)]
  rw[Zaj (by simp;omega)];simp[h2]
 rw[Zaj (by simp;omega)];simp[h1]
theorem Zl6 {N:Nat}(hN:2000<=N)(p:Zap):Zig N p=some (if Zj0 p=true then 0 else 340):=by
 unfold Zig Zj0;by_cases h1:p.Periods.length<=12
 ·by_cases h2:p.Uses.length<=192
  ·rw[Zai (by simp;omega)];simp only[h1,h2,decide_true,Zk];rw[ZeT (l:=p.Periods) (p:=perB) (bad:=.inr 340) (fin:=.inl ()) (λk hk=>?_) (by simp[Zi6]) (by omega)]
   ·cases hP:p.Periods.all perB with
    |false=>simp
    |true=>
     simp only[Zak,Z9,Zk];rw[Zha hN h1 hP,Z9];by_cases hc:lcmL p.Periods<=960
     ·rw[Zaj hc];simp only[Zaf,Zg,Zah];rw[ZeT (l:=p.Uses) (p:=useB p.Periods) (bad:=.inr 340) (fin:=.inl ()) (λk hk=>?_) (by simp[Zi5]) (by omega)]
      ·cases hU:p.Uses.all (useB p.Periods)with
       |false=>simp
       |true=>simp[hc]
      simp only[Zi5];rw[Zaj (by simpa using hk),Zbj hk,Z9];have hw:w64 ((k:Int)+1)=((k+1:Nat):Int):=ZaB (by omega);rw[hw];by_cases hc:0<=p.Uses[k].Stream/\p.Uses[k].Stream<(p.Periods.length:Int)/\0<=p.Uses[k].Port/\p.Uses[k].Port<48
      ·obtain⟨c1,c2,c3,c4⟩:=hc;rw[Zai (by simp;omega),Zkd c1 c2];simp only[Z9];by_cases hu:useB p.Periods p.Uses[k]=true
       ·obtain⟨_,_,_,_,u1,u2,u3,u4⟩:=Zhl.1 hu;rw[Zai (by simp;omega),Zaj hu]
       have hn:¬(0<=p.Uses[k].From/\p.Uses[k].From<perU p.Periods p.Uses[k]/\1<=p.Uses[k].Long/\p.Uses[k].Long<=perU p.Periods p.Uses[k]):=λq=>hu (Zhl.2 ⟨c1,c2,c3,c4,q⟩)
       rw[Zai hu,Zaj (by simp;omega)]
      have hu:¬useB p.Periods p.Uses[k]=true:=λq=>hc (by obtain⟨a,b,c,d,_⟩:=Zhl.1 q;exact⟨a,b,c,d⟩)
      rw[Zaj (by simp;omega),Zai hu]
     rw[Zai hc];simp[hc]
   simp only[Zi6];rw[Zaj (by simpa using hk),Zbj hk];simp only[Z9];rw[ZaB (by omega)];by_cases c:perB p.Periods[k]=true
   ·have:=Zi7.1 c;rw[Zai (by simp;omega),Zaj c]
   rw[Zaj,Zai c];simp[perB]at c⊢;omega
  rw[Zaj (by simp;omega)];simp[h2]
 rw[Zaj (by simp;omega)];simp[h1]
theorem Zl2 {p:Zap}:Zj0 p=true↔p.Periods.length<=12/\p.Uses.length<=192/\p.Periods.all perB=true/\p.Uses.all (useB p.Periods)=true/\lcmL p.Periods<=960:=by
 unfold Zj0;simp only[Ze,Zag];constructor
 ·rintro⟨⟨⟨⟨a,b⟩,c⟩,d⟩,e⟩;exact⟨a,b,c,d,e⟩
 rintro⟨a,b,c,d,e⟩;exact⟨⟨⟨⟨a,b⟩,c⟩,d⟩,e⟩
theorem ZrC {N:Nat}(hN:2000<=N)(p:Zap):Zif N p=some (if Zj0 p=true then((lcmL p.Periods:Int),0)else(0,340)):=by
 unfold Zif;rw[Zl6 hN,Z9];cases h:Zj0 p with
 |false=>rfl
 |true=>
  obtain⟨h1,h2,h3,h4,h5⟩:=Zl2.1 h;simp only[Zak,Zaf,Zg,Zah];rw[Zha hN h1 h3,Z9,Zaj h5]
end Go.Sh
namespace Go.Sh
open Go Go.Eng
structure VP (p:Zap):Prop where
 len:p.Periods.length<=12
 uses:p.Uses.length<=192
 per:∀q∈p.Periods,1<=q/\q<=240
 use:∀u∈p.Uses,0<=u.Stream/\u.Stream<(p.Periods.length:Int)/\0<=u.Port/\u.Port<48/\0<=u.From/\u.From<perU p.Periods u/\1<=u.Long/\u.Long<=perU p.Periods u
 lcm:lcmL p.Periods<=960
 lpos:0<lcmL p.Periods
theorem VP.of {p:Zap}(h:Zj0 p=true):VP p:=by
 obtain⟨h1,h2,h3,h4,h5⟩:=Zl2.1 h;exact⟨h1,h2,λq hq=>Zi7.1 (List.all_eq_true.1 h3 q hq),λu hu=>Zhl.1 (List.all_eq_true.1 h4 u hu),h5,Zn9 h3⟩
theorem ZtO {P:List Int}{u:Zay}(h0:0<=u.Stream)(h1:u.Stream<(P.length:Int)):perU P u∈P:=by
 unfold perU;rw[Zbp (by omega)];exact List.getElem_mem _
theorem VP.peru {p:Zap}(h:VP p){u:Zay}(hu:u∈p.Uses):1<=perU p.Periods u/\perU p.Periods u<=240:=by
 obtain⟨a,b,_⟩:=h.use u hu;exact h.per _ (ZtO a b)
def Zf0 (p:Zap)(u:Zay)(x:Int):ZaG:=⟨perU p.Periods u,(u.From+x)%perU p.Periods u,u.Long⟩
def u0:Zay:=⟨0,0,0,0⟩
theorem VP.vspan {p:Zap}(h:VP p){u:Zay}(hu:u∈p.Uses)(x:Int):VSpan (Zf0 p u x):=by
 obtain⟨_,_,_,_,_,_,h1,h2⟩:=h.use u hu;obtain⟨h3,h4⟩:=h.peru hu;have h5:=Int.emod_nonneg (u.From+x) (show perU p.Periods u≠0 by omega);have h6:=Int.emod_lt_of_pos (u.From+x) (show 0<perU p.Periods u by omega);show 1<=perU p.Periods u/\perU p.Periods u<=960/\0<=(u.From+x)%perU p.Periods u/\(u.From+x)%perU p.Periods u<perU p.Periods u/\1<=u.Long/\u.Long<=perU p.Periods u;omega
theorem VP.rem {p:Zap}(h:VP p){u:Zay}(hu:u∈p.Uses){x:Int}(h0:0<=x)(h1:x<=1000000):remI (w64 (u.From+x)) (perU p.Periods u)=some ((u.From+x)%perU p.Periods u):=by
 obtain⟨_,_,_,_,h5,h6,h7,h8⟩:=h.use u hu;obtain⟨h3,h4⟩:=h.peru hu;rw[ZaA (by omega) (by omega),Zdq (by omega),Zn (by omega)]
theorem Zju (N:Nat){p:Zap}(h:VP p){u:Zay}(hu:u∈p.Uses){x:Int}(h0:0<=x)(h1:x<=1000000):Ze9 N p u x=some (Zf0 p u x):=by
 obtain⟨a,b,_⟩:=h.use u hu;unfold Ze9;rw[Zkd a b,Z9,h.rem hu h0 h1,Z9];rfl
theorem ZoX (N:Nat){p:Zap}(h:VP p){k:Nat}(hk:k<p.Uses.length){x:Int}(h0:0<=x)(h1:x<=1000000):ZlQ N p k x=some (Zf0 p (p.Uses.getD k u0) x):=by
 have hu:p.Uses[k]∈p.Uses:=List.getElem_mem hk;obtain⟨a,b,_⟩:=h.use _ hu;unfold ZlQ;rw[Zbj hk];simp only[Z9];rw[Zkd a b,Z9,h.rem hu h0 h1,Z9,Zbp hk];rfl
def offB (p:Zap)(i x:Int):Bool:=decide (0<=i/\i<(p.Periods.length:Int)/\0<=x/\x<p.Periods.getD i.toNat 0)
theorem ZgA {p:Zap}{i x:Int}:offB p i x=true↔0<=i/\i<(p.Periods.length:Int)/\0<=x/\x<p.Periods.getD i.toNat 0:=by simp[offB]
theorem Zqr (N:Nat){p:Zap}{i x:Int}(h0:0<=i)(h1:i<(p.Periods.length:Int)):Zi1 N p i x=some (offB p i x):=by
 unfold Zi1;by_cases hx:x≥0
 ·rw[Zaj (by simpa using hx),ZbL 0 h0 h1];simp only[Z9]
  congr 1
  rw[Zf,ZgA];simp;omega
 rw[Zai (by simpa using hx),Z9]
 congr 1
 symm;rw[Bool.eq_false_iff];intro q;have:=ZgA.1 q;omega
theorem ZoR (N:Nat)(p:Zap)(i x:Int):Zhz N p i x=some (offB p i x):=by
 unfold Zhz;have hf:∀(c:Prop),¬c->(offB p i x=true->c)->some (offB p i x)=some false:=λc hc hi=>by
  congr 1
  rw[Bool.eq_false_iff];exact λq=>hc (hi q)
 by_cases c1:i≥0
 ·rw[Zaj (by simpa using c1)];by_cases c2:i<(p.Periods.length:Int)
  ·rw[Zaj (by simpa using c2)];by_cases c3:x≥0
   ·rw[Zaj (by simpa using c3),ZbL 0 c1 c2];simp only[Z9]
    congr 1
    rw[Zf,ZgA];simp;omega
   rw[Zai (by simpa using c3),Z9];exact(hf _ c3 λq=>(ZgA.1 q).2.2.1).symm
  rw[Zai (by simpa using c2),Z9];exact(hf _ c2 λq=>(ZgA.1 q).2.1).symm
 rw[Zai (by simpa using c1),Z9];exact(hf _ c1 λq=>(ZgA.1 q).1).symm
def hitB (p:Zap)(i a j b:Int)(k m:Nat):Bool:=
 decide (k≠m)&&(((p.Uses.getD k u0).Stream==i)&&(((p.Uses.getD m u0).Stream==j)&&(((p.Uses.getD k u0).Port==(p.Uses.getD m u0).Port)&&
  !(decide (SepD (Zf0 p (p.Uses.getD k u0) a) (Zf0 p (p.Uses.getD m u0) b) ((Zf0 p (p.Uses.getD m u0) b).From-(Zf0 p (p.Uses.getD k u0) a).From))))))
def Zih (p:Zap)(i a j b:Int):Bool:=!(allB p.Uses.length λk=>allB p.Uses.length λm=>!(hitB p i a j b k m))
theorem ZhR {N:Nat}(hN:2000<=N){p:Zap}(h:VP p){i a j b:Int}(ha:0<=a)(ha2:a<=1000)(hb:0<=b)(hb2:b<=1000):Zfi N p i a j b=some (Zih p i a j b):=by
 have hl:=h.uses;unfold Zfi;rw[Za7 (n:=p.Uses.length) (p:=λk=>allB p.Uses.length λm=>!(hitB p i a j b k m)) (bad:=.inr true) (fin:=.inl ()) (λk hk=>?_) (by simp[ZhT]) (by omega)]
 ·unfold Zih;cases allB p.Uses.length λk=>allB p.Uses.length λm=>!(hitB p i a j b k m)<;>rfl
 simp only[ZhT];rw[Zaj (by simpa using hk),Za7 (n:=p.Uses.length) (p:=λm=>!(hitB p i a j b k m)) (bad:=.inr true) (fin:=.inl ()) (λm hm=>?_) (by simp[ZhS]) (by omega)]
 ·have hw:w64 ((k:Int)+1)=((k+1:Nat):Int):=ZaB (by omega);cases allB p.Uses.length λm=>!(hitB p i a j b k m)with
  |false=>rfl
  |true=>simp only[Zak,Z9];rw[hw]
 simp only[ZhS];have hw:w64 ((m:Int)+1)=((m+1:Nat):Int):=ZaB (by omega);rw[Zaj (by simpa using hm),Zbj hk,Zbj hm,hw];simp only[Z9];rw[ZoX N h hk ha (by omega),ZoX N h hm hb (by omega)];simp only[Z9];rw[Zbp hk,Zbp hm,VSpan.separate hN (h.vspan (List.getElem_mem hk) a) (h.vspan (List.getElem_mem hm) b)];simp only[Z9];unfold hitB;rw[Zbp hk,Zbp hm];by_cases c0:k=m
 ·subst c0;simp
 rw[Zaj (by simp;omega)];cases c1:(p.Uses[k].Stream==i)with
 |false=>simp
 |true=>
  cases c2:(p.Uses[m].Stream==j)with
  |false=>simp
  |true=>
   cases c3:(p.Uses[k].Port==p.Uses[m].Port)with
   |false=>simp
   |true=>
    simp only[Zak,Z9,c0,ne_eq,not_false_eq_true,decide_true,Zk,Bool.not_not];cases decide (SepD (Zf0 p p.Uses[k] a) (Zf0 p p.Uses[m] b) ((Zf0 p p.Uses[m] b).From-(Zf0 p p.Uses[k] a).From))<;>rfl
theorem Zw8 {s:ZaG}(hs:VSpan s):¬SepD s s (s.From-s.From):=by
 have:=hs.bounds;unfold SepD;simp;omega
theorem ZxZ {u v:Zay}(h:(((u.Stream==v.Stream)&&((u.Port==v.Port)&&((u.From==v.From)&&((u.Long==v.Long)&&true))))=true)):u=v:=by
 obtain⟨a,b,c,d⟩:=u;obtain⟨a',b',c',d'⟩:=v;simp at h;obtain⟨rfl,rfl,rfl,rfl⟩:=h;rfl
theorem Zn0 {N:Nat}(hN:2000<=N){p:Zap}(h:VP p){i a j b:Int}(ha:0<=a)(ha2:a<=1000)(hb:0<=b)(hb2:b<=1000)(hij:i=j->a=b):Zgz N p i a j b=some (Zih p i a j b):=by
 have hl:=h.uses;unfold Zgz Zku;simp only[Z9];have round:∀k m:Nat,∀(hk:k<p.Uses.length) (hm:m<p.Uses.length),p.Uses[k].Stream=i->p.Uses[m].Stream=j→
   Zb4 N p a b false p.Uses[k] p.Uses[m]=some (if SepD (Zf0 p p.Uses[k] a) (Zf0 p p.Uses[m] b) ((Zf0 p p.Uses[m] b).From-(Zf0 p p.Uses[k] a).From)then(false,0)else(true,1)):=by
  intro k m hk hm e1 e2;unfold Zb4;have hv1:=h.vspan (List.getElem_mem hk) a;have hv2:=h.vspan (List.getElem_mem hm) b;by_cases c:((p.Uses[k].Stream==p.Uses[m].Stream)&&((p.Uses[k].Port==p.Uses[m].Port)&&((p.Uses[k].From==p.Uses[m].From)&&((p.Uses[k].Long==p.Uses[m].Long)&&true))))=true
  ·rw[Zaj c];have e:=ZxZ c;have hab:a=b:=hij (by rw[←e1,←e2,e]);subst hab;rw[←e,Zai (Zw8 hv1)]
  have hA:=ZnO hN (Zf0 p p.Uses[k] a) (Zf0 p p.Uses[m] b);rw[Zaj ⟨hv1,hv2⟩]at hA;rw[Zai c,Zju N h (List.getElem_mem hk) ha (by omega),Z9,Zju N h (List.getElem_mem hm) hb (by omega),Z9,hA,Z9];by_cases s:SepD (Zf0 p p.Uses[k] a) (Zf0 p p.Uses[m] b) ((Zf0 p p.Uses[m] b).From-(Zf0 p p.Uses[k] a).From)
  ·simp[s]
  simp[s]
 have loop:ZhD N (λ(s:Bool×Nat) (x16:Zay) (x17:Zay)=>Zgc (λv:Bool=>Zb4 N p a b v x16 x17) s) p i j (false,0)=some (if Zih p i a j b=true then(true,1)else(false,0)):=by
  unfold ZhD;rw[(Zja (n:=p.Uses.length) (p:=λk=>allB p.Uses.length λm=>!(hitB p i a j b k m)) (f:=λs _=>s) (bad:=.inr (true,1)) (fin:=λs=>.inl s) (λ_ s=>s=(false,0)) (λk s hk hs=>?_) (λ_ s _ hs _=>hs) (λs _=>by simp[Zda]) (N:=N) (by omega) rfl).1]
  ·unfold Zih;have hf:∀(l:List Nat),l.foldl (λ(s:Bool×Nat) _=>s) (false,0)=(false,0):=by
    intro l;induction l with
    |nil=>rfl
    |cons x l ih=>simpa using ih
   rw[hf];cases allB p.Uses.length λk=>allB p.Uses.length λm=>!(hitB p i a j b k m)<;>rfl
  subst hs;simp only[Zda];have hw:w64 ((k:Int)+1)=((k+1:Nat):Int):=ZaB (by omega);rw[Zaj (by simpa using hk),Zbj hk,Z9,hw];by_cases c1:p.Uses[k].Stream=i
  ·rw[Zai (by simpa using c1)];rw[(Zja (n:=p.Uses.length) (p:=λm=>!(hitB p i a j b k m)) (f:=λs _=>s) (bad:=.inr (true,1)) (fin:=λs=>.inl s) (λ_ s=>s=(false,0)) (λm s hm hs=>?_) (λ_ s _ hs _=>hs) (λs _=>by simp[Zc9]) (N:=N) (by omega) rfl).1]
   ·have hf:∀(l:List Nat),l.foldl (λ(s:Bool×Nat) _=>s) (false,0)=(false,0):=by
     intro l;induction l with
     |nil=>rfl
     |cons x l ih=>simpa using ih
    rw[hf];cases allB p.Uses.length λm=>!(hitB p i a j b k m)<;>rfl
   subst hs;simp only[Zc9];have hw2:w64 ((m:Int)+1)=((m+1:Nat):Int):=ZaB (by omega);rw[Zaj (by simpa using hm),Zbj hm,Z9,hw2];unfold hitB;rw[Zbp hk,Zbp hm];by_cases c0:k=m
   ·subst c0;simp
   have c0':((m:Int)==(k:Int))=false:=by simp;omega
   rw[c0'];simp only[Zg,Zah];by_cases c2:p.Uses[m].Stream=j
   ·rw[Zai (by simpa using c2),Z9];by_cases c3:p.Uses[k].Port=p.Uses[m].Port
    ·rw[Zai (by simp[c3])];unfold Zgc;simp only[Zak];rw[round k m hk hm c1 c2];simp only[c0,c1,c2,c3,ne_eq,not_false_eq_true,decide_true,Zk,beq_self_eq_true,Bool.not_not];by_cases s:SepD (Zf0 p p.Uses[k] a) (Zf0 p p.Uses[m] b) ((Zf0 p p.Uses[m] b).From-(Zf0 p p.Uses[k] a).From)
     ·simp[s]
     simp[s]
    rw[Zaj (by simp;exact λq=>c3 q.symm)];simp[c3]
   rw[Zaj (by simpa using c2),Z9];simp[c2]
  rw[Zaj (by simpa using c1)];have:(allB p.Uses.length λm=>!(hitB p i a j b k m))=true:=by
   rw[ZbD];intro m hm;unfold hitB;rw[Zbp hk];simp[c1]
  rw[this,Zaj rfl]
 rw[loop,Z9];cases Zih p i a j b<;>rfl
theorem Zul {p:Zap}(h:VP p){i x:Int}(ho:offB p i x=true):0<=x/\x<240:=by
 obtain⟨a,b,c,d⟩:=ZgA.1 ho;rw[Zbp (by omega)]at d;have:=h.per _ (List.getElem_mem (show i.toNat<p.Periods.length by omega));omega
end Go.Sh
namespace Go.Sh
open Go Go.Eng
theorem ZwF {n:Nat}{q:Nat->Nat->Bool}:(allB n λk=>allB n λm=>q k m)=allB n λm=>allB n λk=>q k m:=by
 rw[Zf];simp only[ZbD];exact⟨λh m hm k hk=>h k hk m hm,λh k hk m hm=>h m hm k hk⟩
theorem Zwr {p:Zap}(h:VP p){i a j b:Int}{k m:Nat}(hk:k<p.Uses.length)(hm:m<p.Uses.length):hitB p i a j b k m=hitB p j b i a m k:=by
 have e:=Zw7 (h.vspan (List.getElem_mem hk) a) (h.vspan (List.getElem_mem hm) b);unfold hitB;rw[Zbp hk,Zbp hm,Zf];simp only[Ze,Zag,beq_iff_eq,Zh,decide_eq_false_iff_not];rw[e];constructor
 ·rintro⟨a,b,c,d,e⟩;exact⟨λq=>a q.symm,c,b,d.symm,e⟩
 rintro⟨a,b,c,d,e⟩;exact⟨λq=>a q.symm,c,b,d.symm,e⟩
theorem Zvj {p:Zap}(h:VP p)(i a j b:Int):Zih p i a j b=Zih p j b i a:=by
 unfold Zih;rw[ZwF]
 congr 1
 exact ZkF λk hk=>ZkF λm hm=>by rw[Zwr h hm hk]
def ZhX (p:Zap)(l:List Int):Bool:=decide (l.length=p.Periods.length)&&allB l.length λk=>offB p k (l.getD k 0)
def Zlk (p:Zap)(l:List Int):Bool:=allB l.length λi=>allB (i+1) λj=>!(Zih p i (l.getD i 0) j (l.getD j 0))
def Zy8 (p:Zap)(l:List Int):Bool×Int:=if Zj0 p=true then(if ZhX p l=true then(Zlk p l,0)else(false,2))else(false,340)
theorem ZrF {p:Zap}{l:List Int}(h:ZhX p l=true):l.length=p.Periods.length/\∀k,k<l.length->offB p k (l.getD k 0)=true:=by
 unfold ZhX at h;rw[Ze,Zag,ZbD]at h;exact h
theorem ZnT {N:Nat}(hN:2000<=N){p:Zap}(h:VP p)(l:List Int):Ze5 N p l=some (ZhX p l):=by
 have hl:=h.len;unfold Ze5 ZhX;by_cases hc:l.length=p.Periods.length
 ·rw[Zai (by simp[hc])];rw[Za7 (n:=l.length) (p:=λk=>offB p k (l.getD k 0)) (bad:=.inr false) (fin:=.inl ()) (λk hk=>?_) (by simp[Zf7]) (by omega)]
  ·cases allB l.length λk=>offB p k (l.getD k 0)<;>simp[hc]
  simp only[Zf7];have hw:w64 ((k:Int)+1)=((k+1:Nat):Int):=ZaB (by omega);rw[Zaj (by simpa using hk),Zbj hk,Z9,ZoR,Z9,hw,Zbp hk];cases offB p k l[k]<;>rfl
 rw[Zaj (by simp;omega)];simp[hc]
theorem ZoT {N:Nat}(hN:2000<=N){p:Zap}(h:VP p){l:List Int}(ho:ZhX p l=true):ZhA N p l=some (Zlk p l):=by
 have hl:=h.len;obtain⟨h1,h2⟩:=ZrF ho;unfold ZhA Zlk;rw[Za7 (n:=l.length) (p:=λi=>allB (i+1) λj=>!(Zih p i (l.getD i 0) j (l.getD j 0))) (bad:=.inr false) (fin:=.inl ()) (λi hi=>?_) (by simp[Zg0]) (by omega)]
 ·cases allB l.length λi=>allB (i+1) λj=>!(Zih p i (l.getD i 0) j (l.getD j 0))<;>rfl
 simp only[Zg0];have hw:w64 ((i:Int)+1)=((i+1:Nat):Int):=ZaB (by omega);rw[Zaj (by simpa using hi),Za7 (n:=i+1) (p:=λj=>!(Zih p i (l.getD i 0) j (l.getD j 0))) (bad:=.inr false) (fin:=.inl ()) (λj hj=>?_) (by simp[ZgZ];omega) (by omega),hw]
 ·cases allB (i+1) λj=>!(Zih p i (l.getD i 0) j (l.getD j 0))<;>rfl
 simp only[ZgZ];have hj':j<l.length:=by omega
 have hw:w64 ((j:Int)+1)=((j+1:Nat):Int):=ZaB (by omega);have b1:=Zul h (h2 i hi);have b2:=Zul h (h2 j hj');rw[Zbp hi]at b1;rw[Zbp hj']at b2;rw[Zaj (by simp;omega),Zbj hi,Z9,Zbj hj',Z9,ZhR hN h b1.1 (by omega) b2.1 (by omega),Z9,hw,Zbp hi,Zbp hj'];cases Zih p i l[i] j l[j]<;>rfl
theorem ZsQ {N:Nat}(hN:2000<=N)(p:Zap)(l:List Int):Zj4 N p l=some (Zy8 p l):=by
 unfold Zj4 Zy8;rw[Zl6 hN,Z9];cases hp:Zj0 p with
 |false=>rfl
 |true=>
  have h:=VP.of hp;have hl:=h.len;simp only[Zak,Zaf,Zg,Zah];by_cases hc:l.length=p.Periods.length
  ·rw[Zai (by simp[hc])];rw[Za7 (n:=l.length) (p:=λk=>offB p k (l.getD k 0)) (bad:=.inr (false,2)) (fin:=.inl ()) (λk hk=>?_) (by simp[Zj3]) (by omega)]
   ·have e:ZhX p l=allB l.length λk=>offB p k (l.getD k 0):=by unfold ZhX;simp[hc]
    cases ho:allB l.length λk=>offB p k (l.getD k 0)with
    |false=>rw[e,ho];rfl
    |true=>
     rw[e,ho];simp only[Zak,Z9];rw[ho]at e;obtain⟨h1,h2⟩:=ZrF e;unfold Zlk;rw[Za7 (n:=l.length) (p:=λi=>allB (i+1) λj=>!(Zih p i (l.getD i 0) j (l.getD j 0))) (bad:=.inr (false,0)) (fin:=.inl ()) (λi hi=>?_) (by simp[Zj2]) (by omega)]
     ·cases allB l.length λi=>allB (i+1) λj=>!(Zih p i (l.getD i 0) j (l.getD j 0))<;>rfl
     simp only[Zj2];have hw:w64 ((i:Int)+1)=((i+1:Nat):Int):=ZaB (by omega);have hs:subI l 0 ((i+1:Nat):Int)=some (l.take (i+1)):=by
      unfold subI;rw[Zaj (by omega)];simp
     have hlt:(l.take (i+1)).length=i+1:=by simp;omega
     rw[Zaj (by simpa using hi),Zbj hi,Z9,hw,hs,Z9,Za7 (n:=i+1) (p:=λj=>!(Zih p i (l.getD i 0) j (l.getD j 0))) (bad:=.inr (false,0)) (fin:=.inl ()) (λj hj=>?_) (by simp[Zj1,hlt]) (by omega)]
     ·cases allB (i+1) λj=>!(Zih p i (l.getD i 0) j (l.getD j 0))<;>rfl
     simp only[Zj1];have hj':j<l.length:=by omega
     have hw:w64 ((j:Int)+1)=((j+1:Nat):Int):=ZaB (by omega);have b1:=Zul h (h2 i hi);have b2:=Zul h (h2 j hj');rw[Zbp hi]at b1;rw[Zbp hj']at b2;have ei:idx (l.take (i+1)) (j:Int)=some l[j]:=by
      rw[Zbj (by omega),List.getElem_take]
     rw[Zaj (by simp[hlt];omega),ei,Z9,Zn0 hN h b2.1 (by omega) b1.1 (by omega) (λq=>by
      have:j=i:=by omega
      subst this;rfl),Z9,hw,Zbp hi,Zbp hj',Zvj h]
     cases Zih p i l[i] j l[j]<;>rfl
   simp only[Zj3];have hw:w64 ((k:Int)+1)=((k+1:Nat):Int):=ZaB (by omega);rw[Zaj (by simpa using hk),Zbj hk,Z9,Zqr N (by omega) (by omega),Z9,hw,Zbp hk];cases offB p k l[k]<;>rfl
  rw[Zaj (by simp;omega)];have:ZhX p l=false:=by unfold ZhX;simp[hc]
  rw[this];rfl
theorem Zim {α:Type}{b:Nat}{l:List α}{x:α}(hl:l.length<=1000)(hb:b<=1000):appI b l [x]=some (l++[x]):=by
 refine Zdc ?_ (by omega);simp;omega
theorem Zrt {N:Nat}(hN:2000<=N){p:Zap}(h:VP p){a:List Int}(ha:∀x∈a,InK .u8 x):∃l,Zia N p a=some l/\ZhX p l=true:=by
 have hlen:=h.len;unfold Zia;obtain⟨l,hl,l1,l2⟩:=ZbX (body:=λx:Int×(List Int)=>ZiL N p a x.1 x.2) (λx=>0<=x.1/\x.1<=p.Periods.length/\(x.2.length:Int)=x.1/\∀k,k<x.2.length->offB p k (x.2.getD k 0)=true) (λx=>(p.Periods.length-x.1).toNat) (λl=>l.length=p.Periods.length/\∀k,k<l.length->offB p k (l.getD k 0)=true) (λx hx=>by
  obtain⟨i,l⟩:=x;obtain⟨i0,i1,i2,i3⟩:=hx;simp only at i0 i1 i2 i3;simp only[ZiL];by_cases c:i<(p.Periods.length:Int)
  ·left;obtain⟨k,rfl⟩:∃k:Nat,i=k:=⟨i.toNat,by omega⟩;have hk:k<p.Periods.length:=by omega
   have hq:=h.per _ (List.getElem_mem hk);have key:∃x,(if(decide ((k:Int)<((List.length a:Nat):Int)))then((idx a k).bind λe1010=>((idx p.Periods k).bind λe1011=>((remI (w64 (e1010)) e1011).bind λm1012=>(some m1012))))else(some 0))=some x/\0<=x/\x<p.Periods[k]:=by
    by_cases c2:k<a.length
    ·have hb:0<=a[k]/\a[k]<=255:=(ha _ (List.getElem_mem c2)).u8;refine⟨a[k]%p.Periods[k],?_,Int.emod_nonneg _ (by omega),Int.emod_lt_of_pos _ (by omega)⟩;rw[Zaj (by simpa using c2),Zbj c2,Z9,Zbj hk,Z9,ZaA (by omega) (by omega),Zdq (by omega),Z9,Zn hb.1]
    exact⟨0,by rw[Zai (by simpa using c2)],by omega,by omega⟩
   obtain⟨x,hx,x0,x1⟩:=key;refine⟨(((k+1:Nat):Int),l++[x]),?_,⟨by omega,by omega,by simp;omega,λm hm=>?_⟩,by omega⟩
   ·rw[Zaj (by simpa using c),hx,Z9,Zim (by omega) (by omega),Z9,ZaB (by omega)]
   simp only[ZN,ZO,ZQ]at hm;by_cases e:m<l.length
   ·have:=i3 m e;rw[Zbp e]at this;rw[Zbp (by simp;omega),List.getElem_append_left e];exact this
   obtain rfl:m=k:=by omega
   rw[Zbp (by simp;omega),List.getElem_append_right (by omega)];simp only[show m-l.length=0 by omega,List.getElem_cons_zero];rw[ZgA];simp only[Zo];rw[Zbp hk];omega
  right;refine⟨l,?_,by omega,i3⟩;rw[Zai (by simpa using c)]) N (0,[]) ⟨by omega,by simp,rfl,by simp⟩ (by simp;omega)
 rw[hl,Z9];refine⟨l,rfl,?_⟩;unfold ZhX;rw[Ze,Zag,ZbD];exact⟨l1,l2⟩
end Go.Sh
namespace Go.Sh
open Go Go.Eng
def stB (t:Zan)(x:Int):Bool:=t.Station.getD x.toNat false
def ZeV (t:Zan)(x:Int):Bool:=decide (0<=x)&&decide (x<t.Nodes)
def dL:ZaI:=⟨0,0,0,0⟩
def lk (t:Zan)(k:Nat):ZaI:=t.Links.getD k dL
def Zfb (t:Zan)(l:ZaI):Bool:=
 ZeV t l.A&&(ZeV t l.B&&(!(l.A==l.B)&&(!(stB t l.A&&stB t l.B)&&(decide (l.Per≥1)&&(decide (l.Per<=1000)&&(decide (l.Delay≥0)&&decide (l.Delay<=10000)))))))
def Zhf (l:ZaI)(a b:Int):Bool:=(l.A==a&&l.B==b)||(l.A==b&&l.B==a)
def nojB (t:Zan)(k:Nat):Bool:=allB k λj=>!Zhf (lk t j) (lk t k).A (lk t k).B
def bump (b:List Int)(x:Int):List Int:=b.set x.toNat (w64 (b.getD x.toNat 0+1))
def ZpJ (b:List Int)(l:ZaI):List Int:=bump (bump b l.A) l.B
def degs (t:Zan):List Int:=(List.range t.Links.length).foldl (λb k=>ZpJ b (lk t k)) (List.replicate t.Nodes.toNat 0)
def degB (t:Zan)(n:Nat):Bool:=!(stB t n)||(decide (1<=(degs t).getD n 0)&&decide ((degs t).getD n 0<=2))
def Zh8 (l:List Bool)(k:ZaI):List Bool:=if l.getD k.A.toNat false||l.getD k.B.toNat false then(l.set k.A.toNat true).set k.B.toNat true else l
def ZjM (t:Zan)(l:List Bool):List Bool:=(List.range t.Links.length).foldl (λb k=>Zh8 b (lk t k)) l
def Zg7 (t:Zan)(m:Int):List Bool:=(List.range t.Nodes.toNat).foldl (λl _=>ZjM t l) ((List.replicate t.Nodes.toNat false).set m.toNat true)
def Zeo (t:Zan):Bool:=
 decide (2<=t.Nodes)&&(decide (t.Nodes<=12)&&(((t.Station.length:Int)==t.Nodes)&&(decide (t.Links.length<=24)&&
  (allB t.Links.length (λk=>Zfb t (lk t k)&&nojB t k)&&(allB t.Nodes.toNat (λn=>(Zg7 t 0).getD n false&&degB t n))))))
section
variable {N:Nat} {t:Zan}
theorem Zs8 {k:Nat}(h:k<t.Links.length):idx t.Links (k:Int)=some (lk t k):=by
 rw[Zbj h];simp[lk,Zy,h]
theorem Zf9 (hS:(t.Station.length:Int)=t.Nodes){x:Int}(h:ZeV t x=true):idx t.Station x=some (stB t x):=by
 simp only[ZeV,Ze,Zag]at h;exact ZbL false h.1 (by omega)
theorem ZlX (x:Int):Zid N t x=some (ZeV t x):=by simp[Zid,ZeV]
theorem Zsi (x:Int):ZjD N t x=some (ZeV t x):=by simp[ZjD,ZeV]
theorem ZlZ (hS:(t.Station.length:Int)=t.Nodes)(l:ZaI):Zie N t l=some (Zfb t l):=by
 unfold Zie Zfb;rw[ZlX,ZlX];simp only[Z9];cases hA:ZeV t l.A with
 |false=>rfl
 |true=>
  cases hB:ZeV t l.B with
  |false=>rfl
  |true=>
   rw[Zf9 hS hA,Zf9 hS hB];cases (l.A==l.B)<;>cases stB t l.A<;>cases stB t l.B<;>rfl
theorem Zk9 (l:ZaI)(a b:Int):Zg5 N l a b=some (Zhf l a b):=by
 unfold Zg5 Zhf;cases l.A==a<;>cases l.B==b<;>cases l.A==b<;>cases l.B==a<;>rfl
theorem Zr3 (a b:Int):(a==b)=(b==a):=by
 by_cases h:a=b
 ·subst h;rfl
 rw[beq_false_of_ne h,beq_false_of_ne (Ne.symm h)]
theorem Zv8 (hL:t.Links.length<100)(hN:t.Links.length<N){k:Nat}(hk:k<t.Links.length):
  ZaH (λx:Int=>ZfH N t (k:Int) (lk t k) x) N 0=some (if nojB t k then .inl ()else .inr false):=by
 refine Za7 (n:=k) (λj hj=>?_) ?_ (by omega)
 ·unfold ZfH;rw[Zaj (by simp;omega),Zs8 (by omega),Z9,Zk9,Z9,ZaB (by omega)];cases Zhf (lk t j) (lk t k).A (lk t k).B<;>rfl
 unfold ZfH;rw[Zai (by simp)]
theorem ZwU (hL:t.Links.length<100)(hN:t.Links.length<N){k:Nat}(hk:k<t.Links.length):ZfO N (k:Int) t=some (nojB t k):=by
 unfold ZfO;rw[Zs8 hk,Z9];have hsub:subI t.Links 0 (k:Int)=some (t.Links.take k):=by
  unfold subI;rw[Zaj ⟨by omega,by omega,by omega⟩];simp
 rw[hsub,Z9];have hlen:(t.Links.take k).length=k:=by simp;omega
 have:=Za7 (n:=k) (p:=λj=>!Zhf (lk t j) (lk t k).A (lk t k).B) (body:=λx:Int=>ZeX N (lk t k) (t.Links.take k) x) (bad:=.inr false) (fin:=.inl ()) (λj hj=>by
  unfold ZeX;have hj':j<(t.Links.take k).length:=by omega
  rw[Zaj (by rw[hlen];simp;omega),Zbj hj',Z9,ZaB (by omega)];have e:(t.Links.take k)[j]=lk t j:=by simp[lk,Zy,show j<t.Links.length by omega]
  rw[e];unfold Zhf;rw[Zr3 (lk t k).A (lk t j).A,Zr3 (lk t k).B (lk t j).B,Zr3 (lk t k).A (lk t j).B,Zr3 (lk t k).B (lk t j).A];cases (lk t j).A==(lk t k).A<;>cases (lk t j).B==(lk t k).B<;>cases (lk t j).A==(lk t k).B<;>cases (lk t j).B==(lk t k).A<;>rfl) (by unfold ZeX;rw[Zai (by rw[hlen];simp)]) (N:=N) (by omega)
 rw[this];unfold nojB;cases allB k λj=>!Zhf (lk t j) (lk t k).A (lk t k).B<;>rfl
theorem Zrg (hS:(t.Station.length:Int)=t.Nodes)(hL:t.Links.length<100)(hN:t.Links.length<N):Zkl N t=some (allB t.Links.length (λk=>Zfb t (lk t k)&&nojB t k)):=by
 unfold Zkl;have:=Za7 (n:=t.Links.length) (p:=λk=>Zfb t (lk t k)&&nojB t k) (body:=λx:Int=>Zgk N t x) (bad:=.inr false) (fin:=.inl ()) (λk hk=>by
  unfold Zgk;rw[Zaj (by simp;omega),ZwU hL hN hk,ZaB (by omega)];unfold Zhp Zho Zhn;rw[Zs8 hk];simp only[Z9,Zsi];unfold Zfb;cases hA:ZeV t (lk t k).A with
  |false=>rfl
  |true=>
   cases hB:ZeV t (lk t k).B with
   |false=>rfl
   |true=>
    simp only[Zak,Z9];rw[Zf9 hS hA,Zf9 hS hB];simp only[bne,Z9];generalize (decide ((lk t k).Per≥1)&&(decide ((lk t k).Per<=1000)&&(decide ((lk t k).Delay≥0)&&decide ((lk t k).Delay<=10000))))=q;cases ((lk t k).A==(lk t k).B)<;>cases stB t (lk t k).A<;>cases stB t (lk t k).B<;>cases nojB t k<;>cases q<;>rfl) (by unfold Zgk;rw[Zai (by simp)]) (N:=N) hN
 rw[this];cases allB t.Links.length (λk=>Zfb t (lk t k)&&nojB t k)<;>rfl
theorem ZuE (b:List Int)(x:Int):(bump b x).length=b.length:=by simp[bump]
theorem ZpI (b:List Int)(l:ZaI):(ZpJ b l).length=b.length:=by simp[ZpJ,ZuE]
theorem ZcO {l:ZaI}(h:Zfb t l=true):ZeV t l.A=true/\ZeV t l.B=true/\l.A≠l.B:=by
 simp only[Zfb,Ze]at h;refine⟨h.1,h.2.1,?_⟩;have:=h.2.2.1;intro e;simp[e]at this
theorem Zhd {x:Int}:ZeV t x=true↔0<=x/\x<t.Nodes:=by simp[ZeV]
theorem ZuF {b:List Int}(hb:(b.length:Int)=t.Nodes){l:ZaI}(hA:ZeV t l.A=true)(hB:ZeV t l.B=true):
  idx b l.A=some (b.getD l.A.toNat 0)/\idx (b.set l.A.toNat (w64 (b.getD l.A.toNat 0+1))) l.B=some ((bump b l.A).getD l.B.toNat 0):=by
 rw[Zhd]at hA hB;exact⟨ZbL 0 hA.1 (by omega),ZbL 0 hB.1 (by simp;omega)⟩
theorem Zoq (hT:allB t.Links.length (λk=>Zfb t (lk t k)&&nojB t k)=true)(hn:0<=t.Nodes)(hL:t.Links.length<100)(hN:t.Links.length<N):
  ZaH (λx:Int×(List Int)=>Zdl N t x.1 x.2) N (0,List.replicate t.Nodes.toNat 0)=some (degs t)/\((degs t).length:Int)=t.Nodes:=by
 have:=ZdM (n:=t.Links.length) (f:=λb k=>ZpJ b (lk t k)) (body:=λx:Int×(List Int)=>Zdl N t x.1 x.2) (fin:=λb=>b) (λ_ b=>(b.length:Int)=t.Nodes)
  (λk b hk hb=>by
   have hl:=ZbD.1 hT k hk;simp only[Ze]at hl;obtain⟨hA,hB,_⟩:=ZcO hl.1;obtain⟨i1,i2⟩:=ZuF hb hA hB;show Zdl N t k b=_;unfold Zdl;rw[Zaj (by simp;omega),Zs8 hk,Z9,i1];simp only[Z9,i2,ZaB (show k<1000000 by omega)];rfl)
  (λk b hk hb=>by rw[ZpI];exact hb)
  (λb hb=>by show Zdl N t t.Links.length b=_;unfold Zdl;rw[Zai (by simp)]) hN (b0:=List.replicate t.Nodes.toNat 0) (by simp;omega)
 exact this
theorem Zu8 (hS:(t.Station.length:Int)=t.Nodes)(hn:0<=t.Nodes)(hL:t.Links.length<100)(hN:t.Links.length<N):
  ZaH (λx:Int×(List Int)=>ZcW N t x.1 x.2) N (0,List.replicate t.Nodes.toNat 0)=some (if allB t.Links.length (λk=>Zfb t (lk t k)&&nojB t k)then .inl (degs t)else .inr false):=by
 refine(Zja (ρ:=List Int⊕Bool) (body:=λx:Int×(List Int)=>ZcW N t x.1 x.2) (n:=t.Links.length) (f:=λb k=>ZpJ b (lk t k)) (p:=λk=>Zfb t (lk t k)&&nojB t k) (fin:=λb=>.inl b) (bad:=.inr false) (λ_ b=>(b.length:Int)=t.Nodes)
  (λk b hk hb=>?_) (λk b hk hb _=>by rw[ZpI];exact hb) (λb hb=>by show ZcW N t t.Links.length b=_;unfold ZcW;rw[Zai (by simp)]) hN (b0:=List.replicate t.Nodes.toNat 0) (by simp;omega)).1
 show ZcW N t k b=_;unfold ZcW;rw[Zaj (by simp;omega),Zs8 hk,Z9,ZlZ hS,Z9];cases hl:Zfb t (lk t k)with
 |false=>rfl
 |true=>
  obtain⟨hA,hB,_⟩:=ZcO hl;obtain⟨i1,i2⟩:=ZuF hb hA hB;rw[Zv8 hL hN hk];cases nojB t k with
  |false=>rfl
  |true=>
   simp only[Zi,Zg,Zah,Zak,Z9,i1,i2,ZaB (show k<1000000 by omega),Bool.and_self];rfl
theorem ZoB (l:List Bool)(k:ZaI):(Zh8 l k).length=l.length:=by unfold Zh8;split<;>simp
theorem Zue {l:List Bool}{i:Nat}(h:l.getD i false=true):l.set i true=l:=by
 apply List.ext_getElem?;intro j;rw[ZI];by_cases e:i=j
 ·subst e;rw[Zaj rfl];split
  ·rename_i hl;rw[ZE hl];simp[Zy,hl]at h;rw[h]
  rename_i hl;rw[ZF (by omega)]
 rw[Zai e]
theorem Zjd {l:List Bool}{i j:Nat}(h:l.getD j false=true):(l.set i true).getD j false=true:=by
 rw[Zy]at h⊢;rw[ZI];split
 ·split
  ·rfl
  rename_i e hl;rw[ZF (by omega)]at h;cases h
 exact h
theorem Zop (hT:allB t.Links.length (λk=>Zfb t (lk t k)&&nojB t k)=true)(hL24:t.Links.length<=24)(hN:t.Links.length<N)(c:Zbf)(hc:∀k:Nat,k<24->c.get (k:Int)=some false){l:List Bool}(hl:(l.length:Int)=t.Nodes):
  ZaH (λx:Int×(List Bool)=>Zdk N t c x.1 x.2) N (0,l)=some (ZjM t l)/\((ZjM t l).length:Int)=t.Nodes:=by
 have:=ZdM (n:=t.Links.length) (f:=λb k=>Zh8 b (lk t k)) (body:=λx:Int×(List Bool)=>Zdk N t c x.1 x.2) (fin:=λb=>b) (λ_ b=>(b.length:Int)=t.Nodes)
  (λk b hk hb=>by
   have hl:=ZbD.1 hT k hk;simp only[Ze]at hl;obtain⟨hA,hB,_⟩:=ZcO hl.1;rw[Zhd]at hA hB;have i1:idx b (lk t k).A=some (b.getD (lk t k).A.toNat false):=ZbL false hA.1 (by omega);have i2:idx b (lk t k).B=some (b.getD (lk t k).B.toNat false):=ZbL false hB.1 (by omega);have i3:idx (b.set (lk t k).A.toNat true) (lk t k).B=some ((b.set (lk t k).A.toNat true).getD (lk t k).B.toNat false):=ZbL false hB.1 (by simp;omega);show Zdk N t c k b=_;unfold Zdk;rw[Zaj (by simp;omega),Zs8 hk,Z9,hc k (by omega)];simp only[Z9,i1,i2,i3,ZaB (show k<1000000 by omega),Bool.not_false,Zak];unfold Zh8;cases h1:b.getD (lk t k).A.toNat false with
   |false=>cases h2:b.getD (lk t k).B.toNat false<;>simp
   |true=>cases h2:b.getD (lk t k).B.toNat false with
    |false=>simp
    |true=>simp[Zue h1,Zue h2])
  (λk b hk hb=>by rw[ZoB];exact hb)
  (λb hb=>by show Zdk N t c t.Links.length b=_;unfold Zdk;rw[Zai (by simp)]) hN (b0:=l) hl
 exact this
theorem Znk (hT:allB t.Links.length (λk=>Zfb t (lk t k)&&nojB t k)=true)(hL24:t.Links.length<=24)(hN:t.Links.length<N){l:List Bool}(hl:(l.length:Int)=t.Nodes):
  ZaH (λx:Int×(List Bool)=>ZcX N t [] x.1 x.2) N (0,l)=some (ZjM t l)/\((ZjM t l).length:Int)=t.Nodes:=by
 have:=ZdM (n:=t.Links.length) (f:=λb k=>Zh8 b (lk t k)) (body:=λx:Int×(List Bool)=>ZcX N t [] x.1 x.2) (fin:=λb=>b) (λ_ b=>(b.length:Int)=t.Nodes)
  (λk b hk hb=>by
   have hl:=ZbD.1 hT k hk;simp only[Ze]at hl;obtain⟨hA,hB,_⟩:=ZcO hl.1;rw[Zhd]at hA hB;have i1:idx b (lk t k).A=some (b.getD (lk t k).A.toNat false):=ZbL false hA.1 (by omega);have i2:idx b (lk t k).B=some (b.getD (lk t k).B.toNat false):=ZbL false hB.1 (by omega);have i3:idx (b.set (lk t k).A.toNat true) (lk t k).B=some ((b.set (lk t k).A.toNat true).getD (lk t k).B.toNat false):=ZbL false hB.1 (by simp;omega);show ZcX N t [] k b=_;unfold ZcX;rw[Zaj (by simp;omega),Zs8 hk,Z9,ZiX (by simp;omega) (by simp)];simp only[Z9,i1,i2,i3,ZaB (show k<1000000 by omega),List.contains_nil,Bool.not_false,Zak];unfold Zh8;cases h1:b.getD (lk t k).A.toNat false<;>cases h2:b.getD (lk t k).B.toNat false<;>simp)
  (λk b hk hb=>by rw[ZoB];exact hb)
  (λb hb=>by show ZcX N t [] t.Links.length b=_;unfold ZcX;rw[Zai (by simp)]) hN (b0:=l) hl
 exact this
theorem ZrP {α:Type}{b:Nat}{n:Int}(z:α)(h0:0<=n)(h1:n<=1000)(hb:b<=1000):Zhe b n n z=some (List.replicate n.toNat z):=by
 unfold Zhe;have:n*(b:Int)<=1000*1000:=Int.mul_le_mul h1 (by omega) (by omega) (by omega);rw[Zaj ⟨h0,Int.le_refl _,by omega,by omega⟩]
theorem ZlH (hT:allB t.Links.length (λk=>Zfb t (lk t k)&&nojB t k)=true)(hL24:t.Links.length<=24)(h0:1<=t.Nodes)(h12:t.Nodes<=12)(hN:30<=N)(c:Zbf)(hc:∀k:Nat,k<24->c.get (k:Int)=some false){m:Int}(hm0:0<=m)(hm:m<t.Nodes):
  Zkm N t m c=some (Zg7 t m)/\((Zg7 t m).length:Int)=t.Nodes:=by
 unfold Zkm;rw[ZrP _ (by omega) (by omega) (by omega),Z9,ZbL false hm0 (by simp;omega),Z9];have:=ZdM (n:=t.Nodes.toNat) (f:=λb _=>ZjM t b) (body:=λx:Int×(List Bool)=>Zd9 N t c x.1 x.2) (fin:=λb=>b) (λ_ b=>(b.length:Int)=t.Nodes)
  (λk b hk hb=>by
   show Zd9 N t c k b=_;unfold Zd9;rw[Zaj (by simp;omega),(Zop hT hL24 (by omega) c hc hb).1,Z9,ZaB (by omega)])
  (λk b hk hb=>(Zop hT hL24 (N:=N) (by omega) c hc hb).2)
  (λb hb=>by show Zd9 N t c t.Nodes.toNat b=_;unfold Zd9;rw[Zai (by simp;omega)]) (N:=N) (by omega) (b0:=(List.replicate t.Nodes.toNat false).set m.toNat true) (by simp;omega)
 rw[this.1];exact⟨rfl,this.2⟩
theorem Zqm (hT:allB t.Links.length (λk=>Zfb t (lk t k)&&nojB t k)=true)(hL24:t.Links.length<=24)(h0:1<=t.Nodes)(h12:t.Nodes<=12)(hN:30<=N){m:Int}(hm0:0<=m)(hm:m<t.Nodes):
  ZiV N t m []=some (Zg7 t m):=by
 unfold ZiV;rw[ZrP _ (by omega) (by omega) (by omega),Z9,ZbL false hm0 (by simp;omega),Z9];have:=ZdM (n:=t.Nodes.toNat) (f:=λb _=>ZjM t b) (body:=λx:Int×(List Bool)=>ZdK N t [] x.1 x.2) (fin:=λb=>b) (λ_ b=>(b.length:Int)=t.Nodes)
  (λk b hk hb=>by
   show ZdK N t [] k b=_;unfold ZdK;rw[Zaj (by simp;omega),(Znk hT hL24 (by omega) hb).1,Z9,ZaB (by omega)])
  (λk b hk hb=>(Znk hT hL24 (N:=N) (by omega) hb).2)
  (λb hb=>by show ZdK N t [] t.Nodes.toNat b=_;unfold ZdK;rw[Zai (by simp;omega)]) (N:=N) (by omega) (b0:=(List.replicate t.Nodes.toNat false).set m.toNat true) (by simp;omega)
 rw[this.1];rfl
theorem Zk7 (hN:40<=N):Zg3 N t=some (Zeo t):=by
 unfold Zg3 Zeo;by_cases h1:2<=t.Nodes
 ·by_cases h2:t.Nodes<=12
  ·by_cases h3:(t.Station.length:Int)=t.Nodes
   ·by_cases h4:t.Links.length<=24
    ·rw[Zai (by simp;omega),ZrP _ (by omega) (by omega) (by omega),Z9,Zu8 h3 (by omega) (by omega) (by omega),Z9];have e:decide (2<=t.Nodes)=true/\decide (t.Nodes<=12)=true/\((t.Station.length:Int)==t.Nodes)=true/\decide (t.Links.length<=24)=true:=by simp[h1,h2,h3,h4]
     rw[e.1,e.2.1,e.2.2.1,e.2.2.2];simp only[Zk];cases hT:allB t.Links.length (λk=>Zfb t (lk t k)&&nojB t k)with
     |false=>rfl
     |true=>
      simp only[Zak,Zk];rw[Zqm hT h4 (by omega) h2 (by omega) (by omega) (by omega),Z9];have hd:=(Zoq (N:=N) hT (by omega) (by omega) (by omega)).2;have hr:=(ZlH (N:=N) hT h4 (by omega) h2 (by omega) ⟨false,false,false,false,false,false,false,false,false,false,false,false,false,false,false,false,false,false,false,false,false,false,false,false⟩ (by decide) (m:=0) (by omega) (by omega)).2;have:=Za7 (n:=t.Nodes.toNat) (p:=λn=>(Zg7 t 0).getD n false&&degB t n) (body:=λx:Int=>ZfG N t (degs t) (Zg7 t 0) x) (bad:=.inr false) (fin:=.inl ()) (λk hk=>by
       unfold ZfG;have j1:idx (Zg7 t 0) (k:Int)=some ((Zg7 t 0).getD k false):=ZbL false (by omega) (by omega);have j2:idx t.Station (k:Int)=some (stB t k):=ZbL false (by omega) (by omega);have j3:idx (degs t) (k:Int)=some ((degs t).getD k 0):=ZbL 0 (by omega) (by omega);rw[Zaj (by simp;omega),j1,j2,j3,ZaB (by omega)];simp only[Z9];unfold degB;cases (Zg7 t 0).getD k false with
       |false=>rfl
       |true=>
        cases stB t k with
        |false=>rfl
        |true=>
         simp only[Zi,Zg,Zah,Zak,Zk,Bool.false_or];generalize (degs t).getD k 0=d;by_cases g1:d<1
         ·simp[g1,show ¬(1<=d)by omega]
         by_cases g2:d>2
         ·simp[g1,g2,show ¬(d<=2)by omega]
         simp[g1,g2,show 1<=d by omega,show d<=2 by omega]) (by unfold ZfG;rw[Zai (by simp;omega)]) (N:=N) (by omega)
      rw[this];cases allB t.Nodes.toNat (λn=>(Zg7 t 0).getD n false&&degB t n)<;>rfl
    rw[Zaj (by simp;omega)];simp[h4]
   rw[Zaj (by simp[h3])];simp[h3]
  rw[Zaj (by simp;omega)];simp[h2]
 rw[Zaj (by simp;omega)];simp[h1]
theorem Zqy (l:List Bool):l.contains false=!(allB l.length λn=>l.getD n false):=by
 rw[Zf,Zu,Zh,←Bool.not_eq_true,ZbD];constructor
 ·intro h hh;obtain⟨k,hk,e⟩:=List.getElem_of_mem h;have:=hh k hk;simp[Zy,hk,e]at this
 intro h;simp only[Classical.not_forall]at h;obtain⟨k,hk,e⟩:=h;simp[Zy,hk]at e;rw[←e];exact List.getElem_mem hk
theorem Zgl (hN:40<=N):ZgJ N t=some (if Zeo t then 0 else 260):=by
 unfold ZgJ Zeo;by_cases h1:2<=t.Nodes
 ·by_cases h2:t.Nodes<=12
  ·by_cases h3:(t.Station.length:Int)=t.Nodes
   ·rw[Zai (by simp[h3];omega)];by_cases h4:t.Links.length<=24
    ·rw[Zai (by simp;omega),Zrg h3 (by omega) (by omega),Z9,Z9];have e:decide (2<=t.Nodes)=true/\decide (t.Nodes<=12)=true/\((t.Station.length:Int)==t.Nodes)=true/\decide (t.Links.length<=24)=true:=by simp[h1,h2,h3,h4]
     rw[e.1,e.2.1,e.2.2.1,e.2.2.2];simp only[Zk];cases hT:allB t.Links.length (λk=>Zfb t (lk t k)&&nojB t k)with
     |false=>rfl
     |true=>
      simp only[Zi,Zg,Zah,Zk];rw[ZrP _ (by omega) (by omega) (by omega),Z9,(Zoq hT (by omega) (by omega) (by omega)).1,Z9];have hd:=(Zoq (N:=N) hT (by omega) (by omega) (by omega)).2;have hr:=ZlH (N:=N) hT h4 (by omega) h2 (by omega) ⟨false,false,false,false,false,false,false,false,false,false,false,false,false,false,false,false,false,false,false,false,false,false,false,false⟩ (by decide) (m:=0) (by omega) (by omega);have:=Za7 (n:=t.Station.length) (p:=λn=>degB t n) (body:=λx:Int=>Zgm N t (degs t) x) (bad:=.inr 260) (fin:=.inl ()) (λk hk=>by
       unfold Zgm;have j2:idx t.Station (k:Int)=some (stB t k):=ZbL false (by omega) (by omega);have j3:idx (degs t) (k:Int)=some ((degs t).getD k 0):=ZbL 0 (by omega) (by omega);rw[Zaj (by simp;omega),j2,j3,ZaB (by omega)];simp only[Z9];unfold degB;cases stB t k with
       |false=>rfl
       |true=>
        simp only[Zak,Zi,Bool.false_or];generalize (degs t).getD k 0=d;by_cases g1:d<1
        ·simp[g1,show ¬(1<=d)by omega]
        by_cases g2:d>2
        ·simp[g1,g2,show ¬(d<=2)by omega]
        simp[g1,g2,show 1<=d by omega,show d<=2 by omega]) (by unfold Zgm;rw[Zai (by simp)]) (N:=N) (by omega)
      rw[this,Z9,ZxF];have hsl:t.Station.length=t.Nodes.toNat:=by omega
      rw[hsl];cases hD:allB t.Nodes.toNat (λn=>degB t n)with
      |false=>simp
      |true=>
       simp only[Zak,Bool.and_true];rw[hr.1,Z9,Zf2 (by omega) (by omega),Z9,Zqy,show(Zg7 t 0).length=t.Nodes.toNat by omega];cases allB t.Nodes.toNat (λn=>(Zg7 t 0).getD n false)<;>rfl
    rw[Zaj (by simp;omega)];simp[h4]
   rw[Zaj (by simp[h3])];simp[h3]
  rw[Zaj (by simp;omega)];simp[h2]
 rw[Zaj (by simp;omega)];simp[h1]
end
end Go.Sh

namespace Go.Sh
open Go Go.Eng
theorem ZhK {α:Type}{b:Nat}{l m:List α}(h:l.length+m.length<=1000)(hb:b<=1000):appI b l m=some (l++m):=by
 unfold appI;have:(l.length+m.length)*b<=1000*1000:=Nat.mul_le_mul h hb;rw[Zaj ⟨by omega,by omega⟩]
def at0 (r:List Int)(k:Nat):Int:=r.getD k 0
def Zcq (t:Zan)(p:Int):Bool:=decide (0<=p)&&decide (p<2*(t.Links.length:Int))
def plk (t:Zan)(p:Int):ZaI:=t.Links.getD (Int.tdiv p 2).toNat dL
def frm (t:Zan)(p:Int):Int:=if(Int.tmod p 2==1)=true then(plk t p).B else(plk t p).A
def too (t:Zan)(p:Int):Int:=if(Int.tmod p 2==1)=true then(plk t p).A else(plk t p).B
def Zbi (t:Zan)(r:List Int):List Int:=frm t (at0 r 0)::r.map (too t)
def nd (t:Zan)(r:List Int)(k:Nat):Int:=(Zbi t r).getD k 0
def okAt (t:Zan)(r:List Int)(k:Nat):Bool:=
 Zcq t (at0 r k)&&(((k==0)||((frm t (at0 r k)==nd t r k)&&!stB t (nd t r k)))&&!((Zbi t r).take (k+1)).contains (nd t r (k+1)))
def ZbB (t:Zan)(r:List Int):Bool:=decide (1<=r.length)&&(decide (r.length<=8)&&allB r.length (okAt t r))
section
variable {N:Nat} {t:Zan}
structure Good (t:Zan):Prop where
 n2:2<=t.Nodes
 n12:t.Nodes<=12
 st:(t.Station.length:Int)=t.Nodes
 l24:t.Links.length<=24
 links:∀k,k<t.Links.length->Zfb t (lk t k)=true/\nojB t k=true
 nodes:∀n,n<t.Nodes.toNat->(Zg7 t 0).getD n false=true/\degB t n=true
theorem Zbe:Zeo t=true↔Good t:=by
 unfold Zeo;simp only[Ze,Zag,beq_iff_eq,ZbD];exact⟨λ⟨a,b,c,d,e,f⟩=>⟨a,b,c,d,e,f⟩,λh=>⟨h.n2,h.n12,h.st,h.l24,h.links,h.nodes⟩⟩
theorem Zwb {p:Int}(hp:Zcq t p=true):0<=Int.tdiv p 2/\Int.tdiv p 2<t.Links.length:=by
 simp only[Zcq,Ze,Zag]at hp;rw[Zm hp.1];omega
theorem Znq (hL:t.Links.length<=1000){p:Int}(hp:Zcq t p=true):idx t.Links (w64 (Int.tdiv p 2))=some (plk t p):=by
 obtain⟨h1,h2⟩:=Zwb hp;rw[ZaA (by omega) (by omega)];exact ZbL dL h1 h2
theorem Zeg (hL:t.Links.length<=1000){p:Int}(hp:Zcq t p=true):Zc8 N t p=some (frm t p):=by
 unfold Zc8 frm;rw[Znq hL hp];simp only[Z9];split<;>rfl
theorem ZeM (hL:t.Links.length<=1000){p:Int}(hp:Zcq t p=true):Zef N t p=some (too t p):=by
 unfold Zef too;rw[Znq hL hp];simp only[Z9];split<;>rfl
theorem Zlb (hL:t.Links.length<=1000){p:Int}(hp:Zcq t p=true):Zg6 N t p=some (plk t p).Delay:=by
 unfold Zg6;rw[Znq hL hp];rfl
theorem Znm (hL:t.Links.length<=1000){p:Int}(hp:Zcq t p=true):ZjY N t p=some (plk t p).Per:=by
 unfold ZjY;rw[Znq hL hp];rfl
theorem Zrx (hL:t.Links.length<=1000)(p:Int):Zkt N t p=some (Zcq t p):=by
 unfold Zkt Zcq;rw[ZaA (by omega) (by omega)]
theorem Zhg (g:Good t){p:Int}(hp:Zcq t p=true):ZeV t (frm t p)=true/\ZeV t (too t p)=true/\frm t p≠too t p:=by
 obtain⟨h1,h2⟩:=Zwb hp;have:=ZcO (g.links (Int.tdiv p 2).toNat (by omega)).1;unfold frm too;split
 ·exact⟨this.2.1,this.1,Ne.symm this.2.2⟩
 exact this
theorem ZlE {r:List Int}{k:Nat}(h:k<r.length):at0 r k=r[k]:=Zbp h 0
theorem Zei (r:List Int):(Zbi t r).length=r.length+1:=by simp[Zbi]
theorem ZhY {r:List Int}{k:Nat}(h:k<r.length):nd t r (k+1)=too t (at0 r k):=by
 unfold nd Zbi;rw[List.getD_cons_succ,Zbp (by simpa using h),ZlE h,List.getElem_map]
theorem ZyW (r:List Int):nd t r 0=frm t (at0 r 0):=rfl
theorem Zs2 {r:List Int}{k:Nat}(h:k<(Zbi t r).length):(Zbi t r)[k]=nd t r k:=by unfold nd;rw[Zbp h]
theorem ZyX (g:Good t){r:List Int}(hp:∀k,k<r.length->Zcq t (at0 r k)=true)(h1:1<=r.length){k:Nat}(hk:k<=r.length):ZeV t (nd t r k)=true:=by
 cases k with
 |zero=>exact(Zhg g (hp 0 (by omega))).1
 |succ k=>rw[ZhY (by omega)];exact(Zhg g (hp k (by omega))).2.1
theorem ZhV (hL:t.Links.length<=1000){r:List Int}(h1:1<=r.length)(h12:r.length<=100)(hp:∀k,k<r.length->Zcq t (at0 r k)=true)(hN:200<=N):ZdZ N t r=some (Zbi t r):=by
 unfold ZdZ;have e0:idx r 0=some (at0 r 0):=by unfold at0;exact ZbL 0 (Int.le_refl _) (by omega)
 rw[e0,Z9,Zeg hL (hp 0 (by omega)),Z9];have hlen:=Zei (t:=t) r;have:=ZdM (n:=r.length) (f:=λb k=>(Zbi t r).take (k+2)) (body:=λx:Int×(List Int)=>ZdJ N t r x.1 x.2) (fin:=λb=>b) (λk b=>b=(Zbi t r).take (k+1))
  (λk b hk hb=>by
   show ZdJ N t r k b=_;unfold ZdJ;subst hb;rw[Zaj (by simp;omega),Zbj hk,Z9];have e:r[k]=at0 r k:=(ZlE hk).symm;rw[e,ZeM hL (hp k hk),Z9,ZhK (by simp;omega) (by omega),Z9,ZaB (by omega)];rw[←ZhY hk,←Zs2 (by omega),List.take_append_getElem])
  (λk b hk hb=>rfl)
  (λb hb=>by show ZdJ N t r r.length b=_;unfold ZdJ;rw[Zai (by simp)]) (N:=N) (by omega) (b0:=[frm t (at0 r 0)]) (by simp[Zbi])
 rw[this.1,Z9,this.2,Z5 (by omega)]
theorem Zqk (g:Good t){r:List Int}(h12:r.length<=100)(hN:200<=N):Zds N t r=some (ZbB t r):=by
 have hL:t.Links.length<=1000:=by have:=g.l24;omega
 unfold Zds ZbB;by_cases h1:1<=r.length
 ·by_cases h8:r.length<=8
  ·rw[Zai (by simp;omega)];have a1:=Za7 (n:=r.length) (p:=λk=>Zcq t (at0 r k)) (body:=λx:Int=>ZfD N t r x) (bad:=.inr false) (fin:=.inl ()) (λk hk=>by
    unfold ZfD;rw[Zaj (by simp;omega),Zbj hk,Z9,Zrx hL,Z9,ZaB (by omega),ZlE hk];cases Zcq t r[k]<;>rfl) (by unfold ZfD;rw[Zai (by simp)]) (N:=N) (by omega)
   rw[a1,Z9];simp only[h1,h8,decide_true,Zk];cases hp:allB r.length (λk=>Zcq t (at0 r k))with
   |false=>
    have:allB r.length (okAt t r)=false:=by
     rw[←Bool.not_eq_true,ZbD];rw[←Bool.not_eq_true,ZbD]at hp;intro h;exact hp λk hk=>by have:=h k hk;simp only[okAt,Ze]at this;exact this.1
    rw[this];rfl
   |true=>
    rw[ZbD]at hp;simp only[Zak];rw[ZhV hL h1 h12 hp hN,Z9];have hlen:=Zei (t:=t) r;have a2:=Za7 (n:=r.length+1) (p:=λi=>!((Zbi t r).take i).contains (nd t r i)&&!(decide (0<i)&&(decide (i<r.length)&&(stB t (nd t r i)||!(frm t (at0 r i)==nd t r i)))))
     (body:=λx:Int=>ZfC N t r (Zbi t r) x) (bad:=.inr false) (fin:=.inl ()) (λi hi=>by
     unfold ZfC;have hi':i<(Zbi t r).length:=by omega
     have hsub:subI (Zbi t r) 0 (i:Int)=some ((Zbi t r).take i):=by
      unfold subI;rw[Zaj ⟨by omega,by omega,by omega⟩];simp
     rw[Zaj (by simp;omega),hsub,Z9,Zbj hi',Z9,Zs2 hi',ZiX (by simp;omega) (by simp;omega),Z9,ZaB (by omega)];cases hc:((Zbi t r).take i).contains (nd t r i)with
     |true=>rfl
     |false=>
      by_cases hi0:0<i
      ·by_cases hil:i<r.length
       ·have e1:decide ((i:Int)>0)=true:=by simp;omega
        have e2:decide ((i:Int)<(r.length:Int))=true:=by simp;omega
        rw[e1,e2,Zbj hil];have e3:r[i]=at0 r i:=(ZlE hil).symm;rw[e3];simp only[Zg,Zah,Zak,Z9];rw[Zf9 g.st (ZyX g hp h1 (by omega)),Zeg hL (hp i hil)];simp only[hi0,hil,decide_true,Zk,Bool.not_false,bne,Z9];cases stB t (nd t r i)<;>cases (frm t (at0 r i)==nd t r i)<;>rfl
       have e1:decide ((i:Int)>0)=true:=by simp;omega
       have e2:decide ((i:Int)<(r.length:Int))=false:=by simp;omega
       rw[e1,e2];simp[hil]
      have e1:decide ((i:Int)>0)=false:=by simp;omega
      rw[e1];simp[hi0]) (by unfold ZfC;rw[Zai (by simp;omega)]) (N:=N) (by omega)
    rw[a2,Z9];have:allB (r.length+1) (λi=>!((Zbi t r).take i).contains (nd t r i)&&!(decide (0<i)&&(decide (i<r.length)&&(stB t (nd t r i)||!(frm t (at0 r i)==nd t r i)))))=allB r.length (okAt t r):=by
     rw[Zf,ZbD,ZbD];constructor
     ·intro h k hk;have q1:=h k (by omega);have q2:=h (k+1) (by omega);simp only[Ze]at q1 q2;simp only[okAt,Ze];refine⟨hp k hk,?_,q2.1⟩;by_cases hk0:k=0
      ·simp[hk0]
      have:=q1.2;simp only[show 0<k by omega,hk,decide_true,Zk,Zh,Bool.or_eq_false_iff]at this;simp only[Zj,Ze,Zh];right;exact⟨by simpa using this.2,this.1⟩
     intro h i hi;simp only[Ze];constructor
     ·cases i with
      |zero=>simp
      |succ i=>
       have:=h i (by omega);simp only[okAt,Ze]at this;exact this.2.2
     by_cases hi0:0<i
     ·by_cases hil:i<r.length
      ·have:=h i hil;simp only[okAt,Ze,Zj,Zh]at this;have h2:=this.2.1;rcases h2 with h2|⟨h2,h3⟩
       ·simp at h2;omega
       simp[h2,h3]
      simp[hil]
     simp[hi0]
    rw[this];cases allB r.length (okAt t r)<;>rfl
  rw[Zaj (by simp;omega)];simp[h8]
 rw[Zaj (by simp;omega)];simp[h1]
theorem Zpu {σ:Type}(hL:t.Links.length<=1000)(y:σ->Int->ZbH->Option (σ×Bool)){r:List Int}(g:σ){k:Nat}(hk:k<r.length)(hk':k<1000):ZaZ N y r ⟨t⟩ (k:Int) g=
  if Zcq t (at0 r k)=true then(y g k ⟨at0 r k,frm t (at0 r k),too t (at0 r k)⟩).bind λq=>if(!q.2)=true then some (.inr q.1)else some (.inl (((k+1:Nat):Int),q.1))else some (.inr g):=by
 unfold ZaZ;rw[Zaj (by simp;omega),Zbj hk,Z9,←ZlE hk,ZaB (by omega)];simp only;have hpo:(if decide (at0 r k<0)=true then some true else some (decide (at0 r k≥w64 (2*(t.Links.length:Int)))))=some (!Zcq t (at0 r k)):=by
  rw[ZaA (by omega) (by omega)];unfold Zcq;by_cases h1:at0 r k<0
  ·rw[Zaj (by simpa using h1)];simp[show ¬(0<=at0 r k)by omega]
  rw[Zai (by simpa using h1)];by_cases h2:at0 r k<2*(t.Links.length:Int)
  ·rw[decide_eq_false (by omega),decide_eq_true (show 0<=at0 r k by omega),decide_eq_true h2];rfl
  rw[decide_eq_true (by omega),decide_eq_true (show 0<=at0 r k by omega),decide_eq_false h2];rfl
 rw[hpo,Z9];cases hp:Zcq t (at0 r k)with
 |false=>rfl
 |true=>
  rw[Znq hL hp];simp only[Zi,Zg,Zah,Z9,Zak];unfold frm too;split<;>rfl
theorem Zus {σ:Type}(y:σ->Int->ZbH->Option (σ×Bool)){r:List Int}(g:σ):ZaZ N y r ⟨t⟩ (r.length:Int) g=some (.inr g):=by
 unfold ZaZ;rw[Zai (by simp)]
theorem ZpN {a:Zat}{x:Int}(h0:0<=x)(h:x<12):a.get x=some (a.l.getD x.toNat false):=by
 unfold Zat.get;exact ZbL false h0 (by show x<((12:Nat):Int);omega)
theorem Ztp {a:Zat}{x:Int}{v:Bool}{y:Nat}(h0:0<=x)(h:x<12):(a.set x v).l.getD y false=if y=x.toNat then v else a.l.getD y false:=by
 rw[Zat.l_set];have hlen:a.l.length=12:=rfl;rw[Zy,Zy,ZI];by_cases e:y=x.toNat
 ·subst e;rw[Zaj rfl,Zaj (by omega),Zaj rfl];rfl
 rw[Zai (Ne.symm e),Zai e]
def VInv (t:Zan)(r:List Int)(k:Nat)(v:Int×Int×Zat):Prop:=
 v.1=k/\(0<k->v.2.1=nd t r k)/\∀x:Nat,x<12->v.2.2.l.getD x false=(decide (0<k)&&((Zbi t r).take (k+1)).contains (x:Int))
theorem ZjE {r:List Int}{k:Nat}(h:k<(Zbi t r).length):(Zbi t r).take (k+1)=(Zbi t r).take k++[nd t r k]:=by
 rw[←Zs2 h,List.take_append_getElem]
theorem ZuV (g:Good t){r:List Int}{k:Nat}(hk:k<r.length)(h12:r.length<=100)(hpre:∀j,j<k->Zcq t (at0 r j)=true)(hp:Zcq t (at0 r k)=true){v:Int×Int×Zat}(hv:VInv t r k v):
  ∃v' e,Zbu N ⟨t⟩ v.1 v.2.1 v.2.2 (k:Int) ⟨at0 r k,frm t (at0 r k),too t (at0 r k)⟩=some (v',e)/\((e=0/\okAt t r k=true/\VInv t r (k+1) v')∨(e=1/\okAt t r k=false/\v'.1=k)):=by
 obtain⟨good,at_,seen⟩:=v;obtain⟨e1,e2,e3⟩:=hv;simp only at e1 e2 e3;subst e1;obtain⟨f1,f2,f3⟩:=Zhg g hp;rw[Zhd]at f1 f2;have hn:=g.n12;have hlen:=Zei (t:=t) r;have hpk:∀j,j<k+1->Zcq t (at0 r j)=true:=λj hj=>by
  by_cases e:j=k
  ·subst e;exact hp
  exact hpre j (by omega)
 have hmem:∀(s:Zat),(∀x:Nat,x<12->s.l.getD x false=((Zbi t r).take (k+1)).contains (x:Int))→
   s.l.getD (too t (at0 r k)).toNat false=((Zbi t r).take (k+1)).contains (nd t r (k+1))∧
   (((Zbi t r).take (k+1)).contains (nd t r (k+1))=false->VInv t r (k+1) (w64 ((k:Int)+1),too t (at0 r k),s.set (too t (at0 r k)) true)):=by
  intro s hs;constructor
  ·rw[hs _ (by omega),ZhY hk,Zp f2.1]
  intro hc;refine⟨by simp only;rw[ZaB (by omega)],λ_=>(ZhY hk).symm,λx hx=>?_⟩;simp only;rw[Ztp f2.1 (by omega),ZjE (by omega),List.contains_append,ZhY hk];simp only[show 0<k+1 by omega,decide_true,Zk,List.contains_cons,List.contains_nil,Bool.or_false];by_cases e:x=(too t (at0 r k)).toNat
  ·rw[Zaj e];have:((x:Int)==too t (at0 r k))=true:=by simp;omega
   rw[this,Bool.or_true]
  rw[Zai e,hs x hx];have:((x:Int)==too t (at0 r k))=false:=by simp;omega
  rw[this,Bool.or_false]
 unfold Zbu okAt;by_cases hk0:k=0
 ·subst hk0;rw[Zaj (by simp)];simp only;rw[ZpN f1.1 (by omega),Z9,ZpN f2.1 (by omega),Z9];have hs0:∀x:Nat,x<12->(seen.set (frm t (at0 r 0)) true).l.getD x false=((Zbi t r).take (0+1)).contains (x:Int):=λx hx=>by
   rw[Ztp f1.1 (by omega)];have he:seen.l.getD x false=false:=by rw[e3 x hx];simp
   rw[he];show _=[frm t (at0 r 0)].contains (x:Int);simp only[List.contains_cons,List.contains_nil,Bool.or_false];by_cases e:x=(frm t (at0 r 0)).toNat
   ·rw[Zaj e];symm;simp;omega
   rw[Zai e];symm;simp;omega
  obtain⟨m1,m2⟩:=hmem _ hs0;rw[m1];have hc:((Zbi t r).take (0+1)).contains (nd t r (0+1))=false:=by
   show[frm t (at0 r 0)].contains _=false;rw[ZhY hk];simp only[List.contains_cons,List.contains_nil,Bool.or_false];simp[Ne.symm f3]
  rw[hc];refine⟨_,0,rfl,.inl ⟨rfl,?_,m2 hc⟩⟩;rw[hp];rfl
 rw[Zai (by simp;omega)];simp only;have ha:=e2 (by omega);subst ha;have hst:idx t.Station (nd t r k)=some (stB t (nd t r k)):=by
  apply Zf9 g.st;obtain⟨j,rfl⟩:∃j,k=j+1:=⟨k-1,by omega⟩;rw[ZhY (by omega)];exact(Zhg g (hpre j (by omega))).2.1
 have hs1:∀x:Nat,x<12->seen.l.getD x false=((Zbi t r).take (k+1)).contains (x:Int):=λx hx=>by rw[e3 x hx];simp[show 0<k by omega]
 obtain⟨m1,m2⟩:=hmem _ hs1;rw[hst,hp,show(k==0)=false by simp[hk0]];simp only[Z9,bne,Bool.false_or,Zk];cases hf:(frm t (at0 r k)==nd t r k)with
 |false=>exact⟨_,1,rfl,.inr ⟨rfl,rfl,rfl⟩⟩
 |true=>
  cases hs:stB t (nd t r k)with
  |true=>exact⟨_,1,rfl,.inr ⟨rfl,rfl,rfl⟩⟩
  |false=>
   simp only[Zi,Zg,Zah,Z9];rw[ZpN f2.1 (by omega),Z9,Z9,m1];cases hc:((Zbi t r).take (k+1)).contains (nd t r (k+1))with
   |true=>exact⟨_,1,rfl,.inr ⟨rfl,rfl,rfl⟩⟩
   |false=>exact⟨_,0,rfl,.inl ⟨rfl,rfl,m2 hc⟩⟩
theorem ZuW (g:Good t){r:List Int}(h12:r.length<=100):∀(n N k:Nat) (v:Int×Int×Zat),r.length-k=n->k<=r.length->n<N->(∀j,j<k->okAt t r j=true)->VInv t r k v->∀M:Nat,
  ∃s:(Int×Int×Zat)×Nat,ZaH (λx:Int×((Int×Int×Zat)×Nat)=>ZaZ M (λ(s:(Int×Int×Zat)×Nat) (x522:Int) (x523:ZbH)=>Zgc (λv:Int×Int×Zat=>Zbu M ⟨t⟩ v.1 v.2.1 v.2.2 x522 x523) s) r ⟨t⟩ x.1 x.2) N ((k:Int),(v,0))=some s∧
   (s.2=0∨s.2=1)/\(s.1.1==(r.length:Int))=allB r.length (okAt t r):=by
 have hL:t.Links.length<=1000:=by have:=g.l24;omega
 intro n;induction n with
 |zero=>
  intro N k v h1 h2 h3 hpre hv M;obtain rfl:k=r.length:=by omega
  cases N with
  |zero=>omega
  |succ N=>
   refine⟨(v,0),by rw[Za9 (Zus _ _)],.inl rfl,?_⟩;rw[hv.1,ZbD.2 hpre];simp
 |succ n ih=>
  intro N k v h1 h2 h3 hpre hv M;have hk:k<r.length:=by omega
  cases N with
  |zero=>omega
  |succ N=>
   have hbad:okAt t r k=false->(((k:Nat):Int)==(r.length:Int))=allB r.length (okAt t r):=λhb=>by
    have e1:(((k:Nat):Int)==(r.length:Int))=false:=by simp;omega
    rw[e1];symm;rw[←Bool.not_eq_true,ZbD];intro h;rw[h k hk]at hb;cases hb
   cases hp:Zcq t (at0 r k)with
   |false=>
    refine⟨(v,0),?_,.inl rfl,?_⟩
    ·rw[Za9];show ZaZ M _ r ⟨t⟩ (k:Int) (v,0)=_;rw[Zpu hL _ _ hk (by omega),Zai (by rw[hp];simp)]
    simp only[hv.1];exact hbad (by unfold okAt;rw[hp];rfl)
   |true=>
    obtain⟨v',e,s1,s2⟩:=ZuV (N:=M) g hk h12 (λj hj=>by have:=hpre j hj;simp only[okAt,Ze]at this;exact this.1) hp hv;have hy:ZaZ M (λ(s:(Int×Int×Zat)×Nat) (x522:Int) (x523:ZbH)=>Zgc (λv:Int×Int×Zat=>Zbu M ⟨t⟩ v.1 v.2.1 v.2.2 x522 x523) s) r ⟨t⟩ (k:Int) (v,0)=
      if(!(e==0))=true then some (.inr (v',e))else some (.inl (((k+1:Nat):Int),(v',e))):=by
     rw[Zpu hL _ _ hk (by omega),Zaj hp];simp only[Zgc,Zak,s1,Zab,Z9]
    rcases s2 with⟨rfl,s3,s4⟩|⟨rfl,s3,s4⟩
    ·rw[ZbV (y:=(((k+1:Nat):Int),(v',0))) hy];exact ih N (k+1) v' (by omega) (by omega) (by omega) (λj hj=>by
      by_cases e:j=k
      ·subst e;exact s3
      exact hpre j (by omega)) s4 M
    refine⟨(v',1),by rw[Za9 (r:=(v',1)) hy],.inr rfl,?_⟩;rw[s4];exact hbad s3
theorem ZhM (g:Good t){r:List Int}(h12:r.length<=100)(hN:200<=N):Zco N ⟨t⟩ r=some (ZbB t r):=by
 unfold Zco ZbB;by_cases h1:1<=r.length
 ·by_cases h8:r.length<=8
  ·rw[Zai (by simp;omega)];simp only[h1,h8,decide_true,Zk];obtain⟨s,s1,s2,s3⟩:=ZuW g h12 r.length N 0 (0,0,⟨false,false,false,false,false,false,false,false,false,false,false,false⟩) (by omega) (by omega) (by omega) (λj hj=>by omega) ⟨rfl,λh=>by omega,λx hx=>by
    simp only[Nat.lt_irrefl,decide_false,Bool.false_and];revert x;decide⟩ N
   unfold Zc6 Zc5;simp only[Z9];rw[show((0:Nat):Int)=0 from rfl]at s1;rw[s1];simp only[Z9];rcases s2 with e|e
   ·rw[e];simp only[beq_self_eq_true,Zak,Z9];rw[s3]
   rw[e];simp only[show((1:Nat)==0)=false from rfl,beq_self_eq_true,Zg,Zah,Zak,Z9];rw[s3]
  rw[Zaj (by simp;omega)];simp[h8]
 rw[Zaj (by simp;omega)];simp[h1]
end
end Go.Sh

namespace Go.Sh
open Go Go.Eng
theorem Zvs {ρ:Type}{n:Nat}{p:Nat->Bool}{body:Int->Option (Int⊕ρ)}{bad fin:ρ}(hstep:∀k:Nat,k<n->body (k:Int)=if p k=true then some (.inl ((k+1:Nat):Int))else some (.inr bad))
  (hend:body (n:Int)=some (.inr fin)):∀(m N k:Nat),n-k=m->k<=n->m<N->ZaH body N (k:Int)=some (if(List.range' k m).all p then fin else bad):=by
 intro m;induction m with
 |zero=>
  intro N k h1 h2 h3;obtain rfl:k=n:=by omega
  cases N with
  |zero=>omega
  |succ N=>rw[Za9 hend];rfl
 |succ m ih=>
  intro N k h1 h2 h3;cases N with
  |zero=>omega
  |succ N=>
   rw[Z0,List.all_cons];by_cases hp:p k=true
   ·rw[ZbV (by rw[hstep k (by omega),Zaj hp]),ih N (k+1) (by omega) (by omega) (by omega),hp,Zk]
   rw[Za9 (by rw[hstep k (by omega),Zai hp])];simp[hp]
section
variable {N:Nat} {t:Zan}
theorem ZUU {b:Nat}{c:Int}(h0:0<=c)(h1:c<=1000)(hb:b<=1000):Zhe b 0 c (0:Int)=some []:=by
 unfold Zhe;have:c*(b:Int)<=1000*1000:=Int.mul_le_mul h1 (by omega) (by omega) (by omega);rw[Zaj ⟨Int.le_refl _,h0,by omega,by omega⟩];rfl
theorem Zb1 {r:List Int}(h:ZbB t r=true):1<=r.length/\r.length<=8/\∀k,k<r.length->Zcq t (at0 r k)=true:=by
 simp only[ZbB,Ze,Zag,ZbD]at h;exact⟨h.1,h.2.1,λk hk=>by have:=h.2.2 k hk;simp only[okAt,Ze]at this;exact this.1⟩
theorem ZhN (g:Good t){r:List Int}(hv:ZbB t r=true)(hN:200<=N):ZcI N ⟨t⟩ r=some (Zbi t r):=by
 have hL:t.Links.length<=1000:=by have:=g.l24;omega
 obtain⟨h1,h8,hp⟩:=Zb1 hv;have hlen:=Zei (t:=t) r;unfold ZcI;rw[ZaA (by omega) (by omega),ZUU (by omega) (by omega) (by omega),Z9];unfold Zc6 Zc5;simp only[Z9];have:=ZdM (n:=r.length) (f:=λb k=>(Zbi t r).take (k+2))
  (body:=λx:Int×(List Int)=>ZaZ N (λ(s:(List Int)) (x13:Int) (x14:ZbH)=>ZdP (λv:(List Int)=>ZbE N v x13 x14) s) r ⟨t⟩ x.1 x.2) (fin:=λb=>b) (λk b=>b=if k=0 then[]else(Zbi t r).take (k+1))
  (λk b hk hb=>by
   show ZaZ N _ r ⟨t⟩ k b=_;rw[Zpu hL _ _ hk (by omega),Zaj (hp k hk)];have:ZbE N b (k:Int) ⟨at0 r k,frm t (at0 r k),too t (at0 r k)⟩=some ((Zbi t r).take (k+2)):=by
    unfold ZbE;subst hb;by_cases hk0:k=0
    ·subst hk0;rw[Zaj (by simp),Zaj rfl,ZhK (by simp) (by omega),Z9,Z9,ZhK (by simp) (by omega),Z9,←ZhY hk];unfold nd Zbi;obtain⟨a,l,rfl⟩:∃a l,r=a::l:=by cases r with
      |nil=>simp at hk
      |cons a l=>exact⟨a,l,rfl⟩
     simp
    rw[Zai (by simp;omega),Zai hk0,Z9,ZhK (by simp;omega) (by omega),Z9,←ZhY hk,ZjE (k:=k+1) (by omega)]
   simp only[ZdP,this,Zab,Z9];rfl)
  (λk b hk hb=>by rw[Zai (by omega)])
  (λb hb=>Zus _ _) (N:=N) (by omega) (b0:=[]) (by rw[Zaj rfl])
 rw[this.1,Z9,Z9,this.2,Zai (by omega),Z5 (by omega)]
def errR (t:Zan)(r:List Int):Int:=if Zeo t then(if ZbB t r then 0 else 310)else 260
theorem Zfy {r:List Int}(h12:r.length<=100)(hN:200<=N):ZeJ N t r=some (errR t r):=by
 unfold ZeJ errR;rw[Zgl (by omega),Z9];cases hT:Zeo t with
 |false=>rfl
 |true=>
  simp only[Zak,Zaf,Zg,Zah];rw[ZhM (Zbe.1 hT) h12 hN,Z9];cases ZbB t r<;>rfl
theorem Zkf {r:List Int}:errR t r=0↔Zeo t=true/\ZbB t r=true:=by
 unfold errR;cases Zeo t<;>cases ZbB t r<;>simp
section
variable {r:List Int}
theorem ZoG (h12:r.length<=100)(hN:200<=N)(he:errR t r≠0):ZeI N t r=some ([],errR t r):=by
 unfold ZeI ZdH;rw[Zfy h12 hN];simp[he]
theorem Zp2 (h12:r.length<=100)(hN:200<=N)(he:errR t r≠0):ZeO N t r=some (0,0,errR t r):=by
 unfold ZeO;rw[ZoG h12 hN he];simp[he]
theorem ZoF (h12:r.length<=100)(hN:200<=N)(he:errR t r=0):ZeI N t r=some (Zbi t r,0):=by
 obtain⟨hT,hv⟩:=Zkf.1 he;unfold ZeI ZdH Ze2;rw[Zfy h12 hN,he];simp only[Z9,Zaf,Zg,Zah];rw[ZhN (Zbe.1 hT) hv hN];rfl
theorem Zp1 (h12:r.length<=100)(hN:200<=N)(he:errR t r=0):ZeO N t r=some (nd t r 0,nd t r r.length,0):=by
 have hlen:=Zei (t:=t) r;unfold ZeO;rw[ZoF h12 hN he];simp only[Z9,Zaf,Zg,Zah];rw[show(0:Int)=((0:Nat):Int)from rfl,Zbj (show 0<(Zbi t r).length by omega),ZaA (by omega) (by omega),show((Zbi t r).length:Int)-1=((r.length:Nat):Int)by omega,Zbj (by omega),Zs2,Zs2];rfl
end
end
end Go.Sh
namespace Go.Sh
open Go Go.Eng
section
variable {N:Nat} {t:Zan}
def Zts (a b:List Int):Bool:=allB a.length λi=>allB b.length λk=>!(w64 (Int.tdiv (at0 a i) 2)==w64 (Int.tdiv (at0 b k) 2))
theorem ZoE {a b:List Int}(ha:a.length<=100)(hb:b.length<=100)(hN:200<=N):Zhv N a b=some (!Zts a b):=by
 unfold Zhv Zts;have h2:∀i,i<a.length->ZaH (λx:Int=>Ze0 N b (at0 a i) x) N 0=some (if allB b.length (λk=>!(w64 (Int.tdiv (at0 a i) 2)==w64 (Int.tdiv (at0 b k) 2)))then .inl ()else .inr true):=λi hi=>
  Za7 (n:=b.length) (λk hk=>by
   unfold Ze0;rw[Zaj (by simp;omega),Zbj hk,Z9,←ZlE hk,ZaB (by omega)];cases (w64 (Int.tdiv (at0 a i) 2)==w64 (Int.tdiv (at0 b k) 2))<;>rfl) (by unfold Ze0;rw[Zai (by simp)]) (by omega)
 have:=Za7 (n:=a.length) (p:=λi=>allB b.length λk=>!(w64 (Int.tdiv (at0 a i) 2)==w64 (Int.tdiv (at0 b k) 2))) (body:=λx:Int=>Ze1 N a b x) (bad:=.inr true) (fin:=.inl ()) (λi hi=>by
  unfold Ze1;rw[Zaj (by simp;omega),Zbj hi,Z9,←ZlE hi,h2 i hi,ZaB (by omega)];cases allB b.length (λk=>!(w64 (Int.tdiv (at0 a i) 2)==w64 (Int.tdiv (at0 b k) 2)))<;>rfl) (by unfold Ze1;rw[Zai (by simp)]) (N:=N) (by omega)
 rw[this];cases allB a.length (λi=>allB b.length λk=>!(w64 (Int.tdiv (at0 a i) 2)==w64 (Int.tdiv (at0 b k) 2)))<;>rfl
def Zlg (A B:List Int):Bool:=(List.range' 1 (A.length-2)).all λi=>!B.contains (at0 A i)
theorem Zjs {A B:List Int}(h1:2<=A.length)(hA:A.length<=100)(hB:B.length<=100)(hN:200<=N):Ze6 N A B=some (!Zlg A B):=by
 unfold Ze6 Zlg;have:=Zvs (n:=A.length-1) (p:=λi=>!B.contains (at0 A i)) (body:=λx:Int=>ZeD N A B x) (bad:=.inr true) (fin:=.inl ()) (λi hi=>by
  unfold ZeD;rw[Zaj (by rw[ZaA (by omega) (by omega)];simp;omega),Zbj (by omega),Z9,←ZlE (by omega),ZiX (by omega) (by omega),Z9,ZaB (by omega)];cases B.contains (at0 A i)<;>rfl) (by unfold ZeD;rw[Zai (by rw[ZaA (by omega) (by omega)];simp;omega)]) (A.length-2) N 1 (by omega) (by omega) (by omega)
 rw[show((1:Nat):Int)=1 from rfl]at this;rw[this];cases (List.range' 1 (A.length-2)).all (λi=>!B.contains (at0 A i))<;>rfl
theorem ZkV (g:Good t){a b:List Int}(hva:ZbB t a=true)(hvb:ZbB t b=true)(hN:200<=N):Zdw N ⟨t⟩ a b=some (!Zlg (Zbi t a) (Zbi t b)):=by
 obtain⟨a1,a8,_⟩:=Zb1 hva;obtain⟨b1,b8,_⟩:=Zb1 hvb;have hla:=Zei (t:=t) a;have hlb:=Zei (t:=t) b;unfold Zdw Zlg;rw[ZhN g hva hN,Z9,ZhN g hvb hN,Z9];generalize hA:Zbi t a=A at*;generalize hB:Zbi t b=B at*;have hsub:subI A 1 (w64 ((A.length:Int)-1))=some ((A.take (A.length-1)).drop 1):=by
  rw[ZaA (by omega) (by omega)];unfold subI;rw[Zaj ⟨by omega,by omega,by omega⟩,show((A.length:Int)-1).toNat=A.length-1 by omega];rfl
 rw[hsub,Z9];have hil:((A.take (A.length-1)).drop 1).length=A.length-2:=by simp;omega
 have:=Za7 (n:=A.length-2) (p:=λi=>!B.contains (at0 A (i+1))) (body:=λx:Int=>Zdo N B ((A.take (A.length-1)).drop 1) x) (bad:=.inr true) (fin:=.inl ()) (λi hi=>by
  unfold Zdo;rw[Zaj (by rw[hil];simp;omega),Zbj (by omega),Z9];have e:((A.take (A.length-1)).drop 1)[i]'(by omega)=at0 A (i+1):=by
   rw[ZlE (by omega),List.getElem_drop,List.getElem_take]
   congr 1;omega
  rw[e,ZgQ (by omega) (by omega),Z9,ZaB (by omega)];cases B.contains (at0 A (i+1))<;>rfl) (by unfold Zdo;rw[Zai (by rw[hil];simp)]) (N:=N) (by omega)
 rw[this];have e2:(List.range' 1 (A.length-2)).all (λi=>!B.contains (at0 A i))=allB (A.length-2) (λi=>!B.contains (at0 A (i+1))):=by
  unfold allB;rw[Zf,Zq,Zq];constructor
  ·intro h i hi;exact h (i+1) (by simp only[ZX]at hi;simp only[List.mem_range'_1];omega)
  intro h i hi;simp only[List.mem_range'_1]at hi;have:=h (i-1) (by simp only[ZX];omega)
  rwa [show i-1+1=i by omega]at this
 rw[e2];cases allB (A.length-2) (λi=>!B.contains (at0 A (i+1)))<;>rfl
def ZpP (t:Zan)(a b:List Int):Bool:=Zts a b&&(Zlg (Zbi t a) (Zbi t b)&&Zlg (Zbi t b) (Zbi t a))
theorem Zk5 (g:Good t){a b:List Int}(hva:ZbB t a=true)(hvb:ZbB t b=true)(hN:200<=N):Zd0 N t a b=some (ZpP t a b):=by
 obtain⟨a1,a8,pa⟩:=Zb1 hva;obtain⟨b1,b8,pb⟩:=Zb1 hvb;have hla:=Zei (t:=t) a;have hlb:=Zei (t:=t) b;have hL:t.Links.length<=1000:=by have:=g.l24;omega
 unfold Zd0 ZpP;have h2:∀i:Nat,i<a.length->ZaH (λx:Int=>ZfE N a b (i:Int) x) N 0=some (if allB b.length (λk=>!(w64 (Int.tdiv (at0 a i) 2)==w64 (Int.tdiv (at0 b k) 2)))then .inl ()else .inr false):=λi hi=>
  Za7 (n:=b.length) (λk hk=>by
   unfold ZfE;rw[Zaj (by simp;omega),Zbj hi,Z9,Zbj hk,Z9,←ZlE hi,←ZlE hk,ZaB (by omega)];cases (w64 (Int.tdiv (at0 a i) 2)==w64 (Int.tdiv (at0 b k) 2))<;>rfl) (by unfold ZfE;rw[Zai (by simp)]) (by omega)
 have:=Za7 (n:=a.length) (p:=λi=>allB b.length λk=>!(w64 (Int.tdiv (at0 a i) 2)==w64 (Int.tdiv (at0 b k) 2))) (body:=λx:Int=>ZfF N a b x) (bad:=.inr false) (fin:=.inl ()) (λi hi=>by
  unfold ZfF;rw[Zaj (by simp;omega),h2 i hi,ZaB (by omega)];cases allB b.length (λk=>!(w64 (Int.tdiv (at0 a i) 2)==w64 (Int.tdiv (at0 b k) 2)))<;>rfl) (by unfold ZfF;rw[Zai (by simp)]) (N:=N) (by omega)
 rw[this];unfold Zts;cases allB a.length (λi=>allB b.length λk=>!(w64 (Int.tdiv (at0 a i) 2)==w64 (Int.tdiv (at0 b k) 2)))with
 |false=>rfl
 |true=>
  simp only[Zak,Z9,Zk];rw[ZhV hL a1 (by omega) pa hN,ZhV hL b1 (by omega) pb hN];simp only[Z9];rw[Zjs (by omega) (by omega) (by omega) hN,Zjs (by omega) (by omega) (by omega) hN];cases Zlg (Zbi t a) (Zbi t b)<;>cases Zlg (Zbi t b) (Zbi t a)<;>rfl
theorem Zp5 {a b:List Int}(ha:a.length<=100)(hb:b.length<=100)(hN:200<=N):
  ZeK N t a b=some (if errR t a=0 then(if ZbB t b then(ZpP t a b,0)else(false,310))else(false,errR t a)):=by
 unfold ZeK ZdG;rw[Zfy ha hN,Z9];by_cases he:errR t a=0
 ·obtain⟨hT,hva⟩:=Zkf.1 he;have g:=Zbe.1 hT;rw[Zaj he,he];simp only[Zaf,Zg,Zah];unfold Zeb;rw[ZhM g hb hN,Z9];cases hvb:ZbB t b with
  |false=>rfl
  |true=>
   simp only[Zi,Zg,Zah,Zak];rw[ZoE ha hb hN,ZkV g hva hvb hN,ZkV g hvb hva hN];unfold ZpP;cases Zts a b<;>cases Zlg (Zbi t a) (Zbi t b)<;>cases Zlg (Zbi t b) (Zbi t a)<;>rfl
 rw[Zai he];have:(errR t a !=0)=true:=by simpa using he
 rw[this];rfl
end
end Go.Sh
