/- Part of the proof. -/
import Derived.Test.YtddgnfnfojoljaaProofReasonsBase
import Derived.KernelRfl
import Derived.Test.YtddgnfnfojoljaaProofReasonsRd
set_option linter.all false
namespace Go.Sh
open Go Go.Eng
theorem ZjQ {q q':Nat->Bool}{s:Nat}(h0:q s=false)(h1:q' s=true)(h:∀ k,k≠s->q' k=q k):∀ n,(List.range n).countP q'=(List.range n).countP q+(if s<n then 1 else 0)
 | 0=>by simp
 | n+1=>by
  rw [List.range_succ,List.countP_append,List.countP_append,ZjQ h0 h1 h n]
  by_cases e:n=s
  ·subst e
   simp [h0,h1]
  have:q' n=q n:=h n e
  simp only [List.countP_cons,List.countP_nil,this]
  by_cases c:s<n
  ·have c2:s<n+1:=by omega
   simp only [c,c2,Z3];omega
  have c2:¬ s<n+1:=by omega
  simp only [c,c2,Z0];omega
section
variable {N:Nat} {p:Z8} {f:List Z7}
def dep (p:Z8)(g:Zad):Nat:=(List.range p.Periods.length).countP λk=>g.l.getD k 0 != -1
theorem Zpq (g:Zad):dep p g<=p.Periods.length:=by
 unfold dep
 have:=List.countP_le_length (p:=λk=>g.l.getD k 0 != -1) (l:=List.range p.Periods.length)
 simpa using this
theorem ZpP {g:Zad}(hP:p.Periods.length<=12){s:Nat}(hs:s<p.Periods.length)(h0:g.l.getD s 0 = -1){x:Int}(hx:x ≠ -1):dep p (g.set s x)=dep p g+1:=by
 unfold dep
 rw [ZjQ (q:=λk=>g.l.getD k 0 != -1) (q':=λk=>(g.set s x).l.getD k 0 != -1) (s:=s) (by rw [h0];rfl) (by rw [Zja g s s x (by omega),Z2 rfl,bne_iff_ne];exact hx) (λk hk=>by rw [Zja g s k x (by omega),Z1 hk]),Z2 hs]
def SI (p:Z8)(A:Nat):Nat->List Zal->Prop
 | 0,l=>l.length<=A/\∀ t∈l,dep p t.given=0
 | d+1,l=>∃ l1 B,l=l1++B/\SI p A d l1/\B.length<=A/\∀ t∈B,dep p t.given=d+1
theorem SI.len {A:Nat}:∀ {d:Nat} {l:List Zal},SI p A d l->l.length<=A*(d+1)
 | 0,l,h=>by rw [Nat.mul_one];exact h.1
 | d+1,l,h=>by
  obtain ⟨l1,B,rfl,h1,h2,_⟩:=h
  have:=SI.len h1
  rw [ZE,Nat.mul_add A (d+1) 1]
  omega
theorem SI.pop {A:Nat}{t:Zal}:∀ {d:Nat} {l:List Zal},SI p A d (l++[t])->SI p A (dep p t.given) l
 | 0,l,h=>by
  obtain ⟨h1,h2⟩:=h
  rw [h2 t (by simp)]
  exact ⟨by rw [ZE] at h1;omega,λu hu=>h2 u (by simp [hu])⟩
 | d+1,l,h=>by
  obtain ⟨l1,B,e,h1,h2,h3⟩:=h
  rcases List.eq_nil_or_concat B with rfl|⟨B',u,rfl⟩
  ·rw [List.append_nil] at e
   subst e
   exact SI.pop h1
  rw [List.concat_eq_append,← Zn] at e
  obtain ⟨rfl,e2⟩:=List.append_inj' e rfl
  cases e2
  rw [h3 t (by simp)]
  exact ⟨l1,B',rfl,h1,by rw [List.concat_eq_append,ZE] at h2;omega,λu hu=>h3 u (by simp [hu])⟩
theorem ZpL (hp:Zeh p=true)(hall:∀ c,c<f.length->Zbg p f c=true){A:Nat}(ha:∀ x∈f,x.Arms.length<=A)(hA:A<1000000){n m c:Nat}{g:Zad}(hc:c<f.length)(h1:f.length-c<=n)(h2:f.length-c<=m)(hg:AOK p g):hB p f n c g=hB p f m c g:=by
 have a1:=Zh4 hp hall (M:=2000+A+1) (by omega) (λx hx=>by have:=ha x hx;omega) n (2000+A+1+n+m) c g hc h1 (by omega) hg
 have a2:=Zh4 hp hall (M:=2000+A+1) (by omega) (λx hx=>by have:=ha x hx;omega) m (2000+A+1+n+m) c g hc h2 (by omega) hg
 rw [a1] at a2
 exact Option.some.inj a2
theorem ZmY (s:Nat)(g:Zad)(R:Nat->Zad->Bool):∀ as:List Zax,as.all (armH p s g R)=(as.all (rOK p s g)&&(kids s g as).all λt=>R t.choice.toNat t.given)
 | []=>rfl
 | a::as=>by
  rw [List.all_cons,List.all_cons,ZmY s g R as]
  unfold kids
  by_cases h:a.By = -1
  ·rw [List.filter_cons_of_pos (by simpa using h),ZM,List.all_cons]
   have e1:armH p s g R a=R a.Next.toNat (g.set s a.From):=by unfold armH;rw [Z2 h]
   have e2:rOK p s g a=true:=by unfold rOK;rw [Z2 h]
   rw [e1,e2,Zi]
   cases R a.Next.toNat (g.set s a.From)<;>simp
  rw [List.filter_cons_of_neg (by simpa using h)]
  have e1:armH p s g R a=rOK p s g a:=by unfold armH rOK;rw [Z1 h,Z1 h]
  rw [e1,Bool.and_assoc]
def wt (p:Z8)(A:Nat)(t:Zal):Nat:=(A+1) ^ (13-dep p t.given)
def wts (p:Z8)(A:Nat)(l:List Zal):Nat:=(l.map (wt p A)).sum
theorem Znz (A:Nat)(a b:List Zal):wts p A (a++b)=wts p A a+wts p A b:=by simp [wts]
theorem Zpd {A W:Nat}:∀ {l:List Zal},(∀ t∈l,wt p A t=W)->wts p A l=l.length*W
 | [],_=>by simp [wts]
 | t::l,h=>by
  have:=Zpd (l:=l) λu hu=>h u (by simp [hu])
  unfold wts at this ⊢
  rw [ZM,List.sum_cons,this,h t (by simp),ZF,ZS]
  omega
structure TOK (p:Z8) (f:List Z7) (t:Zal):Prop where
 c0:0<=t.choice
 c1:t.choice<(f.length:Int)
 g:AOK p t.given
def Zj7 (p:Z8)(f:List Z7)(t:Zal):Bool:=hB p f f.length t.choice.toNat t.given
theorem Zm5 (hp:Zeh p=true)(hall:∀ c,c<f.length->Zbg p f c=true){A:Nat}(hA1:1<=A)(ha:∀ x∈f,x.Arms.length<=A)(hA:A<1000000){r:List (Zam×Bool)}{t0:Zal}(ht0:TOK p f t0)(hd0:dep p t0.given=0)
  (hN:2000+A<N) (hN2:(A+1) ^ 13<N) :
  ZaO (λx:(List Zal)×(List (Zam×Bool))=>ZbX N f (p,r) x.1 x.2) N ([t0],[])=some (if Zj7 p f t0=true then .inl () else .inr false):=by
 have hP:=(VP.of hp).len
 obtain ⟨o,ho,eo⟩:=Zbs (body:=λx:(List Zal)×(List (Zam×Bool))=>ZbX N f (p,r) x.1 x.2)
  (λx=>MOK p x.2/\(∀ t∈x.1,TOK p f t)/\(∃ d,d<=12/\SI p A d x.1)/\x.1.all (Zj7 p f)=Zj7 p f t0) (λx=>wts p A x.1)
  (λo=>o=if Zj7 p f t0=true then .inl () else .inr false) (λx hx=>by
   obtain ⟨l,m⟩:=x
   obtain ⟨h1,h2,⟨d,hd,h3⟩,h4⟩:=hx
   simp only at h1 h2 h3 h4
   simp only [ZbX]
   rcases List.eq_nil_or_concat l with rfl|⟨l0,t,rfl⟩
   ·right
    exact ⟨_,by rw [Z1 (by simp)],by rw [← h4];rfl⟩
   ·rw [List.concat_eq_append] at h2 h3 h4 ⊢
    have ht:=h2 t (by simp)
    obtain ⟨c,hc⟩:∃ c:Nat,t.choice=c:=⟨t.choice.toNat,by have:=ht.c0;omega⟩
    have hcl:c<f.length:=by have:=ht.c1;omega
    obtain ⟨_,s,hs,hsl,harm⟩:=Zjc (hall c hcl)
    have hb:=ha _ (List.getElem_mem hcl)
    have hlen:=h3.len
    have hlen2:A*(d+1)<=A*13:=Nat.mul_le_mul_left A (by omega)
    rw [ZE,ZF,ZH] at hlen
    have e1:w64 (((List.length (l0++[t]):Nat):Int)-1)=(l0.length:Int):=by
     rw [ZE,ZF,ZH,Zbc (by omega) (by omega)];omega
    have e2:idx (l0++[t]) ((l0.length:Nat):Int)=some t:=by rw [ZeT];simp
    have e3:popI (l0++[t]) ((l0.length:Nat):Int)=some l0:=by
     unfold popI
     rw [Z2 (by simp;omega)]
     simp
    rw [Z2 (by simp),e1,e2,ZU,e3,ZU,hc,Zbl hcl,ZU,hs,Zd3 t.given (by omega),ZU]
    have hstep:Zj7 p f t=((t.given.l.getD s 0 == -1)&&f[c].Arms.all (armH p s t.given (hB p f f.length))):=by
     unfold Zj7
     rw [hc,Zk,ZpL hp hall ha hA hcl (n:=f.length) (m:=f.length+1) (by omega) (by omega) ht.g]
     show (match f[c]? with
      | none=>false
      | some x=>(t.given.l.getD x.Stream.toNat 0 == -1)&&x.Arms.all (armH p x.Stream.toNat t.given (hB p f f.length)))=_
     rw [Zy hcl]
     simp only [hs,Zk]
    have hbad:Zj7 p f t=false->Zj7 p f t0=false:=λhf=>by
     rw [← h4,List.all_append]
     simp [hf]
    by_cases hz:t.given.l.getD s 0 = -1
    ·rw [Z1 (by rw [hz];simp),ZU]
     obtain ⟨m',hm',hloop⟩:=Zou (N:=N) (by omega) hp (r:=r) h1 hsl ht.g hs rfl harm (l:=l0) (by omega) (by omega) (by omega)
     rw [hloop,ZU]
     rw [ZmY,beq_iff_eq.2 hz,Zi] at hstep
     cases hr:f[c].Arms.all (rOK p s t.given) with
     | false =>
      right
      rw [hr,Bool.false_and] at hstep
      exact ⟨_,by rw [Z1 (by simp)],by rw [hbad hstep,Z1 (by simp)]⟩
     | true =>
      left
      rw [hr,Zi] at hstep
      have hkid:∀ u∈kids s t.given f[c].Arms,TOK p f u/\dep p u.given=dep p t.given+1:=λu hu=>by
       unfold kids at hu
       obtain ⟨a,haf,rfl⟩:=List.mem_map.1 hu
       obtain ⟨ha1,ha2⟩:=List.mem_filter.1 haf
       rw [beq_iff_eq] at ha2
       obtain ⟨hok,hre⟩:=harm a ha1
       unfold ZbH at hre
       rw [Z2 ha2,ZZ] at hre
       have hf0:=hok.f0
       have hlt:=hok.lt
       have ho:=ZkA hok hsl (k:=0) (by omega)
       exact ⟨⟨by simp only;omega,by simp only;omega,ht.g.set hP hsl (by simpa using ho)⟩,ZpP hP hsl hz (by omega)⟩
      have hpop:=SI.pop h3
      have hdl:=Zpq (p:=p) t.given
      refine ⟨(l0++kids s t.given f[c].Arms,m'),by rw [Z2 rfl],⟨hm',λu hu=>?_,?_,?_⟩,?_⟩
      ·rcases List.mem_append.1 hu with hu|hu
       ·exact h2 u (by simp [hu])
       exact (hkid u hu).1
      ·by_cases hk0:kids s t.given f[c].Arms=[]
       ·exact ⟨dep p t.given,by omega,by simp only;rw [hk0,List.append_nil];exact hpop⟩
       obtain ⟨u,hu⟩:=List.exists_mem_of_ne_nil _ hk0
       have:=Zpq (p:=p) u.given
       have:=(hkid u hu).2
       exact ⟨dep p t.given+1,by omega,l0,_,rfl,hpop,Nat.le_trans (ZkG _ _ _) hb,λu hu=>(hkid u hu).2⟩
      ·rw [← h4]
       simp only [List.all_append,List.all_cons,List.all_nil,Bool.and_true]
       rw [hstep]
       rfl
      simp only
      rw [Znz,Znz]
      have w1:wts p A [t]=(A+1) ^ (13-dep p t.given):=by simp [wts,wt]
      have hdt:dep p t.given<=12:=by omega
      have w2:=Zpd (p:=p) (A:=A) (W:=(A+1) ^ (13-(dep p t.given+1))) (l:=kids s t.given f[c].Arms) (λu hu=>by unfold wt;rw [(hkid u hu).2])
      have w3:(A+1) ^ (13-dep p t.given)=(A+1) ^ (13-(dep p t.given+1))*(A+1):=by
       rw [← Nat.pow_succ]
       congr 1
       omega
      have w4:0<(A+1) ^ (13-(dep p t.given+1)):=Nat.pow_pos (by omega)
      have w5:=Nat.mul_le_mul_right ((A+1) ^ (13-(dep p t.given+1))) (Nat.le_trans (ZkG s t.given f[c].Arms) hb)
      rw [w1,w2,w3,Nat.mul_add,Nat.mul_comm _ A]
      omega
    right
    rw [beq_eq_false_iff_ne.2 hz,Bool.false_and] at hstep
    exact ⟨_,by rw [Z2 (by simpa using hz)],by rw [hbad hstep,Z1 (by simp)]⟩) N ([t0],[]) ⟨MOK.nil,λt ht=>by simp only [ZP] at ht;subst ht;exact ht0,⟨0,by omega,by simp;omega,λt ht=>by simp only [ZP] at ht;subst ht;exact hd0⟩,by simp⟩ (by
   simp only [wts,wt,ZM,ZN,List.sum_cons,List.sum_nil,hd0]
   simpa using hN2)
 rw [ho,eo]
end
end Go.Sh

namespace Go.Sh
open Go Go.Eng
def g0:Zad:=⟨-1,-1,-1,-1,-1,-1,-1,-1,-1,-1,-1,-1⟩
theorem Zpp (k:Nat)(h:k<12):g0.l.getD k 0 = -1:=by
 rcases k with _|_|_|_|_|_|_|_|_|_|_|_|k<;>first|rfl|omega
theorem Zk7 (n M:Nat):ZaO (λx:Int×Zad=>Zcv M x.1 x.2) (n+13) (0,(Zad.mk 0 0 0 0 0 0 0 0 0 0 0 0))=some g0:=by kernel_rfl
theorem ZoJ (n M:Nat):ZaO (λx:Int×Zad=>Zc1 M x.1 x.2) (n+13) (0,(Zad.mk 0 0 0 0 0 0 0 0 0 0 0 0))=some g0:=by kernel_rfl
section
variable {N:Nat} {p:Z8} {f:List Z7}
theorem ZgN (h:ZiV p f=true):1<=f.length/\f.length<=2000/\∀ c,c<f.length->Zbg p f c=true:=by
 unfold ZiV at h
 simp only [Ze,ZZ] at h
 exact ⟨h.1.1.1,h.1.1.2,ZdU.1 h.1.2⟩
theorem ZsE (hp:Zeh p=true):AOK p g0:=λk hk=>.inl (Zpp k (by have:=(VP.of hp).len;omega))
theorem ZsF (hp:Zeh p=true):dep p g0=0:=by
 unfold dep
 rw [List.countP_eq_zero]
 intro k hk
 rw [List.mem_range] at hk
 rw [Zpp k (by have:=(VP.of hp).len;omega)]
 simp
def Zho (p:Z8)(f:List Z7):Bool:=hB p f f.length 0 g0
def Zfn (p:Z8)(f:List Z7):Int:=if Zeh p=true then (if ZiV p f=true then (if Zho p f=true then 0 else 351) else 350) else 340
theorem Zjr (hp:Zeh p=true)(hf:ZiV p f=true){A:Nat}(hA1:1<=A)(ha:∀ x∈f,x.Arms.length<=A)(hA:A<1000000)(hN:2000+A<N)(hN2:(A+1) ^ 13<N):Zev N p f=some (Zho p f):=by
 obtain ⟨h1,h2,hall⟩:=ZgN hf
 obtain ⟨n,rfl⟩:∃ n,N=n+13:=⟨N-13,by omega⟩
 unfold Zev
 have e1:Zdv (n+13) p=some (p,[]):=rfl
 rw [e1,ZU,ZoJ,ZU]
 have e2:Zc3 (n+13) [] 0 g0=some [⟨0,g0⟩]:=rfl
 simp only [e2,ZU]
 rw [Zm5 hp hall hA1 ha hA (t0:=⟨0,g0⟩) ⟨by simp,by simp only;omega,ZsE hp⟩ (ZsF hp) hN hN2,ZU]
 have e3:Zj7 p f ⟨0,g0⟩=Zho p f:=rfl
 rw [e3]
 cases Zho p f<;>rfl
theorem Zju {A:Nat}(hA1:1<=A)(ha:∀ x∈f,x.Arms.length<=A)(hA:A<1000000)(hfl:f.length<N)(hN:2000+A<N)(hN2:(A+1) ^ 13<N):ZbY N p f=some (Zfn p f):=by
 unfold ZbY Zfn
 rw [ZgF (by omega),ZU]
 cases hp:Zeh p with
 | false=>rfl
 | true =>
  simp only [Z3]
  rw [Z1 (by simp),Ziz hfl (by omega) (λx hx=>by have:=ha x hx;omega),ZU]
  cases hf:ZiV p f with
  | false=>rfl
  | true =>
   simp only [Z3]
   rw [Z1 (by simp),Zjr hp hf hA1 ha hA hN hN2,ZU]
   cases Zho p f<;>rfl
theorem Zjl {A:Nat}(ha:∀ x∈f,x.Arms.length<=A)(hA:A<1000000)(hfl:f.length<N)(hN:5000+A<N):ZdN N p f=some (Zfn p f):=by
 unfold ZdN Zfn
 rw [Zjn (by omega),ZU]
 cases hp:Zeh p with
 | false=>rfl
 | true =>
  simp only [Z3]
  rw [Z1 (by simp),Zkr (λx hx=>((VP.of hp).per x hx).1) hfl (by omega) (λx hx=>by have:=ha x hx;omega),ZU]
  cases hf:ZiV p f with
  | false=>rfl
  | true =>
   simp only [Z3]
   obtain ⟨h1,h2,hall⟩:=ZgN hf
   rw [Z1 (by simp)]
   have e0:ZaO (λx:Int×Zad=>Zcv N x.1 x.2) N (0,(Zad.mk 0 0 0 0 0 0 0 0 0 0 0 0))=some g0:=by
    obtain ⟨n,rfl⟩:∃ n,N=n+13:=⟨N-13,by omega⟩
    exact Zk7 n _
   rw [e0,ZU]
   have e1:=Zh4 hp hall (M:=2001+A) (by omega) (λx hx=>by have:=ha x hx;omega) f.length N 0 g0 (by omega) (by omega) (by omega) (ZsE hp)
   have e2:((0:Nat):Int)=0:=rfl
   rw [e2] at e1
   rw [e1,ZU]
   have e3:hB p f f.length 0 g0=Zho p f:=rfl
   rw [e3]
   cases Zho p f<;>rfl
end
end Go.Sh

namespace Go.Sh
open Go Go.Eng
def Zgd (q:Nat->Bool):Nat->Option Nat
 | 0=>none
 | n+1=>match Zgd q n with
  | some j=>some j
  | none=>if q n=true then some n else none
theorem Zgr {q:Nat->Bool}:∀ {n:Nat},Zgd q n=none↔∀ k,k<n->q k=false
 | 0=>by simp [Zgd]
 | n+1=>by
  have ih:=Zgr (q:=q) (n:=n)
  simp only [Zgd]
  cases h:Zgd q n with
  | some j =>
   simp only [reduceCtorEq,false_iff]
   intro h2
   rw [ih.2 λk hk=>h2 k (by omega)] at h
   cases h
  | none =>
   simp only
   have h3:=ih.1 h
   constructor
   ·intro h2 k hk
    by_cases e:k=n
    ·subst e
     cases hq:q k with
     | false=>rfl
     | true=>rw [hq,Z2 rfl] at h2;cases h2
    exact h3 k (by omega)
   intro h2
   rw [h2 n (by omega),Z1 (by simp)]
theorem Zgq {q:Nat->Bool}{j:Nat}:∀ {n:Nat},Zgd q n=some j↔j<n/\q j=true/\∀ k,k<j->q k=false
 | 0=>by simp [Zgd]
 | n+1=>by
  have ih:=Zgq (q:=q) (j:=j) (n:=n)
  simp only [Zgd]
  cases h:Zgd q n with
  | some j' =>
   simp only [ZW]
   rw [h] at ih
   simp only [ZW] at ih
   constructor
   ·intro e
    obtain ⟨a,b,c⟩:=ih.1 e
    exact ⟨by omega,b,c⟩
   rintro ⟨a,b,c⟩
   by_cases e:j=n
   ·subst e
    obtain ⟨a',b',_⟩:=Zgq.1 h
    rw [c j' a'] at b'
    cases b'
   exact ih.2 ⟨by omega,b,c⟩
  | none =>
   simp only
   have h3:=Zgr.1 h
   constructor
   ·intro h2
    split at h2
    ·rename_i hq
     cases h2
     exact ⟨by omega,hq,h3⟩
    cases h2
   rintro ⟨a,b,c⟩
   by_cases e:j=n
   ·subst e;rw [Z2 b]
   rw [h3 j (by omega)] at b;cases b
section
variable {N:Nat} {p:Z8}
def byS (p:Z8)(i:Nat)(x:Int)(all:List Int):Int:=match Zgd (λj=>ZdG p i x j (all.getD j 0)) (i+1) with
 | some j=>j
 | none => -1
theorem ZpQ (hN:2000<=N)(hp:VP p){i:Nat}(hi:i<1000){x:Int}(hx:0<=x)(hx2:x<=1000){all:List Int}(hl:all.length=i+1)(ha:∀ y∈all,0<=y/\y<=1000) :
  ZaO (λy:Int×Int=>Zcg N p i x all y.1 y.2) N (0,-1)=some (byS p i x all):=by
 obtain ⟨r,hr,e⟩:=Zbs (body:=λy:Int×Int=>Zcg N p i x all y.1 y.2)
  (λy=>∃ k:Nat,y.1=k/\k<=i+1/\((y.2 = -1/\∀ m,m<k->ZdG p i x m (all.getD m 0)=false)∨(∃ m:Nat,m<k/\y.2=m/\ZdG p i x m (all.getD m 0)=true/\∀ m',m'<m->ZdG p i x m' (all.getD m' 0)=false)))
  (λy=>((i:Int)+2-y.1).toNat) (λb=>b=byS p i x all) (λy hy=>by
   obtain ⟨j,b⟩:=y
   obtain ⟨k,rfl,k1,k2⟩:=hy
   simp only at k2 ⊢
   simp only [Zcg]
   rcases k2 with ⟨rfl,k3⟩|⟨m,m1,rfl,m2,m3⟩
   ·by_cases c:k<=i
    ·left
     rw [Z2 (by simp;omega),Zbl (by omega),ZU]
     obtain ⟨a0,a1⟩:=ha _ (List.getElem_mem (by omega:k<all.length))
     rw [Zga hN hp hx hx2 a0 a1,ZU]
     have eg:all[k]'(by omega)=all.getD k 0:=(Za2 (by omega) 0).symm
     rw [eg]
     cases hm:ZdG p i x k (all.getD k 0) with
     | true=>exact ⟨_,by rw [Z2 rfl,ZU],⟨k+1,by simp only;rw [ZaS (by omega)],by omega,.inr ⟨k,by omega,rfl,hm,k3⟩⟩,by simp only;rw [ZaS (by omega)];omega⟩
     | false=>exact ⟨_,by rw [Z1 (by simp),ZU],⟨k+1,by simp only;rw [ZaS (by omega)],by omega,.inl ⟨rfl,λm hm'=>by
       by_cases e:m=k
       ·subst e;exact hm
       exact k3 m (by omega)⟩⟩,by simp only;rw [ZaS (by omega)];omega⟩
    right
    refine ⟨_,by rw [Z1 (by simp;omega)],?_⟩
    unfold byS
    rw [Zgr.2 λm hm=>k3 m (by omega)]
   right
   refine ⟨_,by rw [Z1 (by simp)],?_⟩
   unfold byS
   rw [Zgq.2 ⟨by omega,m2,m3⟩]) N (0,-1) ⟨0,rfl,by omega,.inl ⟨rfl,λm hm=>by omega⟩⟩ (by simp only;omega)
 rw [hr,e]
def c00:Z7:=⟨0,[]⟩
def a00:Zax:=⟨0,0,0,0⟩
def Zob (l:List Zax)(b:Int):Bool:=decide (b ≠ -1)&&decide (l≠[])&&decide ((l.getD (l.length-1) a00).By=b)
def ZpO (l:List Zax)(t:Int):List Zax:=l.set (l.length-1) { l.getD (l.length-1) a00 with To:=t }
def bS (p:Z8)(given:List Int)(c x:Nat):Int:=if c=0/\0<x then -2 else byS p given.length x (given++[(x:Int)])
def ZkY (p:Z8)(given:List Int)(c:Nat)(R:List Z7->List Int->Option (List Z7))(x:Nat)(s:List Z7):Option (List Z7):=
 if Zob (s.getD c c00).Arms (bS p given c x)=true then some (s.set c ⟨(s.getD c c00).Stream,ZpO (s.getD c c00).Arms ((x:Int)+1)⟩)
 else if bS p given c x = -1 then (R s (given++[(x:Int)])).map λr=>r.set c ⟨(r.getD c c00).Stream,(r.getD c c00).Arms++[⟨x,(x:Int)+1,-1,s.length⟩]⟩
 else some (s.set c ⟨(s.getD c c00).Stream,(s.getD c c00).Arms++[⟨x,(x:Int)+1,bS p given c x,0⟩]⟩)
def ZkJ (p:Z8):Nat->List Z7->List Int->Option (List Z7)
 | 0,_,_=>none
 | n+1,f,given=>if 2000<=f.length then none else upF (ZkY p given f.length (ZkJ p n)) (p.Periods.getD given.length 0).toNat (f++[⟨given.length,[]⟩])
def Zda (s:List Z7):Prop:=∀ y∈s,y.Arms.length<=240
structure GI (f:List Z7) (i x:Nat) (s:List Z7):Prop where
 pre:f <+: s
 lt:f.length<s.length
 le:s.length<=2000
 st:(s.getD f.length c00).Stream=i
 ar:(s.getD f.length c00).Arms.length<=x
 sm:Zda s
def RK (R:List Z7->List Int->Option (List Z7)):Prop:=∀ s g r,s.length<=2000->Zda s->R s g=some r->s <+: r/\r.length<=2000/\Zda r
theorem Zda.set {s:List Z7}(h:Zda s){c:Nat}{y:Z7}(hy:y.Arms.length<=240):Zda (s.set c y):=λz hz=>by
 rcases List.mem_or_eq_of_mem_set hz with hz|rfl
 ·exact h z hz
 exact hy
theorem ZoS {α:Type}{l m:List α}{i:Nat}(x:α)(h:l <+: m)(hi:l.length<=i):l <+: m.set i x:=by
 obtain ⟨t,rfl⟩:=h
 rw [ZR _ _ hi]
 exact ⟨_,rfl⟩
theorem Zku {α:Type}{l m:List α}{i:Nat}(d:α)(h:l <+: m)(hi:i<l.length):m.getD i d=l.getD i d:=by
 obtain ⟨t,rfl⟩:=h
 simp [Zs,Zt hi]
theorem ZgM {α:Type}{l:List α}{i:Nat}(d x:α)(hi:i<l.length):(l.set i x).getD i d=x:=by
 simp [Zs,hi]
theorem Zom (l:List Zax)(t:Int):(ZpO l t).length=l.length:=by simp [ZpO]
theorem GI.set {f:List Z7}{i x x':Nat}{s:List Z7}(h:GI f i x s){l:List Zax}(hl:l.length<=x')(hx:x'<=240):GI f i x' (s.set f.length ⟨(s.getD f.length c00).Stream,l⟩):=
 {pre:=ZoS _ h.pre (Nat.le_refl _)
  lt:=by rw [ZI];exact h.lt
  le:=by rw [ZI];exact h.le
  st:=by rw [ZgM _ _ h.lt];exact h.st
  ar:=by rw [ZgM _ _ h.lt];exact hl
  sm:=h.sm.set (by simp only;omega) }
theorem GI.step {f:List Z7}{given:List Int}{R:List Z7->List Int->Option (List Z7)}(hR:RK R){i x:Nat}{s s':List Z7}(h:GI f i x s)(hx:x<240)(hs:ZkY p given f.length R x s=some s'):GI f i (x+1) s':=by
 unfold ZkY at hs
 split at hs
 ·cases hs
  exact h.set (by rw [Zom];have:=h.ar;omega) (by omega)
 split at hs
 ·cases hr:R s (given++[(x:Int)]) with
  | none=>rw [hr] at hs;cases hs
  | some r =>
   rw [hr] at hs
   cases hs
   obtain ⟨h1,h2,h3⟩:=hR s _ r h.le h.sm hr
   have h4:GI f i x r :=
    {pre:=h.pre.trans h1
     lt:=Nat.lt_of_lt_of_le h.lt h1.length_le
     le:=h2
     st:=by rw [Zku _ h1 h.lt];exact h.st
     ar:=by rw [Zku _ h1 h.lt];exact h.ar
     sm:=h3 }
   exact h4.set (by have:=h4.ar;rw [ZE,ZJ];omega) (by omega)
 cases hs
 exact h.set (by have:=h.ar;rw [ZE,ZJ];omega) (by omega)
theorem GI.start {f:List Z7}(i:Nat)(hf:f.length<2000)(hs:Zda f):GI f i 0 (f++[⟨i,[]⟩]):=
 {pre:=List.prefix_append _ _
  lt:=by simp
  le:=by simp;omega
  st:=by simp [Zs]
  ar:=by simp [Zs]
  sm:=λy hy=>by
   rcases List.mem_append.1 hy with hy|hy
   ·exact hs y hy
   simp only [ZP] at hy;subst hy;simp }
theorem GI.loop {f:List Z7}{given:List Int}{R:List Z7->List Int->Option (List Z7)}(hR:RK R){i:Nat}{s0:List Z7}(h0:GI f i 0 s0) :
  ∀ {n:Nat} {s:List Z7},n<=240->upF (ZkY p given f.length R) n s0=some s->GI f i n s
 | 0,s,_,h=>by simp only [upF,ZW] at h;subst h;exact h0
 | n+1,s,hn,h=>by
  simp only [upF] at h
  cases hu:upF (ZkY p given f.length R) n s0 with
  | none=>rw [hu] at h;cases h
  | some s1 =>
   rw [hu] at h
   exact (GI.loop hR h0 (by omega) hu).step hR (by omega) h
theorem Zh5 (hp:VP p):∀ n,RK (ZkJ p n)
 | 0=>λs g r _ _ h=>by cases h
 | n+1=>λs g r h1 h2 h=>by
  simp only [ZkJ] at h
  split at h
  ·cases h
  rename_i hc
  have hper:(p.Periods.getD g.length 0).toNat<=240:=by
   by_cases e:g.length<p.Periods.length
   ·rw [Za2 e]
    have:=hp.per _ (List.getElem_mem e)
    omega
   rw [Zs,Zz (by omega)];simp
  have hG:=GI.loop (Zh5 hp n) (GI.start g.length (by omega) h2) hper h
  exact ⟨hG.pre,hG.le,hG.sm⟩
def resS (o:Option (List Z7)):List Z7×Bool:=match o with
 | some r=>(r,true)
 | none=>([],false)
theorem ZlB {l:List Zax}(hl:l.length<=1000)(b:Int):Zds l b=some (Zob l b):=by
 unfold Zds Zob
 by_cases hb:b = -1
 ·subst hb;rfl
 rw [Z2 (by simpa using hb),decide_eq_true hb,Zi]
 by_cases hn:l=[]
 ·subst hn;rfl
 have h0:0<l.length:=List.length_pos_iff.2 hn
 rw [Z2 (by simp;omega),decide_eq_true hn,Zi]
 have e:w64 (((List.length l:Nat):Int)-1)=((l.length-1:Nat):Int):=by rw [Zbc (by omega) (by omega)];omega
 rw [e,Zbl (by omega),ZU,Za2 (by omega)]
 rfl
theorem Zoi (hp:VP p):∀ (n M:Nat) (f:List Z7) (given:List Int),2000<=M->given.length+n=p.Periods.length->(∀ y∈given,0<=y/\y<=1000)->f.length<=2000->Zda f →
  ZdM (M+n+1) p f given=some (resS (ZkJ p n f given))
 | 0,M,f,given,hM,hg,ha,hf,hs=>by
  show ZcJ _ _ p f given=_
  unfold ZcJ
  rw [Z2 (by rw [show given.length=p.Periods.length by omega];simp)]
  rfl
 | n+1,M,f,given,hM,hg,ha,hf,hs=>by
  show ZcJ (M+(n+1)) (ZdM (M+n+1)) p f given=_
  unfold ZcJ
  simp only [ZkJ]
  have hP:=hp.len
  by_cases hc:2000<=f.length
  ·rw [Z2 (by simp;omega),Z2 hc]
   rfl
  rw [Z1 (by simp;omega),Z1 hc]
  have hap:appI 32 f [(⟨((List.length given:Nat):Int),[]⟩:Z7)]=some (f++[⟨((List.length given:Nat):Int),[]⟩]):=ZbD (by simp;omega) (by omega)
  rw [hap,ZU]
  have hin:given.length<p.Periods.length:=by omega
  have hpe:=hp.per _ (List.getElem_mem hin)
  have hpg:p.Periods.getD given.length 0=p.Periods[given.length]:=Za2 hin 0
  have hup:=ZkH (λk (s:List Z7)=>(k,s)) (·.1) (λ_ _=>rfl) (ρ:=List Z7⊕(List Z7×Bool)) (body:=λy:Int×List Z7=>Zch (M+(n+1)) (ZdM (M+n+1)) p given ((List.length given:Nat):Int) ((List.length f:Nat):Int) y.1 y.2)
   (step:=ZkY p given f.length (ZkJ p n)) (n:=(p.Periods.getD given.length 0).toNat) (s0:=f++[⟨given.length,[]⟩]) (fin:=λs=>.inl s) (bad:=.inr ([],false)) (N:=M+(n+1)) (λk s hk hu=>by
    have hG:=GI.loop (Zh5 hp n) (GI.start given.length (by omega) hs) (by omega) hu
    simp only [Zch]
    rw [Zbl hin,ZU,Z2 (by simp;omega)]
    have ha1:appI 8 [] given=some ([]++given):=ZbD (by simp;omega) (by omega)
    have ha2:appI 8 ([]++given) [(k:Int)]=some (given++[(k:Int)]):=by rw [ZQ];exact ZbD (by simp;omega) (by omega)
    have hall:∀ y∈given++[(k:Int)],0<=y/\y<=1000:=λy hy=>by
     rcases List.mem_append.1 hy with hy|hy
     ·exact ha y hy
     simp only [ZP] at hy;omega
    rw [ha1,ZU,ha2,ZU,ZpQ (by omega) hp (by omega) (by omega) (by omega) (by simp) hall,ZU]
    have hb:(if (((List.length f:Nat):Int)==0&&decide ((k:Int)>0))=true then some (-2) else some (byS p given.length (k:Int) (given++[(k:Int)])))=some (bS p given f.length k):=by
     unfold bS
     by_cases e:f.length=0/\0<k
     ·rw [Z2 e,Z2 (by simp only [Ze,beq_iff_eq,ZZ];omega)]
     rw [Z1 e,Z1 (by simp only [Ze,beq_iff_eq,ZZ];omega)]
    rw [hb,ZU,Zbl hG.lt,ZU]
    have hsg:s[f.length]'hG.lt=s.getD f.length c00:=(Za2 hG.lt _).symm
    have hal:=hG.ar
    rw [hsg,ZlB (by omega),ZU]
    have hw1:w64 ((k:Int)+1)=(k:Int)+1:=Zbc (by omega) (by omega)
    have hk1:((k+1:Nat):Int)=(k:Int)+1:=by omega
    unfold ZkY
    cases hlb:Zob (s.getD f.length c00).Arms (bS p given f.length k) with
    | true =>
     rw [Z2 rfl,Z2 rfl]
     have hne:(s.getD f.length c00).Arms≠[]:=by
      unfold Zob at hlb
      simp only [Ze,ZZ] at hlb
      exact hlb.1.2
     have h0:0<(s.getD f.length c00).Arms.length:=List.length_pos_iff.2 hne
     have e:w64 (((List.length (s.getD f.length c00).Arms:Nat):Int)-1)=(((s.getD f.length c00).Arms.length-1:Nat):Int):=by rw [Zbc (by omega) (by omega)];omega
     rw [e,ZeM a00 (by omega) (by omega),ZU,hw1]
     simp only [Zk,hk1]
     rfl
    | false =>
     simp only [Zf,Z0]
     by_cases hb1:bS p given f.length k = -1
     ·rw [Z2 (by simpa using hb1),Z2 hb1,Zoi hp n M s (given++[(k:Int)]) hM (by simp;omega) hall hG.le hG.sm,ZU]
      cases hr:ZkJ p n s (given++[(k:Int)]) with
      | none=>rfl
      | some r =>
       obtain ⟨g1,g2,g3⟩:=Zh5 hp n s _ r hG.le hG.sm hr
       have hlr:f.length<r.length:=Nat.lt_of_lt_of_le hG.lt g1.length_le
       simp only [resS,Bool.not_true,Zf,Z0,ZU,ZV]
       rw [Zbl hlr,ZU,← Za2 hlr c00,Zku c00 g1 hG.lt]
       have ha3:∀ a:Zax,appI 32 (s.getD f.length c00).Arms [a]=some ((s.getD f.length c00).Arms++[a]):=λa=>ZbD (by rw [ZJ];omega) (by omega)
       rw [ha3,ZU,hb1,hw1]
       simp only [Zk,hk1]
     rw [Z1 (by simpa using hb1),Z1 hb1,ZU]
     simp only
     rw [Zbl hG.lt,ZU,hsg]
     have ha3:∀ a:Zax,appI 32 (s.getD f.length c00).Arms [a]=some ((s.getD f.length c00).Arms++[a]):=λa=>ZbD (by rw [ZJ];omega) (by omega)
     rw [ha3,ZU,hw1]
     simp only [Zk,hk1]) (λs hu=>by
    simp only [Zch]
    rw [Zbl hin,ZU,Z1 (by rw [ZZ];omega)]) (by omega)
  rw [hup,ZU]
  cases upF (ZkY p given f.length (ZkJ p n)) (p.Periods.getD given.length 0).toNat (f++[⟨given.length,[]⟩])<;>rfl
end
end Go.Sh

namespace Go.Sh
open Go Go.Eng
section
variable {N:Nat} {p:Z8}
def Zmc (p:Z8):Option (List Z7):=if p.Periods.length=0 then none else ZkJ p p.Periods.length [] []
theorem Zkp (hN:3000<=N)(hp:VP p):ZeX N p=some (resS (Zmc p)):=by
 unfold ZeX Zmc
 by_cases h:p.Periods.length=0
 ·rw [Z2 (by simpa using h),Z2 h];rfl
 have hP:=hp.len
 rw [Z1 (by simpa using h),Z1 h]
 have:=Zoi hp p.Periods.length (N-p.Periods.length-1) [] [] (by omega) (by simp) (by simp) (by simp) (by intro y hy;cases hy)
 rw [show N-p.Periods.length-1+p.Periods.length+1=N by omega] at this
 rw [this]
 rfl
theorem Zmb (hp:VP p){r:List Z7}(h:Zmc p=some r):r.length<=2000/\Zda r:=by
 unfold Zmc at h
 split at h
 ·cases h
 obtain ⟨_,h1,h2⟩:=Zh5 hp p.Periods.length [] [] r (by simp) (by intro y hy;cases hy) h
 exact ⟨h1,h2⟩
theorem ZsH (hN:2000<=N)(a:List Z7):∃ l,Zez N a=some l/\l.length<=40/\Zda l:=by
 unfold Zez
 obtain ⟨r,hr,e⟩:=Zbs (body:=λx:Int×(List Z7)=>Zdf N a x.1 x.2) (λx=>∃ k:Nat,x.1=k/\k<=40/\x.2.length=k/\Zda x.2) (λx=>(41-x.1).toNat) (λl=>l.length<=40/\Zda l) (λx hx=>by
  obtain ⟨i,l⟩:=x
  obtain ⟨k,rfl,k1,k2,k3⟩:=hx
  simp only at k2 k3 ⊢
  simp only [Zdf]
  by_cases c:k<a.length/\k<40
  ·left
   rw [Z2 (by simp only [Ze,ZZ];omega),Zbl c.1]
   simp only [ZU]
   obtain ⟨m,hm,hm2,hm3⟩:∃ m:Nat,(if 30<((List.length a[k].Arms:Nat):Int) then (30:Int) else ((List.length a[k].Arms:Nat):Int))=m/\m<=30/\m<=a[k].Arms.length:=by
    by_cases h:30<((List.length a[k].Arms:Nat):Int)
    ·exact ⟨30,by rw [Z2 h];rfl,by omega,by omega⟩
    exact ⟨a[k].Arms.length,by rw [Z1 h],by omega,by omega⟩
   have e1:subI a[k].Arms 0 (m:Int)=some (a[k].Arms.take m):=by
    unfold subI
    rw [Z2 (by omega)]
    simp
   have e2:∀ y:Z7,appI 32 l [y]=some (l++[y]):=λy=>ZbD (by rw [ZJ];omega) (by omega)
   rw [hm,e1,ZU,e2,ZU,ZaS (by omega)]
   refine ⟨_,rfl,⟨k+1,rfl,by omega,by simp;omega,λy hy=>?_⟩,by simp only;omega⟩
   rcases List.mem_append.1 hy with hy|hy
   ·exact k3 y hy
   simp only [ZP] at hy
   subst hy
   simp only [ZK]
   omega
  right
  exact ⟨_,by rw [Z1 (by simp only [Ze,ZZ];omega)],by omega,k3⟩) N (0,[]) ⟨0,rfl,by omega,rfl,by intro y hy;cases hy⟩ (by simp only;omega)
 exact ⟨r,by rw [hr];rfl,e⟩
def Ze7 (b:ZaV)(f:List Z7):Nat:=(b.Choice%(f.length:Int)).toNat
def ZpR (b:ZaV)(fc:Z7):Nat:=(b.Arm%(fc.Arms.length:Int)).toNat
def Zo7 (b:ZaV)(k m:Nat)(l:List Zax):List Zax :=
 if m=1 then l.set k { l.getD k a00 with From:=b.N_ }
 else if m=2 then l.set k { l.getD k a00 with To:=b.N_ }
 else if m=3 then l.set k { l.getD k a00 with By:=b.N_ }
 else if m=4 then l.set k { l.getD k a00 with Next:=b.N_ }
 else if m=5 then l.take k++l.drop (k+1)
 else if k+1<l.length then (l.set k { l.getD k a00 with To:=b.N_ }).set (k+1) { (l.set k { l.getD k a00 with To:=b.N_ }).getD (k+1) a00 with From:=b.N_ } else l
def Zos (b:ZaV)(f:List Z7):List Z7 :=
 if f=[] then f
 else if (b.What%8).toNat=0∨(f.getD (Ze7 b f) c00).Arms=[] then f.set (Ze7 b f) ⟨b.N_,(f.getD (Ze7 b f) c00).Arms⟩
 else if (b.What%8).toNat=7 then f++[f.getD (Ze7 b f) c00]
 else f.set (Ze7 b f) ⟨(f.getD (Ze7 b f) c00).Stream,Zo7 b (ZpR b (f.getD (Ze7 b f) c00)) (b.What%8).toNat (f.getD (Ze7 b f) c00).Arms⟩
theorem Zot (b:ZaV)(k m:Nat)(l:List Zax):(Zo7 b k m l).length<=l.length:=by
 unfold Zo7
 repeat' split
 all_goals first|(simp;done)|(simp;omega)|omega
theorem Zi9 {b:ZaV}{f:List Z7}(h:Zda f):(Zos b f).length<=f.length+1/\Zda (Zos b f):=by
 have hg:∀ c,(f.getD c c00).Arms.length<=240:=λc=>by
  by_cases e:c<f.length
  ·rw [Za2 e];exact h _ (List.getElem_mem e)
  rw [Zs,Zz (by omega)];simp [c00]
 unfold Zos
 split
 ·exact ⟨by omega,h⟩
 split
 ·exact ⟨by simp,h.set (hg _)⟩
 split
 ·refine ⟨by simp,λy hy=>?_⟩
  rcases List.mem_append.1 hy with hy|hy
  ·exact h y hy
  simp only [ZP] at hy
  subst hy
  exact hg _
 exact ⟨by simp,h.set (Nat.le_trans (Zot _ _ _ _) (hg _))⟩
theorem ZpG (f:List Z7)(hf:f.length<=10000)(hs:Zda f)(hN:20000<=N):ZaO (λx:Int×List Z7=>Zbu f x.1 x.2) N (0,[])=some f:=by
 obtain ⟨r,hr,e⟩:=Zbs (body:=λx:Int×List Z7=>Zbu f x.1 x.2) (λx=>∃ k:Nat,x.1=k/\k<=f.length/\x.2=f.take k) (λx=>(f.length+1-x.1).toNat) (λl=>l=f) (λx hx=>by
  obtain ⟨i,l⟩:=x
  obtain ⟨k,rfl,k1,k2⟩:=hx
  simp only at k2 ⊢
  subst k2
  simp only [Zbu]
  by_cases c:k<f.length
  ·left
   have h1:=hs _ (List.getElem_mem c)
   have e1:appI 32 [] f[k].Arms=some ([]++f[k].Arms):=ZbD (by simp;omega) (by omega)
   have e2:∀ y:Z7,appI 32 (f.take k) [y]=some (f.take k++[y]):=λy=>ZbD (by simp;omega) (by omega)
   rw [Z2 (by simpa using c),Zbl c,ZU,e1,ZU,e2,ZU,ZaS (by omega)]
   refine ⟨_,rfl,⟨k+1,rfl,by omega,?_⟩,by simp only;omega⟩
   simp only [ZQ]
   rw [List.take_succ,Zy c]
   rfl
  right
  exact ⟨_,by rw [Z1 (by simpa using c)],by rw [List.take_of_length_le (by omega)]⟩) N (0,[]) ⟨0,rfl,by omega,by simp⟩ (by simp only;omega)
 rw [hr,e]
theorem u8 {x:Int}(h:InK .u8 x):0<=x/\x<=255:=h.u8
theorem Zkk {a:Int}{n:Nat}(h0:0<=a)(hn:0<n):remI a (n:Int)=some (((a%(n:Int)).toNat:Nat):Int)/\(a%(n:Int)).toNat<n:=by
 have h1:=Int.emod_nonneg a (show (n:Int)≠0 by omega)
 have h2:=Int.emod_lt_of_pos a (show (0:Int)<n by omega)
 refine ⟨?_,by omega⟩
 rw [Zbx (by omega),Zj h0]
 congr 1
 omega
theorem ZpY {b:ZaV}(hb:ZdE b){f:List Z7}(hf:f.length<=10000)(hs:Zda f)(hN:20000<=N):Zcn N b f=some (Zos b f):=by
 obtain ⟨b1,b2,b3,b4⟩:=hb
 have b1:=u8 b1
 have b2:=u8 b2
 have b3:=u8 b3
 unfold Zcn Zos
 rw [ZpG f hf hs hN,ZU]
 by_cases h0:f=[]
 ·subst h0;rfl
 have hl:0<f.length:=List.length_pos_iff.2 h0
 rw [Z1 (by simpa using h0),Z1 h0,Zbc (by omega) (by omega)]
 obtain ⟨e1,e2⟩:=Zkk b1.1 hl
 have e3:Ze7 b f=(b.Choice%(f.length:Int)).toNat:=rfl
 rw [← e3] at e1 e2
 rw [e1,ZU,Zbl e2,ZU]
 have eg:f[Ze7 b f]=f.getD (Ze7 b f) c00:=(Za2 e2 _).symm
 rw [eg]
 have hfc:(f.getD (Ze7 b f) c00).Arms.length<=240:=by rw [← eg];exact hs _ (List.getElem_mem e2)
 obtain ⟨m1,m2⟩:=Zkk (n:=8) b3.1 (by omega)
 have m3:remI b.What 8=some (((b.What%8).toNat:Nat):Int):=m1
 have m2:(b.What%8).toNat<8:=m2
 rw [m3,ZU]
 generalize (b.What%8).toNat=m at m2
 have hfc2:f.set (Ze7 b f) ⟨(f.getD (Ze7 b f) c00).Stream,(f.getD (Ze7 b f) c00).Arms⟩=f:=by
  have:(⟨(f.getD (Ze7 b f) c00).Stream,(f.getD (Ze7 b f) c00).Arms⟩:Z7)=f[Ze7 b f]:=eg.symm
  rw [this,List.set_getElem_self]
 generalize f.getD (Ze7 b f) c00=fc at hfc hfc2
 generalize Ze7 b f=c at e2 hfc2
 by_cases h1:m=0∨fc.Arms=[]
 ·rw [Z2 (by
   rcases h1 with h1|h1
   ·subst h1;rfl
   rw [h1];simp),Z2 h1]
  simp
 have h1a:¬ m=0:=λe=>h1 (.inl e)
 have h1b:fc.Arms≠[]:=λe=>h1 (.inr e)
 have hal:0<fc.Arms.length:=List.length_pos_iff.2 h1b
 rw [Z1 (by simp only [Zh,beq_iff_eq];omega),Z1 h1,Zbc (by omega) (by omega)]
 obtain ⟨k1,k2⟩:=Zkk b2.1 hal
 have k3:ZpR b fc=(b.Arm%(fc.Arms.length:Int)).toNat:=rfl
 rw [← k3] at k1 k2
 rw [k1,ZU]
 generalize ZpR b fc=k at k2
 have ei:idx fc.Arms (k:Int)=some (fc.Arms.getD k a00):=by rw [Zbl k2,Za2 k2]
 have ew:w64 ((k:Int)+1)=((k+1:Nat):Int):=ZaS (by omega)
 have ea:appI 32 (fc.Arms.take k) (fc.Arms.drop (k+1))=some (fc.Arms.take k++fc.Arms.drop (k+1)):=ZbD (by simp;omega) (by omega)
 have ef:∀ y:Z7,appI 32 f [y]=some (f++[y]):=λy=>ZbD (by simp;omega) (by omega)
 unfold Zeb Zo7
 rcases m with _|_|_|_|_|_|_|_|m
 ·omega
 ·simp [ei]
 ·simp [ei]
 ·simp [ei]
 ·simp [ei]
 ·simp [ei,ea,ew]
 ·by_cases hk:k+1<fc.Arms.length
  ·have ei2:∀ y,idx (fc.Arms.set k y) ((k+1:Nat):Int)=some ((fc.Arms.set k y).getD (k+1) a00):=λy=>by
    rw [Zbl (by simpa using hk),Za2 (by simpa using hk)]
   have hd:w64 ((k:Int)+1)<((List.length fc.Arms:Nat):Int):=by rw [ew];omega
   have hx:∀ n:Nat,n≠6∨n=6:=λn=>by omega
   rw [Z1 (by decide),Z1 (by decide),Z1 (by decide),Z1 (by decide),Z1 (by decide),Z2 (by decide),Z2 (by simpa using hd),ei,ZU,ew]
   simp only [Zk]
   rw [ei2,ZU]
   rw [Z1 (by decide),Z1 (by decide),Z1 (by decide),Z1 (by decide),Z1 (by decide),Z1 (by decide),Z2 hk]
  have hd:¬ w64 ((k:Int)+1)<((List.length fc.Arms:Nat):Int):=by rw [ew];omega
  rw [Z1 (by decide),Z1 (by decide),Z1 (by decide),Z1 (by decide),Z1 (by decide),Z2 (by decide),Z1 (by simpa using hd)]
  rw [Z1 (by decide),Z1 (by decide),Z1 (by decide),Z1 (by decide),Z1 (by decide),Z1 (by decide),Z1 hk]
  rw [hfc2]
 ·simp [ef]
 omega
end
end Go.Sh

namespace Go.Sh
open Go Go.Eng
set_option maxRecDepth 100000 in
theorem Zm4 (n:Nat):Zey (n+300)=some true:=by kernel_rfl
theorem Zpt {N:Nat}(hN:2000<=N):Zey N=some true:=by
 obtain ⟨n,rfl⟩:∃ n,N=n+300:=⟨N-300,by omega⟩
 exact Zm4 n
def okP (f:List Z7):Prop:=f.length<=3000/\Zda f
def Big (N:Nat):Prop:=30000<=N/\(240+1) ^ 13<N
theorem big:∃ N,Big N:=⟨30000+(240+1) ^ 13,by unfold Big;omega⟩
section
variable {N:Nat} {p:Z8}
theorem ZnX (hN:Big N)(hp:VP p)(odd:List Z7){a b:ZaV}(ha:ZdE a)(hb:ZdE b) :
  ∃ q,Zd2 N p odd a b=some q/\okP q.x0/\okP q.x1/\okP q.x2/\okP q.x3:=by
 have hN:=hN.1
 obtain ⟨l,hl,l1,l2⟩:=ZsH (show 2000<=N by omega) odd
 unfold Zd2
 rw [Zkp (by omega) hp,ZU]
 obtain ⟨g,hg,g1,g2⟩:∃ g,(if (!(resS (Zmc p)).2)=true then ((Zez N odd).bind λr504=>some r504) else some (resS (Zmc p)).1)=some g/\g.length<=2000/\Zda g:=by
  cases h:Zmc p with
  | none=>exact ⟨l,by rw [hl];rfl,by omega,l2⟩
  | some r =>
   obtain ⟨h1,h2⟩:=Zmb hp h
   exact ⟨r,rfl,h1,h2⟩
 obtain ⟨a1,a2⟩:=Zi9 (b:=a) g2
 obtain ⟨b1,b2⟩:=Zi9 (b:=b) a2
 rw [hg,ZU,hl,ZU,ZpY ha (by omega) g2 (by omega),ZU,ZU,ZpY hb (by omega) a2 (by omega),ZU]
 exact ⟨_,rfl,⟨by simp only;omega,l2⟩,⟨by simp only;omega,g2⟩,⟨by simp only;omega,a2⟩,⟨by simp only;omega,b2⟩⟩
theorem ZsM (hN:Big N)(x:Z8){f:List Z7}(hf:okP f):ZbY N x f=some (Zfn x f):=
 Zju (A:=240) (by omega) hf.2 (by omega) (by have:=hf.1;have:=hN.1;omega) (by have:=hN.1;omega) hN.2
theorem ZsL (hN:Big N)(x:Z8){f:List Z7}(hf:okP f):ZdN N x f=some (Zfn x f):=
 Zjl (A:=240) hf.2 (by omega) (by have:=hf.1;have:=hN.1;omega) (by have:=hN.1;omega)
end
end Go.Sh

namespace Go.Sh
open Go Go.Eng
section
variable {N:Nat} {p:Z8} {f:List Z7}
theorem ZsJ {nP len c per:Int}{l:List Zax}:∀ {k:Nat} {e:Int},k<=l.length->upF (Zc0 nP len c per l) k 0=some e →
  (∀ x:Int,0<=x->x<e->∃ a,(l.take k).find? (λa=>decide (x<a.To))=some a/\a.From<=x/\x<a.To)/\(∀ x:Int,e<=x->(l.take k).find? (λa=>decide (x<a.To))=none)
 | 0,e,_,h=>by
  simp only [upF,ZW] at h
  subst h
  exact ⟨λx h0 h1=>by omega,λx _=>by simp⟩
 | k+1,e,hk,h=>by
  simp only [upF] at h
  cases hu:upF (Zc0 nP len c per l) k 0 with
  | none=>rw [hu] at h;cases h
  | some e0 =>
   rw [hu,ZU] at h
   obtain ⟨h1,h2⟩:=ZsJ (by omega) hu
   unfold Zc0 at h
   rw [Zy (show k<l.length by omega),ZU] at h
   split at h
   ·rename_i hok
    obtain ⟨o1,o2,o3,_⟩:=Zep hok
    cases h
    have ht:l.take (k+1)=l.take k++[l[k]]:=by rw [List.take_succ,Zy (show k<l.length by omega)];rfl
    rw [ht]
    refine ⟨λx x0 x1=>?_,λx hx=>?_⟩
    ·rw [List.find?_append]
     by_cases c:x<e0
     ·obtain ⟨a,a1,a2,a3⟩:=h1 x x0 c
      exact ⟨a,by rw [a1];rfl,a2,a3⟩
     rw [h2 x (by omega)]
     exact ⟨l[k],by simp [x1],by omega,x1⟩
    rw [List.find?_append,h2 x (by omega)]
    simp
    omega
   cases h
def ZdH (l:List Zax)(x:Int):Zax:=(l.find? λa=>decide (x<a.To)).getD a00
theorem Zgt {c:Nat}(h:Zbg p f c=true):∃ (hc:c<f.length) (s:Nat),f[c].Stream=s/\s<p.Periods.length/\∀ x:Int,0<=x->x<p.Periods.getD s 0->∃ a,f[c].Arms.find? (λa=>decide (x<a.To))=some a/\a.From<=x/\x<a.To/\Zmu p s a/\ZbH p.Periods.length f.length c a=true:=by
 obtain ⟨hc,s,hs,hsl,harm⟩:=Zjc h
 obtain ⟨_,h0,h1,h2⟩:=Ze3 h
 refine ⟨hc,s,hs,hsl,λx x0 x1=>?_⟩
 unfold Zhh at h2
 split at h2
 ·rename_i e he
  obtain ⟨c1,_⟩:=ZsJ (Nat.le_refl _) he
  rw [beq_iff_eq,hs,Zk] at h2
  obtain ⟨a,a1,a2,a3⟩:=c1 x x0 (by omega)
  rw [List.take_length] at a1
  obtain ⟨b1,b2⟩:=harm a (List.mem_of_find?_eq_some a1)
  exact ⟨a,a1,a2,a3,b1,b2⟩
 cases h2
theorem ZmX {l:List Zax}{x:Int}{k:Nat}(hk:k<l.length):(l.drop k).find? (λa=>decide (x<a.To))=if x<l[k].To then some l[k] else (l.drop (k+1)).find? (λa=>decide (x<a.To)):=by
 rw [ZfJ hk,Zr]
 by_cases c:x<l[k].To
 ·simp [c]
 simp [c]
theorem Zli {ch:Z7}{x:Int}(hl:ch.Arms.length<1000)(hN:2000<=N):Zfz N ch x=some (ZdH ch.Arms x):=by
 unfold Zfz
 obtain ⟨r,hr,e⟩:=Zbs (body:=λi:Int=>Zdd N ch x i) (λi=>∃ k:Nat,i=k/\k<=ch.Arms.length/\ch.Arms.find? (λa=>decide (x<a.To))=(ch.Arms.drop k).find? (λa=>decide (x<a.To))) (λi=>(ch.Arms.length+1-i).toNat)
  (λr=>r=((ZdH ch.Arms x).From,(ZdH ch.Arms x).To,(ZdH ch.Arms x).By,(ZdH ch.Arms x).Next)) (λi hi=>by
   obtain ⟨k,rfl,k1,k2⟩:=hi
   simp only [Zdd]
   by_cases c:k<ch.Arms.length
   ·rw [Z2 (by simpa using c),Zbl c,ZU]
    rw [ZmX c] at k2
    by_cases d:x<ch.Arms[k].To
    ·right
     rw [Z2 d] at k2
     refine ⟨_,by rw [Z2 (by simpa using d)],?_⟩
     unfold ZdH
     rw [k2]
     rfl
    left
    rw [Z1 d] at k2
    refine ⟨_,by rw [Z1 (by simpa using d),ZaS (by omega)],⟨k+1,rfl,by omega,k2⟩,by omega⟩
   right
   refine ⟨_,by rw [Z1 (by simpa using c)],?_⟩
   unfold ZdH
   rw [k2,Zq (by omega)]
   rfl) N 0 ⟨0,rfl,by omega,by simp⟩ (by omega)
 rw [hr,ZU,e]
theorem Zhq {ch:Z7}{x:Int}(hl:ch.Arms.length<1000)(hN:2000<=N){a:Zax}(ha:ch.Arms.find? (λa=>decide (x<a.To))=some a):Zet N ch x=some (ZdH ch.Arms x):=by
 unfold Zet
 obtain ⟨r,hr,e⟩:=Zbs (body:=λi:Int=>Zdb N ch x i) (λi=>∃ k:Nat,i=k/\k<=ch.Arms.length/\ch.Arms.find? (λa=>decide (x<a.To))=(ch.Arms.drop k).find? (λa=>decide (x<a.To))) (λi=>(ch.Arms.length+1-i).toNat)
  (λr=>∃ k:Nat,r=k/\∃ hk:k<ch.Arms.length,ch.Arms[k]=a) (λi hi=>by
   obtain ⟨k,rfl,k1,k2⟩:=hi
   simp only [Zdb]
   by_cases c:k<ch.Arms.length
   ·rw [Zbl c,ZU]
    rw [ZmX c] at k2
    by_cases d:x<ch.Arms[k].To
    ·right
     rw [Z2 d,ha] at k2
     exact ⟨_,by rw [Z1 (by simpa using d)],k,rfl,c,by simpa using k2.symm⟩
    left
    rw [Z1 d] at k2
    refine ⟨_,by rw [Z2 (by simpa using d),ZaS (by omega)],⟨k+1,rfl,by omega,k2⟩,by omega⟩
   rw [ha,Zq (by omega)] at k2
   cases k2) N 0 ⟨0,rfl,by omega,by simp⟩ (by omega)
 obtain ⟨k,rfl,hk,e⟩:=e
 rw [hr,ZU,Zbl hk,ZU,e]
 unfold ZdH
 rw [ha]
 rfl
def shL (p:Z8)(l:List Int)(c:Nat)(fc:Z7):List Int:=if (ZdH fc.Arms (l.getD fc.Stream.toNat 0)).By = -2 then Zb6 p l (-(l.getD fc.Stream.toNat 0)) l.length else l
def whyS (p:Z8)(f:List Z7):Nat->Nat->List Int->Int×Int
 | 0,_,_=>(0,0)
 | n+1,c,l=>match f[c]? with
  | none=>(0,0)
  | some fc=>if (ZdH fc.Arms ((shL p l c fc).getD fc.Stream.toNat 0)).By = -1 then whyS p f n (ZdH fc.Arms ((shL p l c fc).getD fc.Stream.toNat 0)).Next.toNat (shL p l c fc)
   else (fc.Stream,(ZdH fc.Arms ((shL p l c fc).getD fc.Stream.toNat 0)).By)
theorem Zg7 {l:List Int}(ho:Zd1 p l=true):l.length=p.Periods.length/\∀ k,k<l.length->0<=l.getD k 0/\l.getD k 0<p.Periods.getD k 0:=by
 obtain ⟨h1,h2⟩:=ZmL ho
 refine ⟨h1,λk hk=>?_⟩
 have:=ZbT.1 (h2 k hk)
 rw [Zk] at this
 omega
theorem Ze1 (p:Z8)(l:List Int)(by_:Int)(n:Nat):(Zb6 p l by_ n).length=n:=by simp [Zb6]
theorem Zl8 (p:Z8)(l:List Int)(by_:Int)(n:Nat):Zb6 p l by_ (n+1)=Zb6 p l by_ n++[(l.getD n 0+by_)%(p.Periods.getD n 0)]:=by
 unfold Zb6
 rw [List.range_succ,ZL]
 rfl
theorem Zpm {l:List Int}{by_:Int}{k:Nat}(hk:k<l.length):idx (Zb6 p l by_ k++l.drop k) (k:Int)=some (l.getD k 0):=by
 rw [ZeT,Zu (by rw [Ze1];exact Nat.le_refl _),Ze1,Nat.sub_self,Zx,Nat.add_zero,Zy hk,Za2 hk]
theorem Zpk {l:List Int}{by_:Int}{k:Nat}(hk:k<l.length):(Zb6 p l by_ k++l.drop k).set k ((l.getD k 0+by_)%(p.Periods.getD k 0))=Zb6 p l by_ (k+1)++l.drop (k+1):=by
 rw [ZR _ _ (by rw [Ze1];exact Nat.le_refl _),Ze1,Nat.sub_self,ZfJ hk,List.set_cons_zero,Zl8,Zn]
 rfl
theorem Zpl {l:List Int}{by_:Int}{k:Nat}(hk:k<=l.length):(Zb6 p l by_ k++l.drop k).length=l.length:=by
 rw [ZE,Ze1,List.length_drop];omega
theorem ZnT (hp:VP p){l:List Int}(ho:Zd1 p l=true){x:Int}(h0:0<=x)(h1:x<=1000)(hN:2000<=N) :
  ZaO (λy:Int×(List Int)=>Zcb N p x y.1 y.2) N (0,l)=some (Zb6 p l (-x) l.length):=by
 obtain ⟨hl,ha⟩:=Zg7 ho
 have hP:=hp.len
 obtain ⟨r,hr,e⟩:=Zbs (body:=λy:Int×(List Int)=>Zcb N p x y.1 y.2) (λy=>∃ k:Nat,y.1=k/\k<=l.length/\y.2=Zb6 p l (-x) k++l.drop k) (λy=>(l.length+1-y.1).toNat) (λr=>r=Zb6 p l (-x) l.length) (λy hy=>by
  obtain ⟨i,m⟩:=y
  obtain ⟨k,rfl,k1,k2⟩:=hy
  simp only at k2 ⊢
  subst k2
  simp only [Zcb]
  by_cases c:k<l.length
  ·left
   have hpk:=hp.per _ (List.getElem_mem (show k<p.Periods.length by omega))
   have hpg:p.Periods.getD k 0=p.Periods[k]:=Za2 (by omega) 0
   obtain ⟨a0,a1⟩:=ha k c
   have hm:0<=p.Periods[k]*x:=Int.mul_nonneg (by omega) h0
   have hm2:p.Periods[k]*x<=240*x:=Int.mul_le_mul_of_nonneg_right (by omega) h0
   have hm3:x<=p.Periods[k]*x:=by
    have:=Int.mul_le_mul_of_nonneg_right (show 1<=p.Periods[k] by omega) h0
    omega
   rw [Z2 (by rw [Zpl k1];simpa using c),Zpm c,ZU,Zbl (show k<p.Periods.length by omega),ZU,ZU,Zbc (x:=p.Periods[k]*x) (by omega) (by omega),Zbc (x:=l.getD k 0+p.Periods[k]*x) (by omega) (by omega),Zbc (by omega) (by omega),Zbx (by omega),ZU,ZU,Zj (by omega),ZaS (by omega)]
   have ev:(l.getD k 0+p.Periods[k]*x-x)%p.Periods[k]=(l.getD k 0+(-x))%p.Periods.getD k 0:=by
    rw [hpg,show l.getD k 0+p.Periods[k]*x-x=(l.getD k 0+(-x))+p.Periods[k]*x by omega,Int.add_mul_emod_self_left]
   rw [ev,Zk,Zpk c]
   exact ⟨_,rfl,⟨k+1,rfl,by omega,rfl⟩,by simp only;omega⟩
  right
  obtain rfl:k=l.length:=by omega
  refine ⟨_,by rw [Z1 (by rw [Zpl k1];simp)],?_⟩
  simp) N (0,l) ⟨0,rfl,by omega,by simp [Zb6]⟩ (by simp only;omega)
 rw [hr,e]
theorem Zl5 (hp:VP p){l:List Int}(ho:Zd1 p l=true){x:Int}(h0:0<=x)(h1:x<=1000)(hN:2000<=N) :
  ZaO (λy:Int×(List Int)=>ZcM N p l x y.1 y.2) N (0,l)=some (Zb6 p l (-x) l.length):=by
 obtain ⟨hl,ha⟩:=Zg7 ho
 have hP:=hp.len
 obtain ⟨r,hr,e⟩:=Zbs (body:=λy:Int×(List Int)=>ZcM N p l x y.1 y.2) (λy=>∃ k:Nat,y.1=k/\k<=l.length/\y.2=Zb6 p l (-x) k++l.drop k) (λy=>(l.length+1-y.1).toNat) (λr=>r=Zb6 p l (-x) l.length) (λy hy=>by
  obtain ⟨i,m⟩:=y
  obtain ⟨k,rfl,k1,k2⟩:=hy
  simp only at k2 ⊢
  subst k2
  simp only [ZcM]
  by_cases c:k<l.length
  ·left
   have hpk:=hp.per _ (List.getElem_mem (show k<p.Periods.length by omega))
   have hpg:p.Periods.getD k 0=p.Periods[k]:=Za2 (by omega) 0
   obtain ⟨a0,a1⟩:=ha k c
   rw [Z2 (by simpa using c),Zpm c,ZU,Zbl (show k<p.Periods.length by omega),ZU,Zhv (by omega) (by omega) (by omega) (by omega) (by omega) (by omega),ZU,ZU,ZaS (by omega)]
   have ev:(l.getD k 0-x)%p.Periods[k]=(l.getD k 0+(-x))%p.Periods.getD k 0:=by rw [hpg];rfl
   rw [ev,Zk,Zpk c]
   exact ⟨_,rfl,⟨k+1,rfl,by omega,rfl⟩,by simp only;omega⟩
  right
  obtain rfl:k=l.length:=by omega
  refine ⟨_,by rw [Z1 (by simp)],?_⟩
  simp) N (0,l) ⟨0,rfl,by omega,by simp [Zb6]⟩ (by simp only;omega)
 rw [hr,e]
theorem Zk0 (hp:VP p){c:Nat}(hch:Zbg p f c=true){l:List Int}(ho:Zd1 p l=true):∃ (hc:c<f.length) (s:Nat),f[c].Stream=s/\s<p.Periods.length/\Zd1 p (shL p l c f[c])=true ∧
  ∃ a,f[c].Arms.find? (λa=>decide ((shL p l c f[c]).getD s 0<a.To))=some a/\a.From<=(shL p l c f[c]).getD s 0/\(shL p l c f[c]).getD s 0<a.To/\Zmu p s a/\ZbH p.Periods.length f.length c a=true/\a.By ≠ -2:=by
 obtain ⟨hc,s,hs,hsl,harm⟩:=Zgt hch
 obtain ⟨hl,hb⟩:=Zg7 ho
 obtain ⟨x0,x1⟩:=hb s (by omega)
 refine ⟨hc,s,hs,hsl,?_⟩
 unfold shL
 rw [hs,Zk]
 by_cases h:(ZdH f[c].Arms (l.getD s 0)).By = -2
 ·rw [Z2 h]
  have hz:(Zb6 p l (-(l.getD s 0)) l.length).getD s 0=0:=by
   rw [Zg8 (by omega),show l.getD s 0 + -(l.getD s 0)=0 by omega]
   simp
  refine ⟨Zn3 hp ho _,?_⟩
  rw [hz]
  obtain ⟨a,a1,a2,a3,a4,a5⟩:=harm 0 (by omega) (by omega)
  refine ⟨a,a1,a2,a3,a4,a5,λe=>?_⟩
  have:=a4.f0
  unfold ZbH at a5
  rw [e,Z1 (by omega)] at a5
  split at a5
  ·rw [Z2 rfl,ZZ] at a5
   omega
  cases a5
 rw [Z1 h]
 refine ⟨ho,?_⟩
 obtain ⟨a,a1,a2,a3,a4,a5⟩:=harm _ x0 x1
 refine ⟨a,a1,a2,a3,a4,a5,λe=>?_⟩
 apply h
 unfold ZdH
 rw [a1]
 exact e
end
end Go.Sh

namespace Go.Sh
open Go Go.Eng
section
variable {N:Nat} {p:Z8} {f:List Z7}
theorem Zgw {n c:Nat}{l:List Int}(hc:c<f.length){s:Nat}(hs:f[c].Stream=s){a:Zax}(ha:f[c].Arms.find? (λa=>decide ((shL p l c f[c]).getD s 0<a.To))=some a) :
  whyS p f (n+1) c l=if a.By = -1 then whyS p f n a.Next.toNat (shL p l c f[c]) else ((s:Int),a.By):=by
 simp only [whyS]
 rw [Zy hc]
 simp only [hs,Zk]
 have:ZdH f[c].Arms ((shL p l c f[c]).getD s 0)=a:=by unfold ZdH;rw [ha];rfl
 rw [this]
theorem ZmK {l:List Int}(ho:Zd1 p l=true){s:Nat}(hs:s<p.Periods.length):idx l (s:Int)=some (l.getD s 0)/\0<=l.getD s 0/\l.getD s 0<p.Periods.getD s 0:=by
 obtain ⟨hl,hb⟩:=Zg7 ho
 obtain ⟨x0,x1⟩:=hb s (by omega)
 exact ⟨by rw [Zbl (by omega),Za2 (by omega)],x0,x1⟩
theorem Zpg (hp:VP p)(s:Nat):p.Periods.getD s 0<=240:=by
 by_cases e:s<p.Periods.length
 ·rw [Za2 e];exact (hp.per _ (List.getElem_mem e)).2
 rw [Zs,Zz (by omega)];simp
theorem Zk6 (hp:VP p)(hall:∀ c,c<f.length->Zbg p f c=true)(hf:1<=f.length)(hf2:f.length<=2000)(hs:Zda f){l:List Int}(ho:Zd1 p l=true)(hN:3000<=N) :
  ZaO (λx:Int×(List Int)=>ZcK N p f x.1 x.2) N (0,l)=some ((whyS p f f.length 0 l).1,(whyS p f f.length 0 l).2,0):=by
 obtain ⟨r,hr,e⟩:=Zbs (body:=λx:Int×(List Int)=>ZcK N p f x.1 x.2)
  (λx=>∃ c:Nat,x.1=c/\c<f.length/\Zd1 p x.2=true/\∃ n,f.length<=c+n/\whyS p f n c x.2=whyS p f f.length 0 l) (λx=>(f.length-x.1).toNat) (λr=>r=((whyS p f f.length 0 l).1,(whyS p f f.length 0 l).2,0)) (λy hy=>by
   obtain ⟨i,m⟩:=y
   obtain ⟨c,rfl,hc,hm,n,hn,hw⟩:=hy
   simp only at hm hw ⊢
   obtain ⟨_,s,hst,hsl,harm⟩:=Zgt (hall c hc)
   obtain ⟨i1,x0,x1⟩:=ZmK hm hsl
   have h240:=Zpg hp s
   obtain ⟨a0,b1,b2,b3,b4,b5⟩:=harm _ x0 x1
   have hsm:=hs _ (List.getElem_mem hc)
   have e0:ZdH f[c].Arms (m.getD s 0)=a0:=by unfold ZdH;rw [b1];rfl
   obtain ⟨_,s',hs',_,ho',a,a1,a2,a3,a4,a5,a6⟩:=Zk0 hp (hall c hc) hm
   have ess:s'=s:=by rw [hst] at hs';omega
   subst ess
   obtain ⟨n',rfl⟩:∃ n',n=n'+1:=⟨n-1,by omega⟩
   rw [Zgw hc hst a1] at hw
   simp only [ZcK]
   rw [Zbl hc,ZU,ZU,hst,i1,ZU,Zhq (by omega) (by omega) b1,ZU,e0]
   have hj:((if (a0.By == -2)=true then (some (m.getD s' 0)).bind λe1022=>(ZaO (λx:Int×(List Int)=>Zcb N p e1022 x.1 x.2) N (0,m)).bind λo1543=>(some f[c]).bind λe1544=>(Zet N e1544 0).bind λr1545=>some (r1545.From,r1545.To,r1545.By,r1545.Next,o1543) else some (a0.From,a0.To,a0.By,a0.Next,m)):Option (Int×Int×Int×Int×List Int))=some (a.From,a.To,a.By,a.Next,shL p m c f[c]):=by
    by_cases h:a0.By = -2
    ·have esh:shL p m c f[c]=Zb6 p m (-(m.getD s' 0)) m.length:=by
      unfold shL
      rw [hst,Zk,e0,Z2 h]
     have hz:(shL p m c f[c]).getD s' 0=0:=by
      rw [esh,Zg8 (by have:=(Zg7 hm).1;omega),show m.getD s' 0 + -(m.getD s' 0)=0 by omega]
      simp
     rw [Z2 (by simpa using h),ZU,ZnT hp hm x0 (by omega) (by omega),ZU,ZU]
     rw [hz] at a1
     rw [Zhq (by omega) (by omega) a1,ZU,esh]
     have:ZdH f[c].Arms 0=a:=by unfold ZdH;rw [a1];rfl
     rw [this]
    have esh:shL p m c f[c]=m:=by
     unfold shL
     rw [hst,Zk,e0,Z1 h]
    rw [esh,b1] at a1
    cases a1
    rw [Z1 (by simpa using h),esh]
   rw [hj,ZU]
   simp only
   by_cases hb:a.By = -1
   ·left
    rw [Z2 hb] at hw
    unfold ZbH at a5
    rw [Z2 hb,ZZ] at a5
    refine ⟨_,by rw [Z1 (by simp [hb])],⟨a.Next.toNat,by simp only;omega,by omega,ho',n',by omega,hw⟩,by simp only;omega⟩
   right
   rw [Z1 hb] at hw
   refine ⟨_,by rw [Z2 (by simpa using hb)],?_⟩
   rw [← hw]) N (0,l) ⟨0,rfl,by omega,ho,f.length,by omega,rfl⟩ (by simp only;omega)
 rw [hr,e]
theorem Zjp (hp:VP p)(hall:∀ c,c<f.length->Zbg p f c=true)(hf:1<=f.length)(hf2:f.length<=2000)(hs:Zda f){l:List Int}(ho:Zd1 p l=true)(hN:9000<=N) :
  ZaO (λx:Int×(List Int)=>ZcN N p f x.1 x.2) N (0,l)=some ((whyS p f f.length 0 l).1,(whyS p f f.length 0 l).2):=by
 obtain ⟨r,hr,e⟩:=Zbs (body:=λx:Int×(List Int)=>ZcN N p f x.1 x.2)
  (λx=>∃ c:Nat,x.1=c/\∃ hc:c<f.length,Zd1 p x.2=true/\∃ n,f.length<=c+n/\whyS p f n c x.2=whyS p f f.length 0 l)
  (λx=>2*(f.length-x.1).toNat+(if (ZdH (f.getD x.1.toNat c00).Arms (x.2.getD (f.getD x.1.toNat c00).Stream.toNat 0)).By = -2 then 1 else 0)) (λr=>r=((whyS p f f.length 0 l).1,(whyS p f f.length 0 l).2)) (λy hy=>by
   obtain ⟨i,m⟩:=y
   obtain ⟨c,rfl,hc,hm,n,hn,hw⟩:=hy
   simp only at hm hw ⊢
   obtain ⟨_,s,hst,hsl,harm⟩:=Zgt (hall c hc)
   obtain ⟨i1,x0,x1⟩:=ZmK hm hsl
   have h240:=Zpg hp s
   obtain ⟨a0,b1,b2,b3,b4,b5⟩:=harm _ x0 x1
   have hsm:=hs _ (List.getElem_mem hc)
   have e0:ZdH f[c].Arms (m.getD s 0)=a0:=by unfold ZdH;rw [b1];rfl
   have eg:f.getD c c00=f[c]:=Za2 hc _
   obtain ⟨_,s',hs',_,ho',a,a1,a2,a3,a4,a5,a6⟩:=Zk0 hp (hall c hc) hm
   have ess:s'=s:=by rw [hst] at hs';omega
   subst ess
   obtain ⟨n',rfl⟩:∃ n',n=n'+1:=⟨n-1,by omega⟩
   simp only [ZcN]
   rw [Zbl hc,ZU,hst,i1,ZU,ZU,Zli (by omega) (by omega),ZU,e0]
   simp only [Zk,eg,hst]
   rw [e0]
   by_cases h:a0.By = -2
   ·left
    have esh:shL p m c f[c]=Zb6 p m (-(m.getD s' 0)) m.length:=by
     unfold shL
     rw [hst,Zk,e0,Z2 h]
    have hnot:¬ (ZdH f[c].Arms ((shL p m c f[c]).getD s' 0)).By = -2:=by
     have:ZdH f[c].Arms ((shL p m c f[c]).getD s' 0)=a:=by unfold ZdH;rw [a1];rfl
     rw [this];exact a6
    have key:∀ q:List Int,¬ (ZdH f[c].Arms (q.getD s' 0)).By = -2->shL p q c f[c]=q:=λq hq=>by
     unfold shL
     rw [hst,Zk,Z1 hq]
    have esh2:shL p (shL p m c f[c]) c f[c]=shL p m c f[c]:=key _ hnot
    rw [Z2 (by simpa using h),Zl5 hp hm x0 (by omega) (by omega),ZU,Z2 h,← esh]
    refine ⟨_,rfl,⟨c,rfl,hc,ho',n'+1,hn,?_⟩,?_⟩
    ·rw [← hw,Zgw hc hst a1]
     have a1':=a1
     rw [← esh2] at a1'
     rw [Zgw hc hst a1',esh2]
    simp only [Zk,eg,hst]
    rw [Z1 hnot]
    omega
   have esh:shL p m c f[c]=m:=by
    unfold shL
    rw [hst,Zk,e0,Z1 h]
   rw [Zgw hc hst a1,esh] at hw
   rw [esh,b1] at a1
   cases a1
   rw [Z1 (by simpa using h),Z1 h]
   by_cases hb:a0.By = -1
   ·left
    rw [Z2 hb] at hw
    unfold ZbH at a5
    rw [Z2 hb,ZZ] at a5
    refine ⟨_,by rw [Z2 (by simpa using hb)],⟨a0.Next.toNat,by simp only;omega,by omega,hm,n',by omega,hw⟩,?_⟩
    simp only
    split<;>omega
   right
   rw [Z1 hb] at hw
   refine ⟨_,by rw [Z1 (by simpa using hb)],?_⟩
   rw [← hw]) N (0,l) ⟨0,rfl,by omega,ho,f.length,by omega,rfl⟩ (by simp only;split<;>omega)
 rw [hr,e]
end
end Go.Sh

namespace Go.Sh
open Go Go.Eng
section
variable {N:Nat} {p:Z8} {f:List Z7}
def whyR (p:Z8)(f:List Z7)(o:List Int):Int×Int×Int :=
 if Zfn p f=0 then (if Zd1 p o=true then ((whyS p f f.length 0 o).1,(whyS p f f.length 0 o).2,0) else (0,0,2)) else (0,0,Zfn p f)
theorem Zi4 (h:Zfn p f=0):Zeh p=true/\ZiV p f=true/\Zho p f=true:=by
 unfold Zfn at h
 split at h
 ·split at h
  ·split at h
   ·exact ⟨by assumption,by assumption,by assumption⟩
   cases h
  cases h
 cases h
theorem ZeG (hN:Big N)(hf:okP f)(o:List Int):Zcp N p f o=some (whyR p f o):=by
 have hN2:=hN.1
 unfold Zcp whyR
 rw [ZsL hN p hf,ZU]
 by_cases h:Zfn p f=0
 ·obtain ⟨hp,hfo,_⟩:=Zi4 h
  have vp:=VP.of hp
  obtain ⟨h1,h2,hall⟩:=ZgN hfo
  rw [Z1 (by simp [h]),Z2 h,ZhW (by omega) vp,ZU]
  cases ho:Zd1 p o with
  | false=>rfl
  | true =>
   have hl:=(Zg7 ho).1
   have hP:=vp.len
   have e1:appI 8 [] o=some ([]++o):=ZbD (by simp;omega) (by omega)
   rw [Z1 (by simp),e1,ZU,ZQ,Zk6 vp hall h1 h2 hf.2 ho (by omega)]
   rfl
 rw [Z2 (by simpa using h),Z1 h]
theorem ZeJ (hN:Big N)(hf:okP f)(o:List Int):Zb3 N p f o=some (whyR p f o):=by
 have hN2:=hN.1
 unfold Zb3 whyR
 rw [ZsM hN p hf,ZU]
 by_cases h:Zfn p f=0
 ·obtain ⟨hp,hfo,_⟩:=Zi4 h
  have vp:=VP.of hp
  have hP:=vp.len
  obtain ⟨h1,h2,hall⟩:=ZgN hfo
  rw [Z1 (by simp [h]),Z2 h]
  by_cases hl:o.length=p.Periods.length
  ·rw [Z1 (by simp [hl])]
   rw [Ze2 (n:=o.length) (p:=λk=>offB p k (o.getD k 0)) (bad:=.inr (0,0,2)) (fin:=.inl ()) (λk hk=>by
    simp only [Zde]
    have hpg:p.Periods.getD k 0=p.Periods[k]:=Za2 (by omega) 0
    have hog:o.getD k 0=o[k]:=Za2 (by omega) 0
    rw [Z2 (by simpa using hk),Zbl hk,ZU,ZaS (by omega)]
    have hj:(if decide (o[k]<0)=true then some true else (idx p.Periods (k:Int)).bind λe509=>some (decide (o[k]≥e509)))=some (!(offB p k (o.getD k 0))):=by
     rw [Zbl (show k<p.Periods.length by omega),ZU,hog]
     unfold offB
     rw [Zk,hpg]
     by_cases c:o[k]<0
     ·rw [Z2 (by simpa using c)]
      congr 1
      symm
      rw [Zg,decide_eq_false_iff_not]
      omega
     rw [Z1 (by simpa using c)]
     congr 1
     by_cases d:o[k]≥p.Periods[k]
     ·rw [decide_eq_true d]
      symm
      rw [Zg,decide_eq_false_iff_not]
      omega
     rw [decide_eq_false d]
     symm
     rw [Bool.not_eq_false',ZZ]
     omega
    rw [hj,ZU]
    cases offB p k (o.getD k 0)<;>rfl) (by simp [Zde]) (by omega),ZU]
   have hoo:Zd1 p o=allB o.length λk=>offB p k (o.getD k 0):=by
    unfold Zd1
    rw [decide_eq_true hl,Zi]
   cases ho:Zd1 p o with
   | false =>
    rw [hoo] at ho
    rw [ho]
    rfl
   | true =>
    have ho2:=ho
    rw [hoo] at ho2
    rw [ho2]
    simp only [Z3]
    have hne:o≠[]:=λe=>by
     subst e
     obtain ⟨_,hs0,hs1,_⟩:=Ze3 (hall 0 (by omega))
     simp at hl
     omega
    have e1:Zbd N o=some o:=by
     unfold Zbd
     have e1:appI 8 [] o=some ([]++o):=ZbD (by simp;omega) (by omega)
     rw [e1]
     unfold neL
     cases o with
     | nil=>exact absurd rfl hne
     | cons=>rfl
    rw [e1,ZU,Zjp vp hall h1 h2 hf.2 ho (by omega),ZU]
  rw [Z2 (by simpa using (λe=>hl (by omega)))]
  have:Zd1 p o=false:=by
   unfold Zd1
   rw [decide_eq_false hl,Bool.false_and]
  rw [this]
  rfl
 rw [Z2 (by simpa using h),Z1 h]
end
theorem bne3 {a b c:Int}:((a != a)||((b != b)||(c != c)))=false:=by simp
theorem proofReasons_true (d:ZbG)(odd:List Z7)(a:ZaV)(some_ l:List Int)(hd:ZeU d)(hodd:odd.length<=maxLen/\∀ x∈odd,ZgY x)(ha:ZdE a)(hs:some_.length<=maxLen/\∀ x∈some_,InK .u8 x)(hl:l.length<=maxLen/\∀ x∈l,InK .i64 x):∃ N,ZcG N d odd a some_ l=some true:=by
 obtain ⟨N,hN⟩:=big
 refine ⟨N,?_⟩
 have hN2:=hN.1
 obtain ⟨p,hp,gp⟩:=Zfp (show 2000<=N by omega) hd
 obtain ⟨q,hq,q0,q1,q2,q3⟩:=ZnX hN (VP.of gp.prob) odd ha ha
 obtain ⟨o,ho,_⟩:=Zks (show 2000<=N by omega) (VP.of gp.prob) hs.2
 unfold ZcG
 rw [hp,ZU,hq,ZU,ho]
 simp only [ZU,ZeJ hN q0,ZeJ hN q1,ZeJ hN q2,ZeJ hN q3,ZeG hN q0,ZeG hN q1,ZeG hN q2,ZeG hN q3,Zpt (show 2000<=N by omega),bne3,Zf,Z0]
end Go.Sh

