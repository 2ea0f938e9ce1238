/- Part of the proof. -/
import Derived.Test.YthhhjjjbpcaadaaSolveTellsBase
set_option linter.all false
namespace Go.Sh
open Go Go.Eng
section
variable {p:Z6}
theorem Zpu (hp:VP p)(s:Nat):p.Periods.getD s 0<=240:=by
 by_cases e:s<p.Periods.length
 ·rw [ZaX e];exact (hp.per _ (List.getElem_mem e)).2
 rw [Zq,Zx (by omega)];simp
theorem ZeC (a b:List Zam)(m:Nat):cntA (a++b) m=cntA a m+cntA b m:=by simp [cntA]
theorem Zhh (a:Zam)(m:Nat):cntA [a] m=if a.By = -1/\a.Next=(m:Int) then 1 else 0:=by
 unfold cntA
 rw [List.countP_cons,List.countP_nil]
 by_cases e:a.By = -1/\a.Next=(m:Int)
 ·rw [Z3 e,Z3 (by simp [e.1,e.2])]
 rw [Z2 e,Z2 (by simpa using e)]
theorem ZmQ {l:List Zam}{b:Int}(h:ZfP l b=true):∃ l0 a,l=l0++[a]/\a.By=b/\b ≠ -1/\∀ t,ZkU l t=l0++[{ a with To:=t }]:=by
 unfold ZfP at h
 simp only [Ze,Z0] at h
 obtain ⟨⟨h1,h2⟩,h3⟩:=h
 rcases List.eq_nil_or_concat l with rfl|⟨l0,a,rfl⟩
 ·exact absurd rfl h2
 rw [List.concat_eq_append] at h3 ⊢
 have e:(l0++[a]).length-1=l0.length:=by simp
 rw [e] at h3
 have e2:(l0++[a]).getD l0.length a00=a:=by simp [Zq]
 rw [e2] at h3
 refine ⟨l0,a,rfl,h3,h1,λt=>?_⟩
 unfold ZkU
 rw [e,e2,List.set_append_right _ _ (Nat.le_refl _),Nat.sub_self]
 rfl
theorem GL.step (hp:VP p){f:List Z8}{given:List Int}{R:List Z8->List Int->Option (List Z8)}{x:Nat}{s s':List Z8}(hi:given.length<p.Periods.length)(ha:∀ y∈given,0<=y)
  (hx:(x:Int)<p.Periods.getD given.length 0) (h:GL p f given x s) (hR:∀ r,R s (given++[(x:Int)])=some r->GS p s (given++[(x:Int)]) r) (hs:ZdE p given f.length R x s=some s'):GL p f given (x+1) s':=by
 have hP:=hp.len
 have h240:=Zpu hp given.length
 unfold ZdE at hs
 have hbc:=Zo7 (p:=p) given f.length x
 split at hs
 ·rename_i hl
  cases hs
  obtain ⟨l0,a,hla,hab,hb1,hend⟩:=ZmQ hl
  have hhv:=h.hv
  have harm:=h.arms
  have hnm:=h.nm
  rw [hla] at hhv harm
  obtain ⟨e0,g1,g2,g3⟩:=Zoi harm
  obtain ⟨o1,o2,o3,o4⟩:=Zek g2
  rw [hend]
  refine GL.put (List.prefix_refl s) h (λd h1 h2=>by omega) (λm=>?_) ?_ (λg hg a' ha'=>?_)
  ·rw [hnm m,hla,ZeC,ZeC,Zhh,Zhh]
   simp only
   omega
  ·have:=Zil (a:={ a with To:=(x:Int)+1 }) g1 (by
    unfold ZeN
    rw [Ze,Z0]
    refine ⟨⟨o1,by simp only;omega,by simp only;omega⟩,?_⟩
    unfold Zby at o4 ⊢
    simp only
    rw [Z2 (by rw [hab];exact hb1)] at o4 ⊢
    exact o4)
   rw [this]
   rfl
  rcases List.mem_append.1 ha' with hm|hm
  ·exact hhv g hg a' (List.mem_append_left _ hm)
  simp only [ZM] at hm
  subst hm
  obtain ⟨_,q2⟩:=hhv g hg a (List.mem_append_right _ (by simp))
  simp only
  refine ⟨λe=>absurd (hab.symm.trans e) hb1,λe1 e2=>?_⟩
  have q3:=q2 e1 e2
  rcases hbc with ⟨hb,_⟩|hb|⟨j,hb,hj,hm⟩
  ·omega
  ·exact absurd hb hb1
  have hby:a.By=(j:Int):=by rw [hab,hb]
  have q4:=Zl2 (p:=p) (by omega) ha hg hj hm
  unfold refB at q3 q4 ⊢
  rw [hby,Zl] at q3
  simp only [hby,Zl] at q4 ⊢
  rw [Ze] at q3 q4 ⊢
  refine ⟨q3.1,Zbl.2 λk hk=>?_⟩
  by_cases c:k<(a.To-a.From).toNat
  ·exact Zbl.1 q3.2 k c
  have e5:=Zbl.1 q4.2 0 (by omega)
  have e6:a.From+(k:Int)=(x:Int)+((0:Nat):Int):=by omega
  rw [e6]
  exact e5
 rename_i hl
 split at hs
 ·rename_i hb
  cases hr:R s (given++[(x:Int)]) with
  | none=>rw [hr] at hs;cases hs
  | some r =>
   rw [hr] at hs
   cases hs
   have hG:=hR r hr
   have eg:r.getD f.length c00=s.getD f.length c00:=Zc7 c00 hG.pre h.lt
   have hlsr:=hG.lt
   refine GL.put hG.pre h hG.ch (λm=>?_) ?_ (λg hg a' ha'=>?_)
   ·rw [hG.nm m,h.nm m,eg,ZeC,Zhh]
    have:=h.lt
    simp only [true_and]
    split<;>split<;>split<;>split<;>omega
   ·rw [eg]
    have:=Zil (a:=⟨x,(x:Int)+1,-1,s.length⟩) (Zjp (ZgZ (L':=(r.length:Int)) (by omega)) h.arms) (by
     unfold ZeN
     rw [Ze,Z0]
     refine ⟨⟨rfl,by simp only;omega,by simp only;omega⟩,?_⟩
     unfold Zby
     have:=h.lt
     rw [Z3 rfl,Z0,Zbr (by simp only;omega) (by simp only;omega)]
     exact ⟨rfl,by simp only;omega,by simp only;omega⟩)
    rw [this]
    rfl
   rw [eg] at ha'
   rcases List.mem_append.1 ha' with hm|hm
   ·obtain ⟨q1,q2⟩:=h.hv g hg a' hm
    refine ⟨λe=>⟨(q1 e).1,(q1 e).2.ext λd y hd hy=>?_⟩,q2⟩
    obtain ⟨t,ht⟩:=hG.pre
    rw [← ht,Zr (List.getElem?_eq_some_iff.1 hy).1]
    exact hy
   simp only [ZM] at hm
   subst hm
   refine ⟨λ_=>⟨by simp only [Zl];exact h.lt,?_⟩,λe=>absurd rfl e⟩
   simp only [Zl]
   exact hG.hv _ (hg.snoc (by omega) _)
 rename_i hb
 cases hs
 refine GL.put (List.prefix_refl s) h (λd h1 h2=>by omega) (λm=>?_) ?_ (λg hg a' ha'=>?_)
 ·rw [h.nm m,ZeC,Zhh]
  simp only
  have hz:(if bS p given f.length x = -1/\(0:Int)=(m:Int) then (1:Nat) else 0)=0:=Z2 λq=>hb q.1
  rw [hz]
  omega
 ·have:=Zil (a:=⟨x,(x:Int)+1,bS p given f.length x,0⟩) h.arms (by
   unfold ZeN
   rw [Ze,Z0]
   refine ⟨⟨rfl,by simp only;omega,by simp only;omega⟩,?_⟩
   unfold Zby
   simp only
   rw [Z2 hb,Z3 trivial]
   rcases hbc with ⟨hb',hc,hx0⟩|hb' | ⟨j,hb',hj,hm⟩
   ·rw [Z3 hb',Z0]
    omega
   ·exact absurd hb' hb
   rw [Z2 (by omega),Z0]
   omega)
  rw [this]
  rfl
 rcases List.mem_append.1 ha' with hm|hm
 ·exact h.hv g hg a' hm
 simp only [ZM] at hm
 subst hm
 refine ⟨λe=>absurd e hb,λe1 e2=>?_⟩
 simp only at e2 ⊢
 rcases hbc with ⟨hb',hc,hx0⟩|hb' | ⟨j,hb',hj,hm⟩
 ·omega
 ·exact absurd hb' hb
 rw [hb']
 exact Zl2 (by omega) ha hg hj hm
theorem GL.start (f:List Z8)(given:List Int):GL p f given 0 (f++[⟨given.length,[]⟩]):=by
 have e:(f++[(⟨given.length,[]⟩:Z8)]).getD f.length c00=⟨given.length,[]⟩:=by simp [Zq]
 exact
  {pre:=List.prefix_append _ _
   lt:=by simp
   st:=by rw [e]
   ch:=λd h1 h2=>by rw [ZD,ZI] at h2;omega
   nm:=λm=>by
    rw [Zc1,Zhg,Z2 (by rw [ZD,ZI];omega)]
    simp [cntA]
   arms:=by rw [e];rfl
   hv:=λg hg a ha=>by rw [e] at ha;cases ha }
theorem Zmf (hp:VP p):∀ (n:Nat) (f:List Z8) (given:List Int) (r:List Z8),(∀ y∈given,0<=y)->given.length+n=p.Periods.length->ZfQ p n f given=some r->GS p f given r
 | 0,f,given,r,_,_,h=>by cases h
 | n+1,f,given,r,ha,hn,h=>by
  simp only [ZfQ] at h
  split at h
  ·cases h
  have hP:=hp.len
  have hi:given.length<p.Periods.length:=by omega
  have hper:1<=p.Periods.getD given.length 0:=by rw [ZaX hi];exact (hp.per _ (List.getElem_mem hi)).1
  have loop:∀ (k:Nat) (s:List Z8),k<=(p.Periods.getD given.length 0).toNat->upF (ZdE p given f.length (ZfQ p n)) k (f++[⟨given.length,[]⟩])=some s->GL p f given k s:=by
   intro k
   induction k with
   | zero=>intro s _ hs;simp only [upF,ZW] at hs;subst hs;exact GL.start f given
   | succ k ih =>
    intro s hk hs
    simp only [upF] at hs
    obtain ⟨s1,h1,h2⟩:=bind_some hs
    refine (ih s1 (by omega) h1).step hp hi ha (by omega) (λr hr=>Zmf hp n s1 _ r (λy hy=>?_) (by simp;omega) hr) h2
    rcases List.mem_append.1 hy with hy|hy
    ·exact ha y hy
    simp only [ZM] at hy;omega
  have hG:=loop _ r (Nat.le_refl _) h
  have hlt:=hG.lt
  have hst:=hG.st
  have harm:=hG.arms
  have hch:Za3 p r f.length=true:=by
   rw [ZcH hlt,← ZaX hlt c00,hst,Ze,Z0,Zl]
   refine ⟨by omega,?_⟩
   unfold Zgg
   rw [harm]
   simp only [beq_iff_eq]
   omega
  exact
   {pre:=hG.pre
    lt:=hlt
    ch:=λd h1 h2=>by
     by_cases c:d=f.length
     ·rw [c];exact hch
     exact hG.ch d (by omega) h2
    nm:=hG.nm
    hv:=λg hg=>by
     have hv:=hG.hv g hg
     have e1:(r.getD f.length c00).Stream.toNat=given.length:=by rw [hst,Zl]
     refine .mk (ch:=r.getD f.length c00) (by rw [ZaX hlt];exact Zw hlt) ?_ (λa ha hb=>((hv a ha).1 hb).1) (λa ha hb=>?_) (λa ha hb h0=>?_)
     ·rw [e1,hg _ (by omega),Z2 (by omega)]
     ·rw [e1];exact ((hv a ha).1 hb).2
     rw [e1];exact (hv a ha).2 hb h0 }
theorem ZpB (hp:ZcJ p=true){r:List Z8}(h:ZkJ p=some r):Zia p r=true/\Zk2 p r=0:=by
 have vp:=VP.of hp
 obtain ⟨h1,h2⟩:=Zlt vp h
 unfold ZkJ at h
 split at h
 ·cases h
 have hG:=Zmf vp p.Periods.length [] [] r (by simp) (by simp) h
 have hlt:0<r.length:=hG.lt
 have hf:Zia p r=true:=(Zn2 h2).2 ⟨⟨by omega,h1⟩,λc hc=>hG.ch c (by simp) hc,λm m1 m2=>by
  rw [hG.nm m,Z3 ⟨by simp only [ZG];omega,m2⟩]
  rfl⟩
 have hv:Zhq p r=true:=by
  unfold Zhq
  exact (hG.hv g0 λk hk=>by rw [Zn0 k hk];simp).hB (by simp)
 refine ⟨hf,?_⟩
 unfold Zk2
 rw [Z3 hp,Z3 hf,Z3 hv]
end
end Go.Sh
namespace Go.Sh
open Go Go.Eng
section
variable {N:Nat} {p:Z6}
def KOK (p:Z6)(m:slvK):Prop:=∀ k b,ZdV m k=some b->b=(ZbY p k.i k.x_ k.j 0).1
theorem KOK.nil:KOK p []:=λk b h=>by simp [ZdV] at h
theorem KOK.set {m:slvK}(h:KOK p m)(k:ZaW):KOK p (Zeu m k (ZbY p k.i k.x_ k.j 0).1):=λk' b hb=>by
 rw [ZkI] at hb
 by_cases e:k=k'
 ·rw [Z3 e,ZW] at hb
  rw [← hb,e]
 rw [Z2 e] at hb
 exact h k' b hb
theorem ZjX (hp:ZcJ p=true){i j:Nat}{x y:Int}(hi:offB p i x=true)(hj:offB p j y=true)(hij:i=j->x=y) :
  ZbY p i ((x-y)%p.Periods.getD i 0) j 0=(ZbI p i x j y,0):=by
 have h:=VP.of hp
 obtain ⟨i0,i1,x0,x1⟩:=Zbe.1 hi
 obtain ⟨j0,j1,y0,y1⟩:=Zbe.1 hj
 have hpi:p.Periods.getD i 0∈p.Periods:=by rw [ZaX (by omega)];exact List.getElem_mem _
 have pi:=h.per _ hpi
 simp only [Zl] at x1 y1
 obtain ⟨q,hq⟩:∃ q,q=(x-y)%p.Periods.getD i 0:=⟨_,rfl⟩
 have q0:0<=q:=by rw [hq];exact Int.emod_nonneg _ (by omega)
 have q1:q<p.Periods.getD i 0:=by rw [hq];exact Int.emod_lt_of_pos _ (by omega)
 rw [← hq]
 unfold ZbY
 have ea:argB p i q j 0=true:=by
  unfold argB
  have o1:offB p i q=true:=Zbe.2 ⟨by omega,by omega,q0,by rw [Zl];exact q1⟩
  have o2:offB p j 0=true:=Zbe.2 ⟨by omega,by omega,by omega,by rw [Zl];omega⟩
  rw [o1,o2]
  by_cases e:i=j
  ·have:=hij e
   have hz:q=0:=by rw [hq,this];simp
   simp [hz]
  have:¬ ((i:Int)=(j:Int)):=by omega
  simp [this]
 rw [Z3 hp,Z3 ea]
 congr 1
 have:=ZfO h i j x y (-y)
 rw [show y + -y=0 by omega,Int.zero_emod,show x + -y=x-y by omega,← hq] at this
 exact this
theorem ZgI (hN:2000<=N)(hp:ZcJ p=true){m:slvK}(hm:KOK p m){i j:Nat}{x y:Int}(hi:offB p i x=true)(hj:offB p j y=true)(hij:i=j->x=y) :
  ∃ m',Zeb N p m i x j y=some (ZbI p i x j y,m')/\KOK p m':=by
 have h:=VP.of hp
 obtain ⟨i0,i1,x0,x1⟩:=Zbe.1 hi
 obtain ⟨j0,j1,y0,y1⟩:=Zbe.1 hj
 have xl:=ZgR h hi;have yl:=ZgR h hj
 have hpi:p.Periods.getD i 0∈p.Periods:=by rw [ZaX (by omega)];exact List.getElem_mem _
 have pi:=h.per _ hpi
 have ec:=ZjX hp hi hj hij
 have h1:=Int.lt_tmod_of_pos (x-y) (show 0<p.Periods.getD i 0 by omega)
 have h2:=Int.tmod_lt_of_pos (x-y) (show 0<p.Periods.getD i 0 by omega)
 unfold Zeb
 rw [show idx p.Periods ((i:Nat):Int)=some (p.Periods.getD i 0) by rw [Zdp (by omega),ZaX (by omega)],ZT,Zbr (x:=x-y) (by omega) (by omega),Zcd (by omega),ZT,Zbr (by omega) (by omega),Zcd (by omega),ZT,Zjq (by omega)]
 obtain ⟨q,hq⟩:∃ q,q=(x-y)%p.Periods.getD i 0:=⟨_,rfl⟩
 rw [← hq] at ec ⊢
 cases hg:ZdV m (ZaW.mk i q j) with
 | some b =>
  have hb:=hm _ _ hg
  simp only [ec] at hb
  refine ⟨m,?_,hm⟩
  unfold mhas ZiF
  rw [hg]
  simp [hb]
 | none =>
  refine ⟨Zeu m (ZaW.mk i q j) (ZbY p i q j 0).1,?_,hm.set (ZaW.mk i q j)⟩
  unfold mhas
  rw [hg,Z3 (by simp),ZeI hN,ec]
  rfl
theorem ZdH {given:List Int}{x:Int}{j:Nat}(h:j<given.length):(given++[x]).getD j 0=given.getD j 0:=by
 rw [Zq,Zr h,Zq]
theorem ZcV {given:List Int}{x:Int}:(given++[x]).getD given.length 0=x:=by
 rw [Zq];simp
def preB (p:Z6)(given:List Int):Prop:=∀ k,k<given.length->offB p k (given.getD k 0)=true
theorem preB.snoc {given:List Int}(h:preB p given){x:Int}(hx:offB p given.length x=true):preB p (given++[x]):=λk hk=>by
 rw [ZD,ZI] at hk
 by_cases e:k=given.length
 ·subst e;rw [ZcV];exact hx
 rw [ZdH (by omega)];exact h k (by omega)
theorem Zjx (hN:2000<=N)(hp:ZcJ p=true){m:slvK}(hm:KOK p m){given:List Int}(hg:preB p given){x:Int}(hx:offB p given.length x=true) :
  ∃ m',Zea N p given m given.length x=some (byS p given.length x (given++[x]),m')/\KOK p m':=by
 have h:=VP.of hp
 obtain ⟨i0,i1,x0,x1⟩:=Zbe.1 hx
 have hl:=h.len
 obtain ⟨r,hr,e⟩:=ZcR (body:=λy:Int×slvK=>Zcc N p given given.length x y.1 y.2)
  (λy=>∃ k:Nat,y.1=k/\k<=given.length/\KOK p y.2/\∀ m,m<k->ZbI p given.length x m ((given++[x]).getD m 0)=false)
  (λy=>((given.length:Int)+1-y.1).toNat)
  (λo=>(∃ m',o=.inl m'/\KOK p m'/\∀ m,m<given.length->ZbI p given.length x m ((given++[x]).getD m 0)=false)∨(∃ (j:Nat) (m':slvK),o=.inr ((j:Int),m')/\KOK p m'/\j<given.length/\ZbI p given.length x j ((given++[x]).getD j 0)=true/\∀ m,m<j->ZbI p given.length x m ((given++[x]).getD m 0)=false)) (λy hy=>by
   obtain ⟨j,m1⟩:=y
   obtain ⟨k,rfl,k1,k2,k3⟩:=hy
   simp only at k2 ⊢
   simp only [Zcc]
   by_cases c:k<given.length
   ·rw [Z3 (by simpa using c),Zdp c,ZT]
    have eg:given[k]'c=(given++[x]).getD k 0:=by rw [ZdH c];exact (ZaX c 0).symm
    obtain ⟨m',h1,h2⟩:=ZgI hN hp k2 hx (hg k c) (λe=>by omega)
    rw [eg,show (given++[x]).getD k 0=given.getD k 0 from ZdH c,h1,ZT]
    cases hmt:ZbI p given.length x k (given.getD k 0) with
    | true=>exact .inr ⟨_,by rw [Z3 rfl],.inr ⟨k,m',rfl,h2,c,by rw [ZdH c];exact hmt,k3⟩⟩
    | false=>exact .inl ⟨_,by rw [Z2 (by simp)],⟨k+1,by simp only;rw [ZbA (by omega)],by omega,h2,λm hm'=>by
       by_cases e:m=k
       ·subst e;rw [ZdH c];exact hmt
       exact k3 m (by omega)⟩,by simp only;rw [ZbA (by omega)];omega⟩
   exact .inr ⟨_,by rw [Z2 (by simp;omega)],.inl ⟨m1,rfl,k2,λm hm'=>k3 m (by omega)⟩⟩) N (0,m) ⟨0,rfl,by omega,hm,λm hm=>by omega⟩ (by simp only;omega)
 unfold Zea
 rw [hr,ZT]
 unfold byS
 rcases e with ⟨m',rfl,e2,e3⟩|⟨j,m',rfl,e2,e3,e4,e5⟩
 ·simp only
  obtain ⟨m2,h1,h2⟩:=ZgI hN hp e2 hx hx (λ_=>rfl)
  rw [h1,ZT]
  cases hmt:ZbI p given.length x given.length x with
  | true =>
   rw [Zc0.2 ⟨show given.length<given.length+1 by omega,by rw [ZcV];exact hmt,e3⟩]
   exact ⟨m2,by rw [Z3 rfl],h2⟩
  | false =>
   rw [Zey.2 λk hk=>by
    by_cases e:k=given.length
    ·subst e;rw [ZcV];exact hmt
    exact e3 k (by omega)]
   exact ⟨m2,by rw [Z2 (by simp)],h2⟩
 rw [Zc0.2 ⟨by omega,e4,e5⟩]
 exact ⟨m',rfl,e2⟩
end
end Go.Sh

namespace Go.Sh
open Go Go.Eng
section
variable {σ ρ:Type}
def upS (step:Nat->σ->Option (σ⊕ρ)):Nat->σ->Option (σ⊕ρ)
 | 0,s=>some (.inl s)
 | n+1,s=>match upS step n s with
  | some (.inl s1)=>step n s1
  | q=>q
theorem Zjo {step:Nat->σ->Option (σ⊕ρ)}{n:Nat}{s s1:σ}(h:upS step n s=some (.inl s1)):upS step (n+1) s=step n s1:=by
 simp only [upS,h]
theorem ZfU {step:Nat->σ->Option (σ⊕ρ)}{n:Nat}{s:σ}{q:Option (σ⊕ρ)}(h:upS step n s=q)(hq:∀ s1,q≠some (.inl s1)):upS step (n+1) s=q:=by
 simp only [upS,h]
theorem Zjn {step:Nat->σ->Option (σ⊕ρ)}{k:Nat}{s:σ}{q:Option (σ⊕ρ)}(h:upS step k s=q)(hq:∀ s1,q≠some (.inl s1)):∀ n,k<=n->upS step n s=q:=by
 intro n hn
 induction n with
 | zero =>
  obtain rfl:k=0:=by omega
  exact h
 | succ n ih =>
  by_cases e:k=n+1
  ·subst e;exact h
  exact ZfU (ih (by omega)) hq
theorem Zhc {step:Nat->σ->Option (σ⊕ρ)}{n:Nat}{s0 s:σ}(h:upS step (n+1) s0=some (.inl s)):∃ s1,upS step n s0=some (.inl s1)/\step n s1=some (.inl s):=by
 cases hu:upS step n s0 with
 | none=>rw [ZfU hu (λs1 h=>by cases h)] at h;cases h
 | some r =>
  cases r with
  | inl s1=>rw [Zjo hu] at h;exact ⟨s1,rfl,h⟩
  | inr r=>rw [ZfU hu (λs1 h=>by cases h)] at h;cases h
theorem Zle {step:Nat->σ->Option (σ⊕ρ)}:∀ {n:Nat} {s0 s:σ},upS step n s0=some (.inl s)->∀ k,k<n->∃ s1 s2,upS step k s0=some (.inl s1)/\step k s1=some (.inl s2)
 | 0,s0,s,h,k,hk=>by omega
 | n+1,s0,s,h,k,hk=>by
  obtain ⟨s1,h1,h2⟩:=Zhc h
  by_cases e:k=n
  ·subst e;exact ⟨s1,s,h1,h2⟩
  exact Zle h1 k (by omega)
theorem Zkb {step:Nat->σ->Option (σ⊕ρ)}:∀ {n:Nat} {s0:σ} {r:ρ},upS step n s0=some (.inr r)->∃ k s1,k<n/\upS step k s0=some (.inl s1)/\step k s1=some (.inr r)
 | 0,s0,r,h=>by cases h
 | n+1,s0,r,h=>by
  cases hu:upS step n s0 with
  | none=>rw [ZfU hu (λs1 h=>by cases h)] at h;cases h
  | some q =>
   cases q with
   | inl s1=>rw [Zjo hu] at h;exact ⟨n,s1,by omega,hu,h⟩
   | inr r' =>
    rw [ZfU hu (λs1 h=>by cases h)] at h
    cases h
    obtain ⟨k,s1,h1,h2,h3⟩:=Zkb hu
    exact ⟨k,s1,by omega,h2,h3⟩
end
abbrev SR:=Option (List Z8⊕List Int)
section
variable {p:Z6}
def addA (f:List Z8)(c:Nat)(z:Zam):List Z8 :=
 f.set c ⟨(f.getD c c00).Stream,if (decide (0<=z.By)&&ZfP (f.getD c c00).Arms z.By)=true then ZkU (f.getD c c00).Arms z.To else (f.getD c c00).Arms++[z]⟩
theorem Zj4 (f:List Z8)(c:Nat)(z:Zam):(addA f c z).length=f.length:=by simp [addA]
def Zer (p:Z6)(given:List Int)(c:Nat)(last:Bool)(R:List Z8->List Int->SR)(x:Nat)(s:List Z8):SR :=
 if byS p given.length x (given++[(x:Int)]) = -1 then
  (if last=true then some (.inr (given++[(x:Int)])) else match R s (given++[(x:Int)]) with
   | some (.inl r)=>some (.inl (addA r c ⟨x,(x:Int)+1,-1,s.length⟩))
   | q=>q)
 else some (.inl (addA s c ⟨x,(x:Int)+1,byS p given.length x (given++[(x:Int)]),0⟩))
def ZdO (p:Z6)(i:Nat):Nat:=if i=0 then 1 else (p.Periods.getD i 0).toNat
def endS (p:Z6)(c i:Nat)(s:List Z8):List Z8:=if i=0/\1<p.Periods.getD i 0 then addA s c ⟨1,p.Periods.getD i 0,-2,0⟩ else s
def Zex (p:Z6)(given:List Int):Bool:=decide (given.length+1=p.Periods.length)
def srch (p:Z6)(fuel:Int):Nat->List Z8->List Int->SR
 | 0,_,_=>none
 | n+1,f,given=>if fuel<(f.length:Int) then none else
  match upS (Zer p given f.length (Zex p given) (srch p fuel n)) (ZdO p given.length) (f++[⟨given.length,[]⟩]) with
  | some (.inl s)=>some (.inl (endS p f.length given.length s))
  | q=>q
theorem Zge (i:Nat)(x:Int)(all:List Int):(byS p i x all = -1/\∀ j,j<=i->ZbI p i x j (all.getD j 0)=false)∨∃ j:Nat,byS p i x all=j/\j<=i/\ZbI p i x j (all.getD j 0)=true:=by
 unfold byS
 cases h:ZeK (λj=>ZbI p i x j (all.getD j 0)) (i+1) with
 | none=>exact .inl ⟨rfl,λj hj=>Zey.1 h j (by omega)⟩
 | some j =>
  obtain ⟨h1,h2,_⟩:=Zc0.1 h
  exact .inr ⟨j,rfl,by omega,h2⟩
theorem ZnP (l:List Zam):ZfP l (-1)=false:=by simp [ZfP]
theorem ZiP {given:List Int}{c:Nat}{last:Bool}{R:List Z8->List Int->SR}{R':List Z8->List Int->Option (List Z8)}{x:Nat}{s s':List Z8}
  (hR:∀ r,R s (given++[(x:Int)])=some (.inl r)->R' s (given++[(x:Int)])=some r) (hc:c=0->x=0) (h:Zer p given c last R x s=some (.inl s')):ZdE p given c R' x s=some s':=by
 have hb:bS p given c x=byS p given.length x (given++[(x:Int)]):=by
  unfold bS
  rw [Z2 (by omega)]
 unfold ZdE
 unfold Zer at h
 rw [hb]
 rcases Zge (p:=p) given.length x (given++[(x:Int)]) with ⟨e,_⟩|⟨j,e,_⟩
 ·rw [Z3 e] at h
  rw [e,ZnP,Z2 (by simp),Z3 rfl]
  cases last with
  | true=>rw [Z3 rfl] at h;cases h
  | false =>
   rw [Z2 (by simp)] at h
   cases hr:R s (given++[(x:Int)]) with
   | none=>rw [hr] at h;cases h
   | some q =>
    cases q with
    | inr o=>rw [hr] at h;cases h
    | inl r =>
     rw [hr] at h
     simp only [ZW,Sum.inl.injEq] at h
     rw [hR r hr,ZV,← h]
     unfold addA
     rw [Z2 (by simp)]
 rw [Z2 (by omega),ZW,Sum.inl.injEq] at h
 rw [e] at h ⊢
 rw [← h]
 unfold addA
 rw [decide_eq_true (show (0:Int)<=(j:Int) by omega),Zj]
 by_cases hl:ZfP (s.getD c c00).Arms (j:Int)=true
 ·rw [Z3 hl,Z3 hl]
 rw [Z2 hl,Z2 hl,Z2 (by omega)]
theorem ZmV (l:List Zam)(a:Zam)(t:Int):ZkU (l++[a]) t=l++[{ a with To:=t }]:=by
 unfold ZkU
 simp [Zq]
theorem ZfC (l:List Zam)(a:Zam)(b:Int):ZfP (l++[a]) b=true↔b ≠ -1/\a.By=b:=by
 unfold ZfP
 simp [Zq]
theorem Zn4 {R:List Z8->List Int->Option (List Z8)}(hR:∀ r,R [⟨0,[]⟩] ([]++[((0:Nat):Int)])=some r->[⟨0,[]⟩] <+: r){s:List Z8}(h:ZdE p [] 0 R 0 [⟨0,[]⟩]=some s) :
  0<s.length/\∃ l a,(s.getD 0 c00).Arms=l++[a]/\a.By ≠ -2:=by
 have hb:bS p [] 0 0=byS p 0 0 [0]:=by
  unfold bS
  rw [Z2 (by omega)]
  rfl
 unfold ZdE at h
 rw [hb] at h
 have e0:(([⟨0,[]⟩]:List Z8).getD 0 c00).Arms=[]:=rfl
 rw [e0,show ZfP [] (byS p 0 0 [0])=false by simp [ZfP],Z2 (by simp)] at h
 rcases Zge (p:=p) 0 0 [0] with ⟨e,_⟩|⟨j,e,_⟩
 ·rw [Z3 e] at h
  cases hr:R [⟨0,[]⟩] ([]++[((0:Nat):Int)]) with
  | none=>rw [hr] at h;cases h
  | some r =>
   rw [hr] at h
   have hl:0<r.length:=Nat.lt_of_lt_of_le (by simp) (hR _ hr).length_le
   cases h
   refine ⟨by rw [ZH];exact hl,_,_,by rw [Zbq _ _ hl],by simp⟩
 rw [Z2 (by omega)] at h
 cases h
 exact ⟨by simp,_,_,by rw [Zbq _ _ (by simp)],by simp only [e];omega⟩
theorem ZiO {R:List Z8->List Int->Option (List Z8)}{s0 s:List Z8}(h1:upF (ZdE p [] 0 R) 1 s0=some s)(hl:0<s.length){l:List Zam}{a:Zam}(ha:(s.getD 0 c00).Arms=l++[a])(hb:a.By ≠ -2) :
  ∀ k:Nat,upF (ZdE p [] 0 R) (k+2) s0=some (s.set 0 ⟨(s.getD 0 c00).Stream,(s.getD 0 c00).Arms++[⟨1,(k:Int)+2,-2,0⟩]⟩)
 | 0=>by
  show (upF (ZdE p [] 0 R) 1 s0).bind _=_
  rw [h1,ZT]
  unfold ZdE
  have e:bS p [] 0 1 = -2:=rfl
  rw [e,Z2 (by rw [ha,ZfC];omega),Z2 (by omega)]
  rfl
 | k+1=>by
  show (upF (ZdE p [] 0 R) (k+2) s0).bind _=_
  rw [ZiO h1 hl ha hb k,ZT]
  unfold ZdE
  have e:bS p [] 0 (k+2) = -2:=by unfold bS;rw [Z3 (by omega)]
  rw [e,Zbq _ _ hl,Z3 (by rw [ZfC];exact ⟨by omega,rfl⟩),ZmV,List.set_set]
  simp only
  congr 6
theorem ZfY {fuel:Int}(hp:VP p)(hf:fuel<=1999):∀ (n:Nat) (f:List Z8) (given:List Int) (r:List Z8),given.length+n=p.Periods.length->(given.length=0↔f.length=0)->f.length<=2000->Zdb f →
  srch p fuel n f given=some (.inl r)->ZfQ p n f given=some r
 | 0,f,given,r,_,_,_,_,h=>by cases h
 | n+1,f,given,r,hl,h0,hf2,hs,h=>by
  simp only [srch] at h
  simp only [ZfQ]
  by_cases hc:fuel<(f.length:Int)
  ·rw [Z3 hc] at h;cases h
  rw [Z2 hc] at h
  rw [Z2 (by omega)]
  have hin:given.length<p.Periods.length:=by omega
  have hpe:=hp.per _ (List.getElem_mem hin)
  have hpg:p.Periods.getD given.length 0=p.Periods[given.length]:=ZaX hin 0
  obtain ⟨s0,hs0⟩:∃ s0,s0=f++[(⟨given.length,[]⟩:Z8)]:=⟨_,rfl⟩
  rw [← hs0] at h ⊢
  have hloop:∀ (k:Nat) (s:List Z8),(given.length=0->k<=1)->k<=240->upS (Zer p given f.length (Zex p given) (srch p fuel n)) k s0=some (.inl s)->upF (ZdE p given f.length (ZfQ p n)) k s0=some s:=by
   intro k
   induction k with
   | zero=>intro s _ _ h;simp only [upS,ZW,Sum.inl.injEq] at h;simp only [upF,h]
   | succ k ih =>
    intro s hk hk2 h
    obtain ⟨s1,h1,h2⟩:=Zhc h
    have h3:=ih s1 (λe=>by have:=hk e;omega) (by omega) h1
    show (upF _ k s0).bind _=_
    rw [h3,ZT]
    have hG:=GI.loop (Zd0 hp n) (hs0 ▸ GI.start given.length (by omega) hs:GI f given.length 0 s0) (by omega) h3
    have hlt:=hG.lt
    exact ZiP (λr hr=>ZfY hp hf n s1 _ r (by simp;omega) ⟨λh=>by simp at h,λh=>by omega⟩ hG.le hG.sm hr) (λe=>by have:=hk (h0.2 e);omega) h2
  cases hu:upS (Zer p given f.length (Zex p given) (srch p fuel n)) (ZdO p given.length) s0 with
  | none=>rw [hu] at h;cases h
  | some q =>
   cases q with
   | inr o=>rw [hu] at h;cases h
   | inl s =>
    rw [hu] at h
    simp only [ZW,Sum.inl.injEq] at h
    have h3:=hloop _ s (λe=>by unfold ZdO;rw [Z3 e];omega) (by unfold ZdO;split<;>omega) hu
    by_cases e:given.length=0
    ·obtain rfl:given=[]:=List.eq_nil_of_length_eq_zero e
     obtain rfl:f=[]:=List.eq_nil_of_length_eq_zero (h0.1 e)
     simp only [ZG,ZN] at *
     unfold ZdO at h3
     rw [Z3 rfl] at h3
     unfold endS at h
     by_cases c:1<p.Periods.getD 0 0
     ·rw [Z3 ⟨rfl,c⟩] at h
      obtain ⟨k,hk⟩:∃ k,(p.Periods.getD 0 0).toNat=k+2:=⟨(p.Periods.getD 0 0).toNat-2,by omega⟩
      have h4:ZdE p [] 0 (ZfQ p n) 0 [⟨0,[]⟩]=some s:=by
       have:(upF (ZdE p [] 0 (ZfQ p n)) 0 s0).bind (ZdE p [] 0 (ZfQ p n) 0)=some s:=h3
       rw [hs0] at this
       exact this
      obtain ⟨hl1,l,a,ha,hb⟩:=Zn4 (R:=ZfQ p n) (λr hr=>(Zd0 hp n _ _ r (by simp) (λy hy=>by rw [List.mem_singleton.1 hy];simp) hr).1) h4
      rw [hk,ZiO h3 hl1 ha hb k,← h]
      unfold addA
      rw [Z2 (by simp)]
      congr 6
      omega
     rw [Z2 (by omega)] at h
     rw [show (p.Periods.getD 0 0).toNat=1 by omega,h3,h]
    unfold endS at h
    rw [Z2 (by omega)] at h
    unfold ZdO at h3
    rw [Z2 e] at h3
    rw [h3,h]
theorem Znv {fuel:Int}{n:Nat}(ih:∀ (f:List Z8) (given:List Int) (r:List Z8),(f.length:Int)<=fuel+1->srch p fuel n f given=some (.inl r)->(r.length:Int)<=fuel+1){given:List Int}{c:Nat}{last:Bool}{x:Nat}{s s':List Z8}
  (hs:(s.length:Int)<=fuel+1) (h:Zer p given c last (srch p fuel n) x s=some (.inl s')):(s'.length:Int)<=fuel+1:=by
 unfold Zer at h
 by_cases e:byS p given.length x (given++[(x:Int)]) = -1
 ·rw [Z3 e] at h
  cases last with
  | true=>rw [Z3 rfl] at h;cases h
  | false =>
   rw [Z2 (by simp)] at h
   cases hr:srch p fuel n s (given++[(x:Int)]) with
   | none=>rw [hr] at h;cases h
   | some q =>
    cases q with
    | inr o=>rw [hr] at h;cases h
    | inl r =>
     rw [hr] at h
     simp only [ZW,Sum.inl.injEq] at h
     rw [← h,Zj4]
     exact ih _ _ _ hs hr
 rw [Z2 e] at h
 simp only [ZW,Sum.inl.injEq] at h
 rw [← h,Zj4]
 exact hs
theorem ZlX {fuel:Int}:∀ (n:Nat) (f:List Z8) (given:List Int) (r:List Z8),(f.length:Int)<=fuel+1->srch p fuel n f given=some (.inl r)->(r.length:Int)<=fuel+1
 | 0,f,given,r,_,h=>by cases h
 | n+1,f,given,r,hf,h=>by
  simp only [srch] at h
  by_cases hc:fuel<(f.length:Int)
  ·rw [Z3 hc] at h;cases h
  rw [Z2 hc] at h
  obtain ⟨s0,hs0⟩:∃ s0,s0=f++[(⟨given.length,[]⟩:Z8)]:=⟨_,rfl⟩
  rw [← hs0] at h
  have hloop:∀ (k:Nat) (s:List Z8),upS (Zer p given f.length (Zex p given) (srch p fuel n)) k s0=some (.inl s)->(s.length:Int)<=fuel+1:=by
   intro k
   induction k with
   | zero=>intro s h;simp only [upS,ZW,Sum.inl.injEq] at h;rw [← h,hs0];simp;omega
   | succ k ih =>
    intro s h
    obtain ⟨s1,h1,h2⟩:=Zhc h
    exact Znv (ZlX n) (ih s1 h1) h2
  cases hu:upS (Zer p given f.length (Zex p given) (srch p fuel n)) (ZdO p given.length) s0 with
  | none=>rw [hu] at h;cases h
  | some q =>
   cases q with
   | inr o=>rw [hu] at h;cases h
   | inl s =>
    rw [hu] at h
    simp only [ZW,Sum.inl.injEq] at h
    have:=hloop _ s hu
    rw [← h]
    unfold endS
    split
    ·rw [Zj4];exact this
    exact this
end
end Go.Sh

namespace Go.Sh
open Go Go.Eng
section
variable {N:Nat} {p:Z6}
theorem ZhB {l:List Zam}(hl:l.length<=1000)(b:Int):ZdW l b=some (decide (0<=b)&&ZfP l b):=by
 unfold ZdW ZfP
 by_cases hn:l=[]
 ·subst hn;simp
 have h0:0<l.length:=List.length_pos_iff.2 hn
 rw [Z3 (by simp;omega),decide_eq_true hn]
 by_cases hb:0<=b
 ·rw [Z3 (by simpa using hb),decide_eq_true hb,decide_eq_true (show b ≠ -1 by omega),Zj,Zj,Zj]
  have e:w64 (((List.length l:Nat):Int)-1)=((l.length-1:Nat):Int):=by rw [Zbr (by omega) (by omega)];omega
  rw [e,Zdp (by omega),ZT,ZaX (by omega)]
  rfl
 rw [Z2 (by simpa using hb),decide_eq_false hb,Bool.false_and]
theorem Zgl {f:List Z8}{c:Nat}(hc:c<f.length)(hl:(f.getD c c00).Arms.length<=1000)(z:Zam):Zeq f c z=some (addA f c z):=by
 unfold Zeq addA
 rw [Zdp hc,ZT,← ZaX hc c00,ZhB hl,ZT]
 cases hlb:(decide (0<=z.By)&&ZfP (f.getD c c00).Arms z.By) with
 | true =>
  rw [Z3 rfl,Z3 rfl]
  have hne:(f.getD c c00).Arms≠[]:=by
   unfold ZfP at hlb
   simp only [Ze,Z0] at hlb
   exact hlb.2.1.2
  have h0:0<(f.getD c c00).Arms.length:=List.length_pos_iff.2 hne
  have e:w64 (((List.length (f.getD c c00).Arms:Nat):Int)-1)=(((f.getD c c00).Arms.length-1:Nat):Int):=by rw [Zbr (by omega) (by omega)];omega
  rw [e,Zfk a00 (by omega) (by omega),ZT]
  simp only [Zl]
  rfl
 | false =>
  rw [Z2 (by simp),Z2 (by simp),Zfr (by rw [ZI];omega) (by omega),ZT]
  simp only [Zl]
def ZiC (p:Z6)(given:List Int)(r:SR)(o:Option (Bool×ZbB)):Prop:=match r with
 | none=>o=none
 | some (.inl f)=>∃ m,o=some (false,(f,given,m))/\KOK p m
 | some (.inr g)=>∃ f m,o=some (true,(f,g,m))
theorem Zpp {fuel:Int}(hp:VP p)(hf:fuel<=1999){n:Nat}{f:List Z8}{given:List Int}(hl:given.length+(n+1)=p.Periods.length)(h0:given.length=0↔f.length=0)(hf2:f.length<2000)(hs:Zdb f) :
  ∀ (k:Nat) (s:List Z8),(given.length=0->k<=1)->k<=240->upS (Zer p given f.length (Zex p given) (srch p fuel n)) k (f++[⟨given.length,[]⟩])=some (.inl s)->GI f given.length k s:=by
 have hloop:∀ (k:Nat) (s:List Z8),(given.length=0->k<=1)->k<=240->upS (Zer p given f.length (Zex p given) (srch p fuel n)) k (f++[⟨given.length,[]⟩])=some (.inl s)->upF (ZdE p given f.length (ZfQ p n)) k (f++[⟨given.length,[]⟩])=some s:=by
  intro k
  induction k with
  | zero=>intro s _ _ h;simp only [upS,ZW,Sum.inl.injEq] at h;simp only [upF,h]
  | succ k ih =>
   intro s hk hk2 h
   obtain ⟨s1,h1,h2⟩:=Zhc h
   have h3:=ih s1 (λe=>by have:=hk e;omega) (by omega) h1
   show (upF _ k _).bind _=_
   rw [h3,ZT]
   have hG:=GI.loop (Zd0 hp n) (GI.start given.length (by omega) hs:GI f given.length 0 _) (by omega) h3
   have hlt:=hG.lt
   exact ZiP (λr hr=>ZfY hp hf n s1 _ r (by simp;omega) ⟨λh=>by simp at h,λh=>by omega⟩ hG.le hG.sm hr) (λe=>by have:=hk (h0.2 e);omega) h2
 exact λk s h1 h2 h3=>GI.loop (Zd0 hp n) (GI.start given.length (by omega) hs:GI f given.length 0 _) h2 (hloop k s h1 h2 h3)
theorem Zis {fuel:Int}(hp:ZcJ p=true)(hf:fuel<=1999)(hN:2000<=N){R:ZbB->Int->Option (Option (Bool×ZbB))}{n:Nat}{f:List Z8}{given:List Int}{m:slvK}(hl:given.length+(n+1)=p.Periods.length)(hpre:preB p given)(hf2:f.length<=2000)(hs:Zdb f)(h0:given.length=0↔f.length=0)(hm:KOK p m)
  (hR:n≠0->∀ (s:List Z8) (m:slvK) (x:Int),s.length<=2000->Zdb s->s.length≠0->KOK p m->offB p given.length x=true->∃ o,R (s,given++[x],m) ((given.length+1:Nat):Int)=some o/\ZiC p (given++[x]) (srch p fuel n s (given++[x])) o) :
  ∃ o,ZcW N R p fuel (f,given,m) given.length=some o/\ZiC p given (srch p fuel (n+1) f given) o:=by
 unfold ZcW
 simp only [srch]
 by_cases hc:fuel<(f.length:Int)
 ·rw [Z3 (by simpa using hc),Z3 hc]
  exact ⟨none,rfl,rfl⟩
 rw [Z2 (by simpa using hc),Z2 hc,Zfr (by simp;omega) (by omega),ZT]
 have h:=VP.of hp
 have hP:=h.len
 have hin:given.length<p.Periods.length:=by omega
 have hpe:=h.per _ (List.getElem_mem hin)
 have hpg:p.Periods.getD given.length 0=p.Periods[given.length]:=ZaX hin 0
 rw [Zdp hin,ZT,← hpg]
 have hmost:(if ((given.length:Int)==0)=true then some 1 else some (p.Periods.getD given.length 0))=some (ZdO p given.length:Int):=by
  unfold ZdO
  by_cases e:given.length=0
  ·rw [Z3 (by simpa using e),Z3 e];rfl
  rw [Z2 (by simpa using e),Z2 e,Int.toNat_of_nonneg (by omega)]
 have hmp:ZdO p given.length<=240/\(ZdO p given.length:Int)<=p.Periods.getD given.length 0/\(given.length=0->ZdO p given.length=1)/\(given.length≠0->(ZdO p given.length:Int)=p.Periods.getD given.length 0):=by
  unfold ZdO
  split<;>omega
 obtain ⟨m1,m2,m3,m4⟩:=hmp
 rw [hmost,ZT]
 obtain ⟨most,hmo⟩:∃ k,k=ZdO p given.length:=⟨_,rfl⟩
 obtain ⟨per,hper⟩:∃ k,k=p.Periods.getD given.length 0:=⟨_,rfl⟩
 have hG:=λk s (hk:k<=most) hu=>Zpp h hf hl h0 (by omega) hs k s (λe=>by have:=m3 e;omega) (by omega) hu
 rw [← hmo] at m1 m2 m3 m4 ⊢
 rw [← hper] at m2 m4 ⊢
 obtain ⟨s0,hs0⟩:∃ s0,s0=f++[(⟨given.length,[]⟩:Z8)]:=⟨_,rfl⟩
 rw [← hs0] at hG ⊢
 obtain ⟨step,hst⟩:∃ st,st=Zer p given f.length (Zex p given) (srch p fuel n):=⟨_,rfl⟩
 rw [← hst] at hG ⊢
 obtain ⟨r,hr,e⟩:=ZcR (body:=λy:Int×ZbB=>ZcB N R p given.length f.length most y.1 y.2)
  (λy=>∃ (k:Nat) (s:List Z8) (m:slvK),y=((k:Int),(s,given,m))/\k<=most/\KOK p m/\upS step k s0=some (.inl s))
  (λy=>((most:Int)+1-y.1).toNat)
  (λr=>(∃ s m,r=.inl (s,given,m)/\KOK p m/\upS step most s0=some (.inl s))∨(r=.inr none/\upS step most s0=none)∨(∃ f g m,r=.inr (some (f,g,m))/\upS step most s0=some (.inr g))) (λy hy=>by
   obtain ⟨k,s,m,rfl,k1,k2,k3⟩:=hy
   simp only [ZcB]
   by_cases c:k<most
   ·rw [Z3 (by simpa using c)]
    have hx:offB p given.length (k:Int)=true:=Zbe.2 ⟨by omega,by omega,by omega,by rw [Zl,← hper];omega⟩
    obtain ⟨m',h1,h2⟩:=Zjx hN hp k2 hpre hx
    rw [h1,ZT]
    have hg:=hG k s k1 k3
    have hlt:=hg.lt;have hle:=hg.le;have har:=hg.ar
    have hw:w64 ((k:Int)+1)=(k:Int)+1:=Zbr (by omega) (by omega)
    have hk1:((k+1:Nat):Int)=(k:Int)+1:=by omega
    have hnext:=Zjo k3
    have hss:step k s=Zer p given f.length (Zex p given) (srch p fuel n) k s:=by rw [hst]
    unfold Zer at hss
    by_cases hb:byS p given.length k (given++[(k:Int)]) = -1
    ·rw [Z3 (by simpa using hb),Zfr (by simp;omega) (by omega),ZT]
     rw [Z3 hb] at hss
     have hw2:w64 (((List.length p.Periods:Nat):Int)-1)=((p.Periods.length-1:Nat):Int):=by rw [Zbr (by omega) (by omega)];omega
     by_cases hla:n=0
     ·rw [hw2,Z3 (by simp;omega)]
      rw [Z3 (by unfold Zex;rw [Z0];omega)] at hss
      rw [hss] at hnext
      exact .inr ⟨_,rfl,.inr (.inr ⟨s,_,m',rfl,Zjn hnext (λs1 h=>by cases h) _ (by omega)⟩)⟩
     rw [hw2,Z2 (by simp;omega)]
     rw [Z2 (by unfold Zex;rw [Z0];omega)] at hss
     obtain ⟨o,ho1,ho2⟩:=hR hla s m' k hle hg.sm (by omega) h2 hx
     rw [show w64 ((given.length:Int)+1)=((given.length+1:Nat):Int) by rw [Zbr (by omega) (by omega)];omega,ho1,ZT]
     cases hq:srch p fuel n s (given++[(k:Int)]) with
     | none =>
      rw [hq] at ho2 hss
      simp only [ZiC] at ho2
      subst ho2
      simp only at hss
      rw [hss] at hnext
      exact .inr ⟨_,rfl,.inr (.inl ⟨rfl,Zjn hnext (λs1 h=>by cases h) _ (by omega)⟩)⟩
     | some q =>
      cases q with
      | inr g =>
       rw [hq] at ho2 hss
       simp only [ZiC] at ho2
       obtain ⟨f2,m2,rfl⟩:=ho2
       simp only at hss
       rw [hss] at hnext
       exact .inr ⟨_,rfl,.inr (.inr ⟨f2,g,m2,rfl,Zjn hnext (λs1 h=>by cases h) _ (by omega)⟩)⟩
      | inl f2 =>
       rw [hq] at ho2 hss
       simp only [ZiC] at ho2
       obtain ⟨m2,rfl,hm2⟩:=ho2
       simp only at hss
       have hrk:=Zd0 h n _ _ _ hle hg.sm (ZfY h hf n s _ f2 (by simp;omega) ⟨λh=>by simp at h,λh=>by omega⟩ hle hg.sm hq)
       have hlen2:=hrk.1.length_le
       have hpop:popI (given++[(k:Int)]) (given.length:Int)=some given:=by
        unfold popI
        rw [Z3 (by simp;omega),Zl,List.take_left']
        rfl
       have hadd:Zeq f2 (f.length:Int) ⟨(k:Int),(k:Int)+1,-1,s.length⟩=some (addA f2 f.length ⟨(k:Int),(k:Int)+1,-1,s.length⟩):=Zgl (by omega) (by rw [Zc7 _ hrk.1 hlt];omega) _
       simp only [Zg,Z1]
       rw [hpop,ZT,ZT]
       simp only
       rw [hb,hw,hadd,ZT]
       rw [hss] at hnext
       exact .inl ⟨_,rfl,⟨k+1,_,m2,by rw [hk1],by omega,hm2,hnext⟩,by simp only;omega⟩
    rw [Z2 (by simpa using hb),ZT]
    rw [Z2 hb] at hss
    simp only
    have hadd:∀ z,Zeq s (f.length:Int) z=some (addA s f.length z):=λz=>Zgl hlt (by omega) _
    rw [hw,hadd,ZT]
    rw [hss] at hnext
    exact .inl ⟨_,rfl,⟨k+1,_,m',by rw [hk1],by omega,h2,hnext⟩,by simp only;omega⟩
   obtain rfl:k=most:=by omega
   rw [Z2 (by simp)]
   exact .inr ⟨_,rfl,.inl ⟨s,m,rfl,k2,k3⟩⟩) N (0,(s0,(given,m))) ⟨0,s0,m,rfl,by omega,hm,rfl⟩ (by simp only;omega)
 rw [hr,ZT]
 rcases e with ⟨s,m',rfl,e2,e3⟩|⟨rfl,e3⟩|⟨f',g,m',rfl,e3⟩
 ·simp only
  rw [e3]
  simp only [ZiC]
  have hg:=hG most s (Nat.le_refl _) e3
  have hlt:=hg.lt;have har:=hg.ar
  unfold endS
  rw [← hper]
  by_cases c:(most:Int)<per
  ·rw [Z3 (by simpa using c)]
   have hz:given.length=0:=Classical.byContradiction λhz=>by have:=m4 hz;omega
   have hmo1:=m3 hz
   rw [Z3 ⟨hz,by omega⟩,Zgl hlt (by omega),ZT,hmo1]
   exact ⟨_,rfl,m',rfl,e2⟩
  rw [Z2 (by simpa using c),Z2 (λhh=>by have:=m3 hh.1;omega)]
  exact ⟨_,rfl,m',rfl,e2⟩
 ·simp only
  rw [e3]
  exact ⟨_,rfl,rfl⟩
 simp only
 rw [e3]
 exact ⟨_,rfl,f',m',rfl⟩
theorem ZgG {fuel:Int}(hp:ZcJ p=true)(hf:fuel<=1999){M:Nat}(hM:2000<=M):∀ (n:Nat) (f:List Z8) (given:List Int) (m:slvK),given.length+n=p.Periods.length->n≠0->preB p given->f.length<=2000->Zdb f->(given.length=0↔f.length=0)->KOK p m →
  ∃ o,ZdI (M+n) p fuel (f,given,m) given.length=some o/\ZiC p given (srch p fuel n f given) o
 | 0,f,given,m,_,h,_,_,_,_,_=>absurd rfl h
 | n+1,f,given,m,hl,_,hpre,hf2,hs,h0,hm=>by
  show ∃ o,ZcW (M+n) (ZdI (M+n) p fuel) p fuel (f,given,m) given.length=some o/\_
  refine Zis hp hf (by omega) hl hpre hf2 hs h0 hm (λhn s m x h1 h2 h3 h4 h5=>?_)
  have:=ZgG hp hf hM n s (given++[x]) m (by simp;omega) hn (hpre.snoc h5) h1 h2 ⟨λh=>by simp at h,λh=>absurd h h3⟩ h4
  rw [ZD,ZI] at this
  exact this
def ZiM (p:Z6)(fuel:Int):List Int×List Z8×Int :=
 if ZcJ p=true then
  if fuel<0∨fuel>1999 then ([],[],2) else
  if p.Periods.length=0 then ([],[],0) else
  match srch p fuel p.Periods.length [] [] with
  | none=>([],[],8)
  | some (.inl f)=>([],f,4)
  | some (.inr g)=>(g,[],0)
 else ([],[],340)
theorem Ziq (hN:3000<=N)(p:Z6)(fuel:Int):Zb5 N p fuel=some (ZiM p fuel):=by
 unfold Zb5 ZiM
 rw [Zdw (by omega),ZT]
 by_cases hp:ZcJ p=true
 ·rw [Z3 hp,Z3 hp,Z2 (by simp)]
  by_cases c:fuel<0∨fuel>1999
  ·rw [Z3 (by simpa using c),Z3 c]
  rw [Z2 (by simpa using c),Z2 c]
  by_cases z:p.Periods.length=0
  ·rw [Z3 (by simpa using z),Z3 z]
  rw [Z2 (by simpa using z),Z2 z]
  have hP:=(VP.of hp).len
  obtain ⟨M,hM⟩:∃ M,N=M+p.Periods.length:=⟨N-p.Periods.length,by omega⟩
  obtain ⟨o,h1,h2⟩:=ZgG hp (show fuel<=1999 by omega) (show 2000<=M by omega) p.Periods.length [] [] [] (by simp) z (λk hk=>by simp at hk) (by simp) (λy hy=>by simp at hy) (by simp) KOK.nil
  rw [← hM] at h1
  have h1':ZdI N p fuel ([],[],[]) 0=some o:=h1
  rw [h1',ZT]
  cases hq:srch p fuel p.Periods.length [] [] with
  | none=>rw [hq] at h2;simp only [ZiC] at h2;subst h2;rfl
  | some q =>
   cases q with
   | inl f=>rw [hq] at h2;simp only [ZiC] at h2;obtain ⟨m,rfl,_⟩:=h2;rfl
   | inr g=>rw [hq] at h2;simp only [ZiC] at h2;obtain ⟨f,m,rfl⟩:=h2;rfl
 rw [Z2 hp,Z2 hp,Z3 (by simp)]
end
end Go.Sh

namespace Go.Sh
open Go Go.Eng
theorem Zl8 {given l:List Int}{k:Int}(h:given <+: l)(hl:given.length<l.length)(hk:l.getD given.length 0=k):given++[k] <+: l:=by
 obtain ⟨t,rfl⟩:=h
 cases t with
 | nil=>simp at hl
 | cons a t =>
  have:a=k:=by rw [← hk];simp [Zq]
  subst this
  exact ⟨t,by simp⟩
theorem ZlY {given l:List Int}{k:Int}(h:given++[k] <+: l):given <+: l/\given.length<l.length/\l.getD given.length 0=k:=by
 have h1:=h.length_le
 rw [ZD,ZI] at h1
 refine ⟨(List.prefix_append _ _).trans h,by omega,?_⟩
 rw [Zc7 0 h (by simp),ZcV]
def Zrc (o l:List Int):Prop:=o=l∨∃ k,k<o.length/\o.getD k 0<l.getD k 0/\∀ m,m<k->o.getD m 0=l.getD m 0
section
variable {p:Z6}
structure Ext (p:Z6) (given l:List Int):Prop where
 pre:given <+: l
 len:l.length=p.Periods.length
 off:preB p l
 cl:∀ i,i<l.length->∀ j,j<=i->ZbI p i (l.getD i 0) j (l.getD j 0)=false
 z:given.length=0->l.getD 0 0=0
structure Zji (p:Z6) (given o:List Int):Prop where
 pre:given <+: o
 len:o.length=p.Periods.length
 off:preB p o
 cl:∀ i,given.length<=i->i<o.length->∀ j,j<=i->ZbI p i (o.getD i 0) j (o.getD j 0)=false
 z:given.length=0->o.getD 0 0=0
 least:∀ l,Ext p given l->Zrc o l
def Zoz (p:Z6)(given:List Int)(q:SR):Prop:=match q with
 | none=>True
 | some (.inl _)=>∀ l,Ext p given l->False
 | some (.inr o)=>Zji p given o
theorem Ext.snoc {given l:List Int}(h:Ext p given l)(hl:given.length<p.Periods.length):Ext p (given++[l.getD given.length 0]) l :=
 {pre:=Zl8 h.pre (by rw [h.len];exact hl) rfl,len:=h.len,off:=h.off,cl:=h.cl,z:=λe=>by simp at e }
theorem Ext.by {given l:List Int}(h:Ext p given l)(hl:given.length<p.Periods.length):byS p given.length (l.getD given.length 0) (given++[l.getD given.length 0]) = -1:=by
 rcases Zge (p:=p) given.length (l.getD given.length 0) (given++[l.getD given.length 0]) with ⟨e,_⟩|⟨j,e,h1,h2⟩
 ·exact e
 have hx:=(h.snoc hl).pre
 rw [← Zc7 0 hx (by simp;omega),h.cl given.length (by rw [h.len];exact hl) j h1] at h2
 cases h2
theorem ZiR {given:List Int}{c:Nat}{R:List Z8->List Int->SR}{k:Nat}{s s':List Z8}(hl:given.length<p.Periods.length)
  (hR:Zex p given=false->Zoz p (given++[(k:Int)]) (R s (given++[(k:Int)])))
  (h:Zer p given c (Zex p given) R k s=some (.inl s')) {l:List Int} (hx:Ext p given l) (hk:l.getD given.length 0=(k:Int)):False:=by
 have hb:=hx.by hl
 have hx2:=hx.snoc hl
 rw [hk] at hb hx2
 unfold Zer at h
 rw [Z3 hb] at h
 cases hla:Zex p given with
 | true=>rw [hla,Z3 rfl] at h;cases h
 | false =>
  have hR:=hR hla
  rw [hla,Z2 (by simp)] at h
  cases hr:R s (given++[(k:Int)]) with
  | none=>rw [hr] at h;cases h
  | some q =>
   cases q with
   | inr o=>rw [hr] at h;cases h
   | inl r =>
    rw [hr] at hR
    exact hR l hx2
theorem Zln {given:List Int}{c:Nat}{R:List Z8->List Int->SR}{k:Nat}{s:List Z8}{o:List Int}(hl:given.length<p.Periods.length)(hpre:preB p given)(hoff:offB p given.length k=true)(hz:given.length=0->k=0)
  (hR:Zex p given=false->Zoz p (given++[(k:Int)]) (R s (given++[(k:Int)])))
  (h:Zer p given c (Zex p given) R k s=some (.inr o)) (hle:∀ l,Ext p given l->(k:Int)<=l.getD given.length 0):Zji p given o:=by
 unfold Zer at h
 rcases Zge (p:=p) given.length (k:Int) (given++[(k:Int)]) with ⟨e,hcl⟩|⟨j,e,_⟩
 ·rw [Z3 e] at h
  have hlex:∀ o l:List Int,given++[(k:Int)] <+: o->Ext p given l->l.getD given.length 0≠(k:Int)->Zrc o l:=λo l ho hx hne=>by
   obtain ⟨g1,g2,g3⟩:=ZlY ho
   refine .inr ⟨given.length,g2,by rw [g3];have:=hle l hx;omega,λm hm=>?_⟩
   rw [Zc7 0 g1 hm,Zc7 0 hx.pre hm]
  cases hla:Zex p given with
  | true =>
   rw [hla,Z3 rfl] at h
   cases h
   have hlen:given.length+1=p.Periods.length:=by unfold Zex at hla;rwa [Z0] at hla
   exact {
    pre:=List.prefix_append _ _
    len:=by simpa using hlen
    off:=hpre.snoc hoff
    cl:=λi hi hi2 j hj=>by
     rw [ZD,ZI] at hi2
     obtain rfl:i=given.length:=by omega
     rw [ZcV]
     exact hcl j hj
    z:=λe=>by
     have:=hz e
     have e2:=ZcV (given:=given) (x:=(k:Int))
     rw [e] at e2
     rw [e2,this]
     rfl
    least:=λl hx=>by
     by_cases hk:l.getD given.length 0=(k:Int)
     ·left
      have:=Zl8 hx.pre (by rw [hx.len];exact hl) hk
      exact this.eq_of_length (by rw [hx.len];simpa using hlen)
     exact hlex _ l (List.prefix_refl _) hx hk }
  | false =>
   have hR:=hR hla
   rw [hla,Z2 (by simp)] at h
   cases hr:R s (given++[(k:Int)]) with
   | none=>rw [hr] at h;cases h
   | some q =>
    cases q with
    | inl r=>rw [hr] at h;cases h
    | inr o' =>
     rw [hr] at h hR
     simp only [ZW,Sum.inr.injEq] at h
     subst h
     have hF:Zji p (given++[(k:Int)]) o':=hR
     obtain ⟨g1,g2,g3⟩:=ZlY hF.pre
     exact {
      pre:=g1
      len:=hF.len
      off:=hF.off
      cl:=λi hi hi2 j hj=>by
       by_cases ei:i=given.length
       ·subst ei
        rw [g3,Zc7 0 hF.pre (by simp;omega)]
        exact hcl j hj
       exact hF.cl i (by simp;omega) hi2 j hj
      z:=λe=>by
       have:=hz e
       rw [e] at g3
       rw [g3,this]
       rfl
      least:=λl hx=>by
       by_cases hk:l.getD given.length 0=(k:Int)
       ·have:=hx.snoc hl
        rw [hk] at this
        exact hF.least l this
       exact hlex _ l hF.pre hx hk }
 rw [Z2 (by omega)] at h
 cases h
theorem Zkg {fuel:Int}(hp:VP p):∀ (n:Nat) (f:List Z8) (given:List Int),given.length+n=p.Periods.length->preB p given->Zoz p given (srch p fuel n f given)
 | 0,f,given,_,_=>trivial
 | n+1,f,given,hl,hpre=>by
  simp only [srch]
  by_cases hc:fuel<(f.length:Int)
  ·rw [Z3 hc];trivial
  rw [Z2 hc]
  have hin:given.length<p.Periods.length:=by omega
  have hpe:=hp.per _ (List.getElem_mem hin)
  have hpg:p.Periods.getD given.length 0=p.Periods[given.length]:=ZaX hin 0
  have hmost:ZdO p given.length<=(p.Periods.getD given.length 0).toNat/\(given.length=0->ZdO p given.length=1)/\(given.length≠0->ZdO p given.length=(p.Periods.getD given.length 0).toNat):=by
   unfold ZdO
   split<;>omega
  obtain ⟨m1,m2,m3⟩:=hmost
  have hoff:∀ k:Nat,k<ZdO p given.length->offB p given.length k=true:=λk hk=>Zbe.2 ⟨by omega,by omega,by omega,by rw [Zl];omega⟩
  have hR:∀ (k:Nat) (s:List Z8),k<ZdO p given.length->Zoz p (given++[(k:Int)]) (srch p fuel n s (given++[(k:Int)])):=λk s hk=>Zkg hp n s _ (by simp;omega) (hpre.snoc (hoff k hk))
  have hat:∀ l,Ext p given l->∃ k:Nat,k<ZdO p given.length/\l.getD given.length 0=(k:Int):=λl hx=>by
   have ho:=hx.off given.length (by rw [hx.len];exact hin)
   obtain ⟨_,_,o1,o2⟩:=Zbe.1 ho
   rw [Zl] at o2
   by_cases e:given.length=0
   ·have:=hx.z e
    exact ⟨0,by have:=m2 e;omega,by rw [e,this];rfl⟩
   exact ⟨(l.getD given.length 0).toNat,by have:=m3 e;omega,by omega⟩
  cases hu:upS (Zer p given f.length (Zex p given) (srch p fuel n)) (ZdO p given.length) (f++[⟨given.length,[]⟩]) with
  | none=>trivial
  | some q =>
   cases q with
   | inl s =>
    intro l hx
    obtain ⟨k,h1,h2⟩:=hat l hx
    obtain ⟨s1,s2,h3,h4⟩:=Zle hu k h1
    exact ZiR hin (λ_=>hR k s1 h1) h4 hx h2
   | inr o =>
    obtain ⟨k,s1,h1,h2,h3⟩:=Zkb hu
    refine Zln hin hpre (hoff k h1) (λe=>by have:=m2 e;omega) (λ_=>hR k s1 h1) h3 (λl hx=>?_)
    obtain ⟨k',h4,h5⟩:=hat l hx
    rw [h5]
    refine Classical.byContradiction λhlt=>?_
    obtain ⟨s3,s4,h6,h7⟩:=Zle h2 k' (by omega)
    exact ZiR hin (λ_=>hR k' s3 h4) h7 hx h5
theorem Ext.of {l:List Int}(ho:ZeY p l=true)(hs:ZdG p l=true)(hz:l.getD 0 0=0):Ext p [] l:=by
 obtain ⟨h1,h2⟩:=ZjL ho
 refine { pre:=List.nil_prefix,len:=h1,off:=h2,cl:=λi hi j hj=>?_,z:=λ_=>hz }
 unfold ZdG at hs
 have:=Zbl.1 (Zbl.1 hs i hi) j (by omega)
 simpa using this
theorem Zji.fits {o:List Int}(h:Zji p [] o):ZeY p o=true/\ZdG p o=true:=by
 constructor
 ·unfold ZeY
  rw [Ze,Z0,Zbl]
  exact ⟨h.len,h.off⟩
 unfold ZdG
 rw [Zbl]
 intro i hi
 rw [Zbl]
 intro j hj
 rw [h.cl i (by simp) hi j (by omega)]
 rfl
end
end Go.Sh

namespace Go.Sh
open Go Go.Eng
set_option maxRecDepth 100000 in
theorem Zmu (n:Nat):ZdP (n+300)=some true:=by kernel_rfl
theorem Zpk {N:Nat}(hN:2000<=N):ZdP N=some true:=by
 obtain ⟨n,rfl⟩:∃ n,N=n+300:=⟨N-300,by omega⟩
 exact Zmu n
section
variable {N:Nat} {p:Z6}
theorem Zli (hp:ZcJ p=true){fuel:Int}(h0:0<=fuel)(h1:fuel<=1999) :
  ZiM p fuel=([],[],8)∨(∃ f,ZiM p fuel=([],f,4)/\p.Periods.length≠0/\ZkJ p=some f/\(f.length:Int)<=fuel+1/\Zdb f/\∀ l,Ext p [] l->False)∨(∃ o,ZiM p fuel=(o,[],0)/\Zji p [] o):=by
 have h:=VP.of hp
 unfold ZiM
 rw [Z3 hp,Z2 (by omega)]
 by_cases z:p.Periods.length=0
 ·rw [Z3 z]
  refine .inr (.inr ⟨[],rfl,?_⟩)
  exact { pre:=List.prefix_refl _,len:=by simp [z],off:=λk hk=>by simp at hk,cl:=λi _ hi=>by simp at hi,z:=λ_=>rfl,least:=λl hx=>.inl (by
   have:=hx.len
   rw [z] at this
   exact (List.eq_nil_of_length_eq_zero this).symm) }
 rw [Z2 z]
 have ht:=Zkg (fuel:=fuel) h p.Periods.length [] [] (by simp) (λk hk=>by simp at hk)
 cases hq:srch p fuel p.Periods.length [] [] with
 | none=>exact .inl rfl
 | some q =>
  rw [hq] at ht
  cases q with
  | inl f =>
   have hm:ZkJ p=some f:=by
    unfold ZkJ
    rw [Z2 z]
    exact ZfY h h1 p.Periods.length [] [] f (by simp) (by simp) (by simp) (λy hy=>by simp at hy) hq
   exact .inr (.inl ⟨f,rfl,z,hm,ZlX p.Periods.length [] [] f (by simp;omega) hq,(Zd0 h p.Periods.length [] [] f (by simp) (λy hy=>by simp at hy) (by unfold ZkJ at hm;rw [Z2 z] at hm;exact hm)).2.2,ht⟩)
  | inr o=>exact .inr (.inr ⟨o,rfl,ht⟩)
end
end Go.Sh

namespace Go.Sh
open Go Go.Eng
section
variable {N:Nat} {p:Z6} {f:List Z8}
def Zw1 (l:List Zam)(x:Int):Zam:=(l.find? λa=>decide (x<a.To)).getD a00
def shL (p:Z6)(l:List Int)(c:Nat)(fc:Z8):List Int:=if (Zw1 fc.Arms (l.getD fc.Stream.toNat 0)).By = -2 then Ze1 p l (-(l.getD fc.Stream.toNat 0)) l.length else l
end
end Go.Sh

namespace Go.Sh
open Go Go.Eng
theorem Zre {l:List Int}(h:0<l.length):idx l 0=some (l.getD 0 0):=Zfk 0 (by omega) (by omega)
section
variable {N:Nat} {p:Z6}
theorem Zn5 (h:VP p){l:List Int}(ho:ZeY p l=true)(hs:ZdG p l=true):Ext p [] (Ze1 p l (-(l.getD 0 0)) l.length):=by
 refine Ext.of (ZnI h ho _) ?_ ?_
 ·rw [ZfZ h,Zk0 h,← ZfZ h];exact hs
 by_cases z:0<l.length
 ·rw [Zfj z,show l.getD 0 0 + -(l.getD 0 0)=0 by omega];simp
 rw [show l.length=0 by omega];rfl
theorem Zmh (hp:ZcJ p=true){l:List Int}(ho:ZeY p l=true):ZoY p l=(ZdG p l,0):=by
 unfold ZoY
 rw [Z3 hp,Z3 ho]
end
theorem solveTells_true (d:Zbu)(some_:List Int)(fuel:Int)(hd:Zd8 d)(hs:some_.length<=maxLen/\∀ x∈some_,InK .u8 x)(hf:InK .u8 fuel):∃ N,Zcy N d some_ fuel=some true:=by
 obtain ⟨N,hB⟩:=big
 refine ⟨N,?_⟩
 have hN:=hB.1
 have hN2:2000<=N:=by omega
 obtain ⟨p,hp,gp⟩:=ZeM hN2 hd
 have h:=VP.of gp.prob
 obtain ⟨l,hl,ol⟩:=ZjE hN2 h hs.2
 have hf:=hf.u8
 unfold Zcy
 rw [Zpk hN2,ZT]
 simp only [Bool.not_true,Zg,Z1]
 rw [hp,ZT,Ziq (by omega),ZT,hl,ZT,ZgO hN2,ZT,Zmh gp.prob ol,Zbr (x:=fuel) (by omega) (by omega),Zbr (by omega) (by omega)]
 rcases Zli gp.prob hf.1 (show fuel<=1999 by omega) with e|⟨f,e,_,e1,e2,e3,e4⟩|⟨o,e,e1⟩
 ·rw [e];rfl
 ·rw [e]
  have hns:ZdG p l=false:=Bool.eq_false_iff.2 λhs=>e4 _ (Zn5 h ol hs)
  obtain ⟨m1,m2⟩:=ZpB gp.prob e1
  rw [hns]
  simp only [ZZ,Zg,Z1]
  rw [Z2 (by simp),Z3 (by simp)]
  simp only [Bool.not_false,Z4,ZG]
  rw [Z3 (by simp),Zrl hB p ⟨by omega,e3⟩,m2,ZT,Z3 (by simp),ZT,decide_eq_true (by omega)]
 rw [e]
 obtain ⟨m1,m2⟩:=e1.fits
 simp only [ZZ,Zg,Z1]
 rw [Z3 (by simp),ZgO hN2,ZT,Zmh gp.prob m1,m2]
 simp only [beq_self_eq_true,Z4,ZG]
 rw [Z3 (by simp)]
 by_cases z:o.length=0
 ·rw [Z3 (by rw [z];rfl)];rfl
 have hz:=e1.z rfl
 rw [Z2 (by simp;intro e;subst e;simp at z),Zre (by omega),hz]
 rfl
end Go.Sh

