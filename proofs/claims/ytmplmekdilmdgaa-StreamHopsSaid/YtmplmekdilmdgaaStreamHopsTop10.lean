/- Part of the proof; written by a program out of the texts in wip/. -/
import Derived.Test.YtmplmekdilmdgaaStreamHopsTop7
import Derived.Test.YtmplmekdilmdgaaStreamHopsStr1
import Derived.Test.YtmplmekdilmdgaaStreamHopsRd
import Derived.KernelRfl
set_option linter.unusedVariables false
set_option linter.unusedSimpArgs false
namespace Go.Sh
open Go Go.Eng
section
variable {N:Nat} {t:Zi}
theorem Zkf (g:Good t) (x:Int) (hN:200≤N):ZdR N t x=some (PF (fun p=>frm t p==x) (2 * t.Links.length)):=by
 have h24:=g.l24
 unfold ZdR
 have:=ZcF (n:=2 * t.Links.length) (f:=fun b k=>PF (fun p=>frm t p==x) (k+1)) (body:=fun y:Int × (List Int)=>Zbp N t x y.1 y.2) (fin:=fun b=>b) (fun k b=>b=PF (fun p=>frm t p==x) k)
  (fun k b hk hb=>by
   show Zbp N t x k b=_
   unfold Zbp
   subst hb
   have:=Zpp (fun p=>frm t p==x) k
   have hp:Zch t (k:Int)=true:=by simp only [Zch,Bool.and_eq_true,decide_eq_true_eq];omega
   rw [if_pos (by rw [ZV (by omega) (by omega)];simp;omega),Zc3 (by omega) hp,Option.bind_some,ZoF,ZW (by omega)]
   cases (frm t (k:Int)==x) with
   | false=>rfl
   | true=>simp only [if_true];rw [ZdM (by rw [List.length_singleton];omega) (by omega)];rfl)
  (fun k b hk hb=>rfl)
  (fun b hb=>by show Zbp N t x ((2 * t.Links.length:Nat):Int) b=_;unfold Zbp;rw [if_neg (by rw [ZV (by omega) (by omega)];simp)]) (N:=N) (by omega) (b0:=[]) rfl
 rw [this.1,Option.bind_some,this.2]
theorem Zn6 (g:Good t) {seen Q:List Int} (hs:seen.length≤100) (hQ:Q.length≤100) (hp:∀ p ∈ Q,Zch t p=true) (hN:200≤N) :
  Zac (fun x:Int × (List Int)=>Za6 N t seen Q x.1 x.2) N (0,[])=some (Q.filter fun p => !seen.contains (too t p)):=by
 have hL:t.Links.length≤1000:=by have:=g.l24;omega
 have:=ZcF (n:=Q.length) (f:=fun b k=>(Q.take (k+1)).filter fun p => !seen.contains (too t p)) (body:=fun x:Int × (List Int)=>Za6 N t seen Q x.1 x.2) (fin:=fun b=>b) (fun k b=>b=(Q.take k).filter fun p => !seen.contains (too t p))
  (fun k b hk hb=>by
   show Za6 N t seen Q k b=_
   unfold Za6
   subst hb
   have hlen:((Q.take k).filter fun p => !seen.contains (too t p)).length≤100:=Nat.le_trans (List.length_filter_le _ _) (by simp;omega)
   have htk:Q.take (k+1)=Q.take k++[Q[k]]:=by rw [List.take_append_getElem]
   rw [if_pos (by simp;omega),ZcH hk,Option.bind_some,Zdk hL (hp _ (List.getElem_mem hk)),Option.bind_some,ZfE (by omega) (by omega),Option.bind_some,htk,List.filter_append,ZW (by omega)]
   cases hc:seen.contains (too t Q[k]) with
   | true =>
    have:[Q[k]].filter (fun p => !seen.contains (too t p))=[]:=by rw [List.filter_cons_of_neg (by rw [hc];simp)];rfl
    rw [this,List.append_nil]
    rfl
   | false =>
    have:[Q[k]].filter (fun p => !seen.contains (too t p))=[Q[k]]:=by rw [List.filter_cons_of_pos (by rw [hc];rfl)];rfl
    rw [this]
    simp only [Bool.not_false,if_true,Option.bind_some]
    rw [ZdM (by rw [List.length_singleton];omega) (by omega)]
    rfl)
  (fun k b hk hb=>rfl)
  (fun b hb=>by show Za6 N t seen Q Q.length b=_;unfold Za6;rw [if_neg (by simp)]) (N:=N) (by omega) (b0:=[]) (by simp)
 rw [this.1,this.2,List.take_length]
theorem Zh7 {r:List Int} {p:Int} {k:Nat}:at0 (r++[p]) k=if k<r.length then at0 r k else if k=r.length then p else 0:=by
 unfold at0
 simp only [List.getD_eq_getElem?_getD]
 by_cases h:k<r.length
 ·rw [if_pos h,List.getElem?_append_left h]
 ·rw [if_neg h,List.getElem?_append_right (by omega)]
  by_cases e:k=r.length
  ·subst e;simp
  ·rw [if_neg e]
   cases hh:k - r.length with
   | zero=>omega
   | succ m=>simp
theorem Zny {r:List Int} {p m:Int} (hm:r ≠ []→frm t (at0 r 0)=m) (h0:r=[]→frm t p=m):Zag t (r++[p])=(m::r.map (too t))++[too t p]:=by
 unfold Zag
 rw [Zh7,List.map_append]
 by_cases h:r=[]
 ·subst h
  simp [h0 rfl]
 ·have:0<r.length:=List.length_pos_iff.2 h
  rw [if_pos this,hm h]
  rfl
theorem Zoh {r:List Int} {p m:Int} (hm:r ≠ []→frm t (at0 r 0)=m) (h0:r=[]→frm t p=m) (hok:∀ k,k<r.length→okAt t r k=true) (hp:Zch t p=true)
  (hf:frm t p=(m::r.map (too t)).getD r.length 0) (hst:r ≠ []→stB t (frm t p)=false) (hnew:(m::r.map (too t)).contains (too t p)=false):∀ k,k<(r++[p]).length→okAt t (r++[p]) k=true:=by
 have hN:=Zny (t:=t) hm h0
 have hlen:(m::r.map (too t)).length=r.length+1:=by simp
 have hnd:∀ k,k≤r.length→nd t (r++[p]) k=(m::r.map (too t)).getD k 0:=fun k hk=>by
  unfold nd
  rw [hN,List.getD_eq_getElem?_getD,List.getElem?_append_left (by omega),List.getD_eq_getElem?_getD]
 have hlast:nd t (r++[p]) (r.length+1)=too t p:=by
  unfold nd
  rw [hN,List.getD_eq_getElem?_getD,List.getElem?_append_right (by omega)]
  simp
 have hold:r ≠ []→Zag t r=m::r.map (too t):=fun h=>by unfold Zag;rw [hm h]
 intro k hk
 simp only [List.length_append,List.length_singleton] at hk
 unfold okAt
 rw [Zh7]
 by_cases hlt:k<r.length
 ·have hne:r ≠ []:=by intro e;subst e;simp at hlt
  rw [if_pos hlt]
  have:=hok k hlt
  unfold okAt at this
  have e1:nd t (r++[p]) k=nd t r k:=by rw [hnd k (by omega)];unfold nd;rw [hold hne]
  have e2:nd t (r++[p]) (k+1)=nd t r (k+1):=by rw [hnd (k+1) (by omega)];unfold nd;rw [hold hne]
  have e3:(Zag t (r++[p])).take (k+1)=(Zag t r).take (k+1):=by rw [hN,hold hne,List.take_append_of_le_length (by omega)]
  rw [e1,e2,e3]
  exact this
 ·obtain rfl:k=r.length:=by omega
  rw [if_neg hlt,if_pos rfl,hlast,hnd _ (Nat.le_refl _),← hf,hp,hN,List.take_append_of_le_length (by omega),List.take_of_length_le (by omega),hnew]
  by_cases h:r=[]
  ·subst h;rfl
  ·rw [hst h];simp
theorem Znt (g:Good t) (hdeg:∀ x:Int,0≤x→x<t.Nodes→∃ k,k<t.Links.length∧((lk t k).A=x∨(lk t k).B=x)) {n k:Int} (hn:Byte n) (hk:Byte k) (hN:200≤N):∃ r,Zfr N t n k=some r∧ZaM t r=true:=by
 have hL:t.Links.length≤1000:=by have:=g.l24;omega
 have h24:=g.l24
 have hn2:=g.n2
 obtain ⟨n0,n1⟩:=hn
 obtain ⟨k0,k1⟩:=hk
 unfold Zfr
 rw [ZV (by omega) (by omega)]
 obtain ⟨m,m1,m2,m3⟩:=ZdB (v:=n) (b:=t.Nodes) n0 (by omega)
 rw [m1,Option.bind_some]
 have key:∃ o,Zac (fun x:Int × (List Int) × (List Int)=>Zb4 N t k x.1 x.2.1 x.2.2) N (m,[m],[])=some o∧∃ r,(o = .inl r∨o = .inr r)∧ZaM t r=true:=by
  refine Ze5 (I:=fun x:Int × List Int × List Int=>x.2.2.length≤8∧x.2.1=m::x.2.2.map (too t)∧x.1=x.2.1.getD x.2.2.length 0∧(x.2.2 ≠ []→frm t (at0 x.2.2 0)=m)∧(∀ j,j<x.2.2.length→okAt t x.2.2 j=true)∧Zdr t x.1=true)
   (μ:=fun x=>8 - x.2.2.length) (Post:=fun o:List Int ⊕ List Int=>∃ r,(o = .inl r∨o = .inr r)∧ZaM t r=true) ?_ N (m,[m],[]) ⟨by simp,by simp,by simp,fun h=>absurd rfl h,fun j hj=>by simp at hj,ZeP.2 ⟨m2,m3⟩⟩ (by simp;omega)
  rintro ⟨a,seen,out⟩ ⟨i1,i2,i3,i4,i5,i6⟩
  simp only at i1 i2 i3 i4 i5 i6
  have hval:out ≠ []→ZaM t out=true:=fun h=>by
   have:0<out.length:=List.length_pos_iff.2 h
   simp only [ZaM,Bool.and_eq_true,decide_eq_true_eq,Za8]
   exact ⟨this,i1,i5⟩
  have hcond:(if decide (((List.length out:Nat):Int)<8)=true then if (((List.length out:Nat):Int)==0)=true then some true else (idx t.Station a).bind fun e517=>some (!e517) else some false)=some (decide (out.length<8)&&(decide (out.length=0) || !stB t a)):=by
   rw [Zek g.st i6]
   by_cases h8:out.length<8
   ·rw [if_pos (by simp;omega),decide_eq_true h8]
    by_cases h0:out.length=0
    ·rw [if_pos (by simp [h0]),decide_eq_true h0];rfl
    ·rw [if_neg (by simp;intro e;rw [e] at h0;exact h0 rfl),decide_eq_false h0];rfl
   ·rw [if_neg (by simp;omega),decide_eq_false h8];rfl
  have hseen:seen.length=out.length+1:=by rw [i2];simp
  have hbody:Zb4 N t k a seen out=(some (decide (out.length<8)&&(decide (out.length=0) || !stB t a))).bind fun j=>if j=true then (ZdR N t a).bind fun r521=>(Zac (fun x:Int × (List Int)=>Za6 N t seen r521 x.1 x.2) N (0,[])).bind fun o1547 =>
    if (((List.length o1547:Nat):Int)==0)=true then some (.inr (.inr out)) else (remI (w64 (w64 k+w64 (3 * ((List.length out:Nat):Int)))) ((List.length o1547:Nat):Int)).bind fun m1552=>(idx o1547 m1552).bind fun e1553=>(appI 8 out [e1553]).bind fun l1558=>(ZcK N t e1553).bind fun r1559=>(appI 8 seen [r1559]).bind fun l1562=>some (.inl (r1559,l1562,l1558))
    else some (.inr (.inl out)):=by
   unfold Zb4
   rw [hcond]
  show (∃ y,Zb4 N t k a seen out=some (.inl y)∧_∧_)∨_
  rw [hbody,Option.bind_some]
  cases hj:(decide (out.length<8)&&(decide (out.length=0) || !stB t a)) with
  | false =>
   right
   refine ⟨_,rfl,out,.inl rfl,hval fun e => ?_⟩
   subst e
   simp at hj
  | true =>
   simp only [Bool.and_eq_true,decide_eq_true_eq,Bool.or_eq_true,Bool.not_eq_true'] at hj
   have hpq:∀ p,p ∈ PF (fun p=>frm t p==a) (2 * t.Links.length)↔Zch t p=true∧frm t p=a:=fun p=>by
    rw [PF_mem,beq_iff_eq]
    simp only [Zch,Bool.and_eq_true,decide_eq_true_eq]
    constructor
    ·rintro ⟨h1,h2,h3⟩;exact ⟨⟨h1,by omega⟩,h3⟩
    ·rintro ⟨⟨h1,h2⟩,h3⟩;exact ⟨h1,by omega,h3⟩
   have hql:=Zpp (fun p=>frm t p==a) (2 * t.Links.length)
   rw [if_pos rfl,Zkf g a hN,Option.bind_some,Zn6 g (by omega) (by omega) (fun p hp=>((hpq p).1 hp).1) hN,Option.bind_some]
   have hmem:∀ p,p ∈ (PF (fun p=>frm t p==a) (2 * t.Links.length)).filter (fun p => !seen.contains (too t p))↔Zch t p=true∧frm t p=a∧seen.contains (too t p)=false:=fun p=>by
    rw [List.mem_filter,hpq,Bool.not_eq_true',and_assoc]
   have hll:((PF (fun p=>frm t p==a) (2 * t.Links.length)).filter (fun p => !seen.contains (too t p))).length≤100:=Nat.le_trans (List.length_filter_le _ _) (by omega)
   generalize (PF (fun p=>frm t p==a) (2 * t.Links.length)).filter (fun p => !seen.contains (too t p))=next at hmem hll
   by_cases hz:next.length=0
   ·right
    rw [if_pos (by simp [hz])]
    refine ⟨_,rfl,out,.inr rfl,hval fun e => ?_⟩
    subst e
    have ham:a=m:=by rw [i3,i2];rfl
    obtain ⟨q,hq1,hq2⟩:=hdeg m m2 m3
    have hlink:=Zb5 (g.links q hq1).1
    have hx:∃ p,Zch t p=true∧frm t p=m∧too t p ≠ m:=by
     rcases hq2 with h | h
     ·refine ⟨2 * (q:Int),by simp only [Zch,Bool.and_eq_true,decide_eq_true_eq];omega,?_,?_⟩
      ·unfold frm plk
       rw [show Int.tmod (2 * (q:Int)) 2=0 by rw [Int.tmod_eq_emod_of_nonneg (by omega)];omega,show (Int.tdiv (2 * (q:Int)) 2).toNat=q by rw [Int.tdiv_eq_ediv_of_nonneg (by omega)];omega]
       simpa [lk] using h
      ·unfold too plk
       rw [show Int.tmod (2 * (q:Int)) 2=0 by rw [Int.tmod_eq_emod_of_nonneg (by omega)];omega,show (Int.tdiv (2 * (q:Int)) 2).toNat=q by rw [Int.tdiv_eq_ediv_of_nonneg (by omega)];omega]
       have:(lk t q).B ≠ m:=fun e=>hlink.2.2 (by rw [h,e])
       simpa [lk] using this
     ·refine ⟨2 * (q:Int)+1,by simp only [Zch,Bool.and_eq_true,decide_eq_true_eq];omega,?_,?_⟩
      ·unfold frm plk
       rw [show Int.tmod (2 * (q:Int)+1) 2=1 by rw [Int.tmod_eq_emod_of_nonneg (by omega)];omega,show (Int.tdiv (2 * (q:Int)+1) 2).toNat=q by rw [Int.tdiv_eq_ediv_of_nonneg (by omega)];omega]
       simpa [lk] using h
      ·unfold too plk
       rw [show Int.tmod (2 * (q:Int)+1) 2=1 by rw [Int.tmod_eq_emod_of_nonneg (by omega)];omega,show (Int.tdiv (2 * (q:Int)+1) 2).toNat=q by rw [Int.tdiv_eq_ediv_of_nonneg (by omega)];omega]
       have:(lk t q).A ≠ m:=fun e=>hlink.2.2 (by rw [h,e])
       simpa [lk] using this
    obtain ⟨p,p1,p2,p3⟩:=hx
    have:p ∈ next:=(hmem p).2 ⟨p1,by rw [ham];exact p2,by rw [i2];simp [p3]⟩
    rw [List.eq_nil_of_length_eq_zero hz] at this
    cases this
   ·left
    rw [if_neg (by simp;intro e;rw [e] at hz;exact hz rfl)]
    have hv:0≤w64 (w64 k+w64 (3 * ((List.length out:Nat):Int))):=by
     rw [ZV (x:=k) (by omega) (by omega),ZV (x:=3 * ((List.length out:Nat):Int)) (by omega) (by omega),ZV (by omega) (by omega)];omega
    obtain ⟨q,q1,q2,q3⟩:=ZdB (b:=((List.length next:Nat):Int)) hv (by omega)
    rw [q1,Option.bind_some,Zkv q2 (by omega),Option.bind_some]
    have hin:next[q.toNat]'(by omega) ∈ next:=List.getElem_mem _
    generalize next[q.toNat]'(by omega)=p at hin
    obtain ⟨p1,p2,p3⟩:=(hmem p).1 hin
    rw [ZdM (by simp;omega) (by omega),Option.bind_some,Zdk hL p1,Option.bind_some,ZdM (by simp;omega) (by omega),Option.bind_some]
    have hne:=ZeS g p1
    have hlen1:(out++[p]).length=out.length+1:=by simp
    refine ⟨_,rfl,⟨?_,?_,?_,?_,?_,hne.2.1⟩,?_⟩
    ·simp only;omega
    ·simp only;rw [i2];simp
    ·simp only
     rw [hlen1,List.getD_eq_getElem?_getD,List.getElem?_append_right (by omega)]
     simp [hseen]
    ·simp only
     intro _
     rw [Zh7]
     by_cases h0:0<out.length
     ·rw [if_pos h0];exact i4 (List.length_pos_iff.1 h0)
     ·have:out=[]:=List.eq_nil_of_length_eq_zero (by omega)
      subst this
      rw [if_neg (by simp),if_pos (by simp),p2,i3,i2]
      rfl
    ·simp only
     refine Zoh i4 (fun h => ?_) i5 p1 ?_ (fun h => ?_) ?_
     ·subst h;rw [p2,i3,i2];rfl
     ·rw [p2,i3,i2]
     ·rw [p2]
      rcases hj.2 with h' | h'
      ·exact absurd (List.eq_nil_of_length_eq_zero h') h
      ·exact h'
     ·rw [← i2];exact p3
    ·simp only;omega
 obtain ⟨o,o1,r,o2,o3⟩:=key
 rw [o1,Option.bind_some]
 rcases o2 with rfl | rfl
 ·exact ⟨r,rfl,o3⟩
 ·exact ⟨r,rfl,o3⟩
end
end Go.Sh

set_option linter.unusedVariables false
set_option linter.unusedSimpArgs false
namespace Go.Sh
open Go Go.Eng
theorem Zh2 {ρ:Type} {n:Nat} {body:Int→Option (Int ⊕ ρ)} {fin:ρ} (a:Nat) (hstep:∀ k:Nat,a≤k→k<n→body (k:Int)=some (.inl ((k+1:Nat):Int))) (hend:body (n:Int)=some (.inr fin)) (ha:a≤n) {N:Nat} (hN:n<N):Zac body N (a:Int)=some fin:=by
 have key:∀ (m N k:Nat),n - k=m→a≤k→k≤n→m<N→Zac body N (k:Int)=some fin:=by
  intro m
  induction m with
  | zero =>
   intro N k h1 h0 h2 h3
   obtain rfl:k=n:=by omega
   cases N with
   | zero=>omega
   | succ N=>rw [Zbq hend]
  | succ m ih =>
   intro N k h1 h0 h2 h3
   cases N with
   | zero=>omega
   | succ N=>rw [ZcS (hstep k h0 (by omega)),ih N (k+1) (by omega) (by omega) (by omega) (by omega)]
 exact key (n - a) N a rfl (Nat.le_refl _) ha (by omega)
theorem ZkR (x:Int):Byte (IntKind.u8.wrap x):=by
 unfold Byte IntKind.wrap
 simp only [IntKind.bits,IntKind.signed]
 have h1:=Int.emod_nonneg x (show (2 ^ 8:Int) ≠ 0 by decide)
 have h2:=Int.emod_lt_of_pos x (show (0:Int)<2 ^ 8 by decide)
 simp only [Bool.false_and,Bool.false_eq_true,if_false]
 constructor<;>omega
section
variable {N:Nat} {t:Zi} {s:Zm}
theorem Zm9 {r:List Int} (h1:1≤r.length) (h:r.length≤100):idx r (w64 (((List.length r:Nat):Int) - 1))=some (at0 r (r.length - 1)):=by
 rw [ZV (by omega) (by omega),show ((List.length r:Nat):Int) - 1=((r.length - 1:Nat):Int) by omega,ZcH (by omega),Zg8 (by omega)]
theorem Zli {r:List Int} (h1:1≤r.length):idx r 0=some (at0 r 0):=by
 rw [show (0:Int)=((0:Nat):Int) from rfl,ZcH (by omega),Zg8 (by omega)]
theorem nd_last {r:List Int} (h1:1≤r.length):nd t r r.length=too t (at0 r (r.length - 1)):=by
 have:=Zfh (t:=t) (r:=r) (k:=r.length - 1) (by omega)
 rwa [show r.length - 1+1=r.length by omega] at this
theorem Zj6 (g:Good t) (s:Zm) (r:List Int) (hN:200≤N) :
  ((Zca N t r).bind fun r530=>(if (!r530) then (some true) else ((idx r 0).bind fun e533=>((ZbW N t e533).bind fun r534=>(if (r534 != s.Talker) then (some true) else ((idx r (w64 (((List.length r:Nat):Int) - 1))).bind fun e537=>((ZcK N t e537).bind fun r538=>(some (r538 != s.Listener)))))))))=some (!Zeu t s r):=by
 have hL:t.Links.length≤1000:=by have:=g.l24;omega
 rw [Zgd g r hN,Option.bind_some]
 unfold Zeu
 cases hv:ZaM t r with
 | false=>rfl
 | true =>
  obtain ⟨h1,h8,hp⟩:=Zci hv
  simp only [Bool.not_true,Bool.false_eq_true,if_false]
  rw [Zli h1,Option.bind_some,Zc3 hL (hp 0 (by omega)),Option.bind_some,Zm9 h1 (by omega),Option.bind_some,Zdk hL (hp _ (by omega)),Option.bind_some,nd_zero,nd_last h1]
  by_cases e:frm t (at0 r 0)=s.Talker
  ·have:(frm t (at0 r 0) != s.Talker)=false:=by simp [e]
   rw [this]
   simp only [Bool.false_eq_true,if_false,e,beq_self_eq_true,Bool.true_and]
   rfl
  ·have:(frm t (at0 r 0) != s.Talker)=true:=by simp [e]
   rw [this]
   simp only [if_true,beq_eq_false_iff_ne.2 e,Bool.false_and,Bool.and_false,Bool.not_false]
theorem Zjh (g:Good t) {s:Zm} (hl:s.Routes.length≤2) (hN:200≤N):Zac (fun x:Int=>ZbJ N t s x) N 0=some (if s.Routes.all (Zeu t s) then .inl () else .inr false):=by
 have:=Za0 (n:=s.Routes.length) (p:=fun k=>Zeu t s (s.Routes.getD k [])) (body:=fun x:Int=>ZbJ N t s x) (bad:=.inr false) (fin:=.inl ()) (fun k hk=>by
  unfold ZbJ
  rw [if_pos (by simp;omega),ZcH hk,Option.bind_some,Zdq hk,Zj6 g s _ hN,Option.bind_some,ZW (by omega)]
  cases Zeu t s s.Routes[k]<;>rfl) (by unfold ZbJ;rw [if_neg (by simp)]) (N:=N) (by omega)
 rw [this,ZjW s.Routes [] (Zeu t s)]
theorem Zmz (g:Good t) {s:Zm} (hl:s.Routes.length≤2) (hN:200≤N):Zac (fun x:Int=>Zda N t s x) N 0=some (if s.Routes.all (Zeu t s) then .inl () else .inr false):=Zjh g hl hN
theorem Znw (g:Good t) {s:Zm} (hl:lenB s=true) (hr:s.Routes.all (Zeu t s)=true) (hN:200≤N) :
  (if (((List.length s.Routes:Nat):Int)==1) then (some true) else ((idx s.Routes 0).bind fun e545=>((idx s.Routes 1).bind fun e546=>((Zcy N t e545 e546).bind fun r547=>(some r547)))))=some (ZmD t s):=by
 simp only [lenB,Bool.and_eq_true,decide_eq_true_eq] at hl
 unfold ZmD
 by_cases h2:s.Routes.length<2
 ·rw [if_pos (by simp;omega)];simp [h2]
 ·rw [if_neg (by simp;omega),show (0:Int)=((0:Nat):Int) from rfl,show (1:Int)=((1:Nat):Int) from rfl,ZcH (by omega),ZcH (by omega)]
  simp only [Option.bind_some]
  have e0:=Zf8 hr (k:=0) (by omega)
  have e1:=Zf8 hr (k:=1) (by omega)
  rw [Zdq (by omega)] at e0 e1
  rw [ZgT g e0.1 e1.1 hN,Option.bind_some,Zdq (by omega),Zdq (by omega)]
  simp [h2]
theorem ZgS (g:Good t) (s:Zm) (hN:200≤N):ZdQ N t s=some (Za5 t s):=by
 have head:((Zb0 N s.Id 1 4095).bind fun r1=>(if (!r1) then (some true) else ((ZbZ N t s.Talker).bind fun r4=>(if (!r4) then (some true) else ((ZbZ N t s.Listener).bind fun r7=>(if (!r7) then (some true) else (if (s.Talker==s.Listener) then (some true) else ((Zb0 N s.Size 84 1542).bind fun r12=>(if (!r12) then (some true) else ((Zb0 N s.Deadline 1 1099511627776).bind fun r15=>(some (!r15))))))))))))=some (!ZnN t s):=by
  simp only [ZfA,ZiD g,Option.bind_some]
  unfold ZnN
  cases inB s.Id 1 4095<;>cases ZjY t s.Talker<;>cases ZjY t s.Listener<;>cases h4:(s.Talker==s.Listener)<;>cases inB s.Size 84 1542<;>cases inB s.Deadline 1 1099511627776<;>simp [bne,h4]
 have rest:∀ L:Option (Unit ⊕ Bool),(s.Routes.length≤2→L=some (if s.Routes.all (Zeu t s) then .inl () else .inr false))→(if ((decide (((List.length s.Routes:Nat):Int)<1))||(decide (((List.length s.Routes:Nat):Int) > 2))) then (some false) else (L.bind fun o541=>match o541 with
   | (.inl p542)=>(((if (((List.length s.Routes:Nat):Int)==1) then (some true) else ((idx s.Routes 0).bind fun e545=>((idx s.Routes 1).bind fun e546=>((Zcy N t e545 e546).bind fun r547=>(some r547)))))).bind fun (j548:Bool)=>(some j548))
   | (.inr p549)=>(some p549)))=some (lenB s&&(s.Routes.all (Zeu t s)&&ZmD t s)):=by
  intro L hL
  cases hl:lenB s with
  | false =>
   rw [if_pos]
   ·rfl
   ·rw [Bool.eq_false_iff] at hl
    simp only [lenB,ne_eq,Bool.and_eq_true,decide_eq_true_eq] at hl
    simp only [Bool.or_eq_true,decide_eq_true_eq]
    omega
  | true =>
   have hl':=hl
   simp only [lenB,Bool.and_eq_true,decide_eq_true_eq] at hl'
   rw [if_neg (by simp only [Bool.or_eq_true,decide_eq_true_eq];omega),hL hl'.2]
   cases hr:s.Routes.all (Zeu t s) with
   | false=>rfl
   | true =>
    simp only [if_true,Option.bind_some]
    rw [Znw g hl hr hN]
    rfl
 unfold ZdQ
 rw [head,Option.bind_some]
 unfold Za5
 cases hh:ZnN t s with
 | false=>rfl
 | true =>
  simp only [Bool.not_true,Bool.false_eq_true,if_false,Bool.true_and]
  unfold Zmf
  simp only [ZfA,Option.bind_some]
  by_cases c7:(s.Class==7)=true
  ·rw [if_pos c7,if_pos c7]
   have r1:=rest _ (fun h=>Zjh g h hN)
   cases inB s.Period 1 240 with
   | false=>rfl
   | true=>cases (s.Bucket.Burst==0) with
    | false=>rfl
    | true=>cases (s.Bucket.Rate==0) with
     | false=>rfl
     | true=>exact r1
  ·rw [if_neg c7,if_neg c7]
   by_cases c6:(s.Class==6)=true
   ·rw [if_pos c6,if_pos c6]
    have r2:=rest _ (fun h=>Zmz g h hN)
    unfold bne
    cases (s.Period==0) with
    | false=>rfl
    | true=>cases inB s.Bucket.Burst s.Size 1048576 with
     | false=>rfl
     | true=>cases inB s.Bucket.Rate 1 2097152 with
      | false=>rfl
      | true=>exact r2
   ·rw [if_neg c6,if_neg c6];rfl
structure SDOK (d:ZaS):Prop where
 node:Byte d.Node
 way:Byte d.Way
 size:Byte d.Size
 period:Byte d.Period
 burst:Byte d.Burst
 rate:0≤d.Rate∧d.Rate≤65535
def ZoG (t:Zi):Prop:=∀ x:Int,0≤x→x<t.Nodes→∃ k,k<t.Links.length∧((lk t k).A=x∨(lk t k).B=x)
theorem Zgb (g:Good t) (hdeg:ZoG t) {n k:Int} (hn:Byte n) (hk:Byte k) (hN:200≤N):∃ r,Zew N t n k=some r∧(r=[]∨ZaM t r=true):=by
 have hL:t.Links.length≤1000:=by have:=g.l24;omega
 unfold Zew
 obtain ⟨o,o1,o2⟩:=Ze5 (body:=fun x:Int=>ZcZ N t n k x) (I:=fun x:Int=>∃ j:Nat,x=j∧j≤16) (μ:=fun x=>16 - x.toNat) (Post:=fun o:Unit ⊕ List Int=>o = .inl ()∨∃ r,o = .inr r∧ZaM t r=true) (by
  rintro x ⟨j,rfl,hj⟩
  simp only [ZcZ]
  by_cases h16:j<16
  ·rw [if_pos (by simp;omega)]
   obtain ⟨r,r1,r2⟩:=Znt (N:=N) g hdeg hn (ZkR (k+IntKind.u8.wrap (j:Int))) hN
   obtain ⟨h1,h8,hp⟩:=Zci r2
   have p0:=hp 0 (by omega)
   have pl:=hp (r.length - 1) (by omega)
   rw [r1,Option.bind_some,if_pos (by simp;omega),Zgd g r hN,r2,Option.bind_some,if_pos rfl,Zli h1,Option.bind_some,Zc3 hL p0,Option.bind_some,Zek g.st (ZeS g p0).1,Option.bind_some,Zm9 h1 (by omega),Option.bind_some,Zdk hL pl,Option.bind_some,
    Zek g.st (ZeS g pl).2.1,Option.bind_some]
   have hne:neL r=some ():=by
    cases r with
    | nil=>simp at h1
    | cons a l=>rfl
   cases hc:(if stB t (frm t (at0 r 0))=true then some (stB t (too t (at0 r (r.length - 1)))) else some false) with
   | none=>split at hc<;>cases hc
   | some b =>
    rw [Option.bind_some]
    cases b with
    | true=>right;exact ⟨_,by rw [if_pos rfl,hne];rfl,.inr ⟨r,rfl,r2⟩⟩
    | false=>left;exact ⟨_,by rw [if_neg (by decide),ZW (by omega)],⟨j+1,rfl,by omega⟩,by simp;omega⟩
  ·right
   exact ⟨_,by rw [if_neg (by simp;omega)],.inl rfl⟩) N 0 ⟨0,rfl,by omega⟩ (by simp;omega)
 rw [o1,Option.bind_some]
 rcases o2 with rfl | ⟨r,rfl,hr⟩
 ·exact ⟨[],rfl,.inl rfl⟩
 ·exact ⟨r,rfl,.inr hr⟩
theorem ZfC (g:Good t) (hdeg:ZoG t) {d:ZaS} (hd:SDOK d) (id:Int) (hN:200≤N):∃ x b,Zb2 N d t id=some (x,b)∧(b=true→Za5 t x=true∧x.Id=id):=by
 have hL:t.Links.length≤1000:=by have:=g.l24;omega
 have hn2:=g.n2
 have hn12:=g.n12
 unfold Zb2
 rw [ZV (x:=d.Node) (by have:=hd.node.1;omega) (by have:=hd.node.2;omega)]
 obtain ⟨m,m1,m2,m3⟩:=ZdB (v:=d.Node) (b:=t.Nodes) hd.node.1 (by omega)
 rw [m1,Option.bind_some]
 obtain ⟨o,o1,o2⟩:=Ze5 (body:=fun x:Int × Int=>ZaZ N t x.1 x.2) (I:=fun x:Int × Int=>(0≤x.1∧x.1<t.Nodes)∧0≤x.2∧x.2≤t.Nodes) (μ:=fun x=>(t.Nodes - x.2).toNat) (Post:=fun o:Int=>0≤o∧o<t.Nodes) (by
  rintro ⟨a,i⟩ ⟨⟨a0,a1⟩,i0,i1⟩
  simp only at a0 a1 i0 i1
  simp only [ZaZ]
  by_cases hi:i<t.Nodes
  ·rw [if_pos (by simp;omega),Zek g.st (ZeP.2 ⟨a0,a1⟩),Option.bind_some,Option.bind_some]
   cases stB t a with
   | true=>right;exact ⟨a,by rfl,a0,a1⟩
   | false =>
    left
    obtain ⟨q,q1,q2,q3⟩:=ZdB (v:=a+1) (b:=t.Nodes) (by omega) (by omega)
    rw [if_pos (by simp),ZV (by omega) (by omega),q1,Option.bind_some,ZV (by omega) (by omega)]
    exact ⟨_,rfl,⟨⟨q2,q3⟩,by simp only;omega,by simp only;omega⟩,by simp only;omega⟩
  ·right
   rw [if_neg (by simp;omega)]
   exact ⟨a,rfl,a0,a1⟩) N (m,0) ⟨⟨m2,m3⟩,by simp,by simp only;omega⟩ (by simp only;omega)
 rw [o1,Option.bind_some]
 obtain ⟨r,r1,r2⟩:=Zgb (N:=N) g hdeg (ZkR o) hd.way hN
 rw [r1,Option.bind_some]
 rcases r2 with rfl | r2
 ·exact ⟨_,_,rfl,fun h=>by cases h⟩
 ·obtain ⟨h1,h8,hp⟩:=Zci r2
  have hne:¬ List.isEmpty r=true:=by cases r with
   | nil=>simp at h1
   | cons a l=>simp
  rw [if_neg hne,Zli h1,Option.bind_some,Zc3 hL (hp 0 (by omega)),Option.bind_some,Zm9 h1 (by omega),Option.bind_some,Zdk hL (hp _ (by omega)),Option.bind_some]
  have hj:∃ j:Int × Int × Int × Int,(if d.Reserved=true then some ((6:Int),(0:Int),w64 (w64 (84+w64 d.Size)+w64 (4 * w64 d.Burst)),w64 (1+w64 d.Rate)) else (idx [4,6,8,12,16,24,48,10,5,240] (Int.tmod d.Period 10)).bind fun e1021=>some (7,e1021,0,0))=some j:=by
   by_cases hr:d.Reserved=true
   ·rw [if_pos hr];exact ⟨_,rfl⟩
   ·rw [if_neg hr]
    have hm:Int.tmod d.Period 10=d.Period % 10:=Int.tmod_eq_emod_of_nonneg hd.period.1
    rw [hm,Zkv (Int.emod_nonneg _ (by decide)) (by have:=Int.emod_lt_of_pos d.Period (show (0:Int)<10 by decide);simp only [List.length_cons,List.length_nil];omega)]
    exact ⟨_,rfl⟩
  obtain ⟨j,j1⟩:=hj
  rw [j1,Option.bind_some]
  obtain ⟨o',p1,p2⟩:=Ze5 (body:=fun x:Int × (List (List Int))=>ZaY N d t o r (too t (at0 r (r.length - 1))) x.1 x.2) (I:=fun x:Int × List (List Int)=>∃ k:Nat,x.1=k∧k≤24∧x.2.length≤k+1) (μ:=fun x=>24 - x.1.toNat) (Post:=fun _:List (List Int)=>True) (by
   rintro ⟨a,l⟩ ⟨k,rfl,hk,hl⟩
   simp only at hl
   simp only [ZaY]
   cases hc:(if decide ((k:Int)<24)=true then if d.Two=true then some (((List.length l:Nat):Int)==1) else some false else some false) with
   | none=>split at hc;split at hc;all_goals cases hc
   | some b =>
    rw [Option.bind_some]
    cases b with
    | false=>right;exact ⟨l,rfl,trivial⟩
    | true =>
     left
     have hk24:k<24:=by
      by_cases h:k<24
      ·exact h
      ·rw [if_neg (by simp;omega)] at hc;cases hc
     rw [if_pos rfl]
     obtain ⟨q,q1,q2⟩:=Zgb (N:=N) g hdeg (ZkR o) (ZkR (d.Way+IntKind.u8.wrap (k:Int))) hN
     rw [q1,Option.bind_some]
     have fin:∀ (X:Option (List (List Int))) (l':List (List Int)),X=some l'→l'.length≤k+1+1→∃ y,(X.bind fun j2037=>some (Sum.inl (β:=List (List Int)) (w64 ((k:Int)+1),j2037)))=some (Sum.inl (β:=List (List Int)) y)∧(∃ k_1:Nat,y.1=(k_1:Int)∧k_1≤24∧y.2.length≤k_1+1)∧24 - y.1.toNat<24 - (k:Int).toNat:=by
      intro X l' hX hl'
      subst hX
      exact ⟨_,by rw [Option.bind_some,ZW (by omega)],⟨k+1,rfl,by omega,hl'⟩,by simp only [Int.toNat_natCast];omega⟩
     rcases q2 with rfl | q2
     ·exact fin _ l rfl (by omega)
     ·obtain ⟨w1,w8,wp⟩:=Zci q2
      have wne:¬ List.isEmpty q=true:=by cases q with
       | nil=>simp at w1
       | cons a l=>simp
      rw [if_neg wne,Zm9 w1 (by omega),Option.bind_some,Zdk hL (wp _ (by omega)),Option.bind_some,ZgT g r2 q2 hN,Option.bind_some]
      cases hc2:(if (too t (at0 q (q.length - 1))==too t (at0 r (r.length - 1)))=true then some (ZjV t r q) else some false) with
      | none=>split at hc2<;>cases hc2
      | some b2 =>
       rw [Option.bind_some]
       cases b2 with
       | false=>exact fin _ l rfl (by omega)
       | true=>exact fin _ (l++[q]) (by rw [if_pos rfl,ZdM (by simp;omega) (by omega)];rfl) (by simp;omega)) N (0,[r]) ⟨0,rfl,by omega,by simp⟩ (by simp;omega)
  rw [p1,Option.bind_some,ZgS g _ hN,Option.bind_some]
  exact ⟨_,_,rfl,fun h=>⟨h,rfl⟩⟩
structure SL (t:Zi) (l:List Zm):Prop where
 len:l.length≤6
 ok:∀ k,k<l.length→Za5 t (l.getD k dS)=true∧idAt l k=((k+1:Nat):Int)
theorem SL.snoc {l:List Zm} (h:SL t l) (h6:l.length<6) {x:Zm} (hx:Za5 t x=true) (hi:x.Id=((l.length+1:Nat):Int)):SL t (l++[x]):=by
 refine ⟨by simp;omega,fun k hk => ?_⟩
 unfold idAt
 by_cases e:k<l.length
 ·have:=h.ok k e
  unfold idAt at this
  rw [Zdq hk,List.getElem_append_left e,← Zdq e dS]
  exact this
 ·have:k=l.length:=by simp at hk;omega
  subst this
  rw [Zdq hk]
  simp only [List.getElem_append_right (Nat.le_refl _),Nat.sub_self,List.getElem_cons_zero]
  exact ⟨hx,hi⟩
theorem Zhl (g:Good t) (hdeg:ZoG t) {L:List ZaS} (hL:∀ d ∈ L,SDOK d) (hlen:L.length≤maxLen) (hN:200+L.length≤N):∃ l,Zc0 N t L=some l∧SL t l:=by
 unfold Zc0
 obtain ⟨o,o1,o2⟩:=Ze5 (body:=fun x:Int × (List Zm)=>ZbV N t L x.1 x.2) (I:=fun x:Int × List Zm=>∃ k:Nat,x.1=k∧k≤L.length∧SL t x.2) (μ:=fun x=>L.length - x.1.toNat) (Post:=SL t) (by
  rintro ⟨a,l⟩ ⟨k,rfl,hk,hl⟩
  simp only at hl
  simp only [ZbV]
  by_cases hkl:k<L.length
  ·rw [if_pos (by simp;omega),Option.bind_some]
   by_cases h6:l.length<6
   ·rw [if_pos (by simp;omega),ZcH hkl,Option.bind_some]
    obtain ⟨x,b,x1,x2⟩:=ZfC (N:=N) g hdeg (hL _ (List.getElem_mem hkl)) (w64 (((List.length l:Nat):Int)+1)) (by omega)
    rw [x1,Option.bind_some]
    have hw:w64 ((k:Int)+1)=((k+1:Nat):Int):=by
     rw [ZV (by omega) (by have:L.length≤9223372036854775807:=hlen;omega)];omega
    left
    cases b with
    | false=>exact ⟨_,by rw [if_neg (by simp),Option.bind_some,hw],⟨k+1,rfl,by omega,hl⟩,by simp only [Int.toNat_natCast];omega⟩
    | true =>
     obtain ⟨y1,y2⟩:=x2 rfl
     have hs:=hl.snoc h6 y1 (by rw [y2,ZW (by omega)])
     exact ⟨_,by rw [if_pos rfl,ZdM (by simp;omega) (by omega),Option.bind_some,Option.bind_some,hw],⟨k+1,rfl,by omega,hs⟩,by simp only [Int.toNat_natCast];omega⟩
   ·right
    exact ⟨l,by rw [if_neg (by simp;omega)],hl⟩
  ·right
   exact ⟨l,by rw [if_neg (by simp;omega)];rfl,hl⟩) N (0,[]) ⟨0,rfl,by omega,⟨by simp,fun k hk=>by simp at hk⟩⟩ (by simp;omega)
 exact ⟨o,by rw [o1];rfl,o2⟩
theorem Zhm {a b c:Int} (ha:Byte a) (hb:Byte b) (hc:Byte c):∃ u,Zb1 N a b c=some u∧ZdI u=true:=by
 obtain ⟨a0,a1⟩:=ha
 obtain ⟨b0,b1⟩:=hb
 obtain ⟨c0,c1⟩:=hc
 refine ⟨_,rfl,?_⟩
 have hm:Int.tmod b 40=b % 40:=Int.tmod_eq_emod_of_nonneg b0
 have e1:=Int.emod_nonneg b (show (40:Int) ≠ 0 by decide)
 have e2:=Int.emod_lt_of_pos b (show (0:Int)<40 by decide)
 rw [hm,ZV (x:=a) (by omega) (by omega),ZV (x:=20 * a) (by omega) (by omega),ZV (x:=100+20 * a) (by omega) (by omega),ZV (x:=b % 40) (by omega) (by omega),ZV (x:=c) (by omega) (by omega)]
 simp only [ZdI,inB,Bool.and_eq_true,decide_eq_true_eq]
 refine ⟨⟨?_,?_⟩,⟨?_,?_⟩,⟨?_,?_⟩,?_,?_⟩<;>omega
end
end Go.Sh

set_option linter.unusedVariables false
set_option linter.unusedSimpArgs false
namespace Go.Sh
open Go Go.Eng
def T0:Zi:=⟨3,[true,false,true],[⟨0,1,8,5⟩,⟨1,2,8,5⟩]⟩
def U0:ZE:=⟨100,2,10,8000⟩
def S0:Zm:=⟨1,0,2,7,100,20,⟨0,0⟩,10000,[[0,2]]⟩
theorem T0_ok:Zeh T0=true:=by kernel_rfl
theorem U0_ok:ZdI U0=true:=by kernel_rfl
theorem S0_ok:Za5 T0 S0=true:=by kernel_rfl
theorem works22 {N:Nat} (hN:200≤N):ZeQ N=some true:=by
 have e1:Zaa N T0 U0 S0 0=some ([⟨0,0,0,0,800⟩,⟨2,811,819,900,800⟩],0):=(ZfR T0_ok U0_ok S0_ok (k:=0) rfl (by decide) (by decide) hN).trans (by kernel_rfl)
 have e2:Zah N T0 U0 S0 0=some (1715,0):=(ZfQ T0_ok U0_ok S0_ok (k:=0) rfl (by decide) (by decide) hN).trans (by kernel_rfl)
 have e3:Zaa N T0 U0 S0 1=some ([],2):=(Zf1 (e:=2) ((Zes 1 hN).trans (by kernel_rfl)) (by decide)).1
 have c1:Zba N T0 ⟨1,0,1,7,100,20,⟨0,0⟩,10000,[[0,2]]⟩=some 321:=(Zdy hN).trans (by kernel_rfl)
 have c2:Zba N T0 ⟨1,0,2,7,83,20,⟨0,0⟩,10000,[[0,2]]⟩=some 321:=(Zdy hN).trans (by kernel_rfl)
 have c3:Zba N T0 ⟨1,0,2,7,100,20,⟨0,0⟩,10000,[[2,0]]⟩=some 321:=(Zdy hN).trans (by kernel_rfl)
 have c4:Zba N T0 S0=some 0:=(Zdy hN).trans (by kernel_rfl)
 have c5:Zcl N T0 [S0,S0]=some 322:=(Zhf _ hN).trans (by kernel_rfl)
 unfold ZeQ ZgA ZfG ZdF
 simp only [Option.bind_some]
 unfold T0 U0 S0 at e1 e2 e3
 unfold T0 at c1 c2 c3
 unfold T0 S0 at c4 c5
 simp only [e1,e2,e3,c1,c2,c3,c4,c5,Option.bind_some]
 rfl
section
variable {N:Nat} {t:Zi} {u:ZE} {s:Zm}
theorem Znb {α:Type} {n k:Nat} (f:Nat→α) (h:k<n):idx ((List.range n).map f) (k:Int)=some (f k):=by
 rw [ZcH (by simpa using h)]
 simp
theorem Zpa (g:Good t) (hu:Zls u) (hs:Ziy s) {r:List Int} (hp:∀ k,k<r.length→Zch t (at0 r k)=true) {k:Nat} (hk:k+1<r.length) :
  (ZP t u s r (k+1)).Early=Zaz t u (ZP t u s r k) - 2 * u.Slack∧(ZP t u s r (k+1)).Late=Zaz t u (ZP t u s r k)+2 * u.Slack ∧
  (ZP t u s r (k+1)).Late≤(ZP t u s r (k+1)).Open∧(ZP t u s r (k+1)).Open<(ZP t u s r (k+1)).Late+u.Grid∧(ZP t u s r (k+1)).Open % u.Grid=0∧(ZP t u s r k).Open<(ZP t u s r (k+1)).Open:=by
 have hb:=Ze6 g hu hs hp k (by omega)
 obtain ⟨o1,o2,o3⟩:=hb.told g hu
 have h0:=hb.op1
 have c:=Zlm hu (x:=Zaz t u (ZP t u s r k)+2 * u.Slack) (by have:=hu.s1;omega)
 have:=hu.s1
 refine ⟨rfl,rfl,c.1,c.2.1,c.2.2,?_⟩
 show _<ZjN u (Zaz t u (ZP t u s r k)+2 * u.Slack)
 omega
theorem Zkw (g:Good t) (hu:Zls u) (hs:Ziy s) {r:List Int} (hp:∀ k,k<r.length→Zch t (at0 r k)=true) (h8:r.length≤8) {k:Nat} (hk:k<r.length) :
  0≤(ZP t u s r k).Open∧(ZP t u s r k).Open≤20000000∧0≤Zaz t u (ZP t u s r k)∧Zaz t u (ZP t u s r k)≤20000000:=by
 have hb:=Ze6 g hu hs hp k hk
 obtain ⟨o1,o2,o3⟩:=hb.told g hu
 have h0:=hb.op1
 have h1:=hb.op2
 omega
theorem SDOK.of {d:ZaS} (h:Zfi d):SDOK d:=by
 obtain ⟨_,_,h1,h2,h3,h4,h5,h6⟩:=h
 refine ⟨Zdm h1,Zdm h2,Zdm h3,Zdm h4,Zdm h5,?_⟩
 simpa [InK,Lit.wf,IntKind.min,IntKind.max,IntKind.signed,IntKind.bits] using h6
structure Cs (N:Nat) (c:Zbj) (t:Zi) (u:ZE) (l:List Zm):Prop where
 topo:Zby N c.T=some t
 tB:Zeh t=true
 setup:Zb1 N c.U.x0 c.U.x1 c.U.x2=some u
 uB:ZdI u=true
 str:Zc0 N t c.L=some l
 sl:SL t l
theorem case_ok {c:Zbj} (hc:Zev c) (hN:200+c.L.length≤N):∃ t u l,Cs N c t u l:=by
 obtain ⟨h1,⟨h2,h3⟩,h4,_⟩:=hc
 obtain ⟨t,t1,t2,t3⟩:=ZnQ (N:=N) (DOK.of h1) (by omega)
 obtain ⟨u,u1,u2⟩:=Zhm (N:=N) (Zdm h4.1) (Zdm h4.2.1) (Zdm h4.2.2)
 obtain ⟨l,l1,l2⟩:=Zhl (N:=N) t2 t3 (fun d hd=>SDOK.of (h3 d hd)) h2 hN
 exact ⟨t,u,l,t1,Zbe.2 t2,u1,u2,l1,l2⟩
end
end Go.Sh

