/- Part of the proof; written by a program out of the texts in wip/. -/
import Derived.Test.YtmplmekdilmdgaaStreamChecksTop9
set_option linter.unusedVariables false
set_option linter.unusedSimpArgs false
namespace Go.Sh
open Go Go.Eng
section
variable {N:Nat} {t:Zg}
theorem Zke (g:Good t) (x:Int) (hN:200≤N):ZdU N t x=some (PF (fun p=>frm t p==x) (2 * t.Links.length)):=by
 have h24:=g.l24
 unfold ZdU
 have:=ZcF (n:=2 * t.Links.length) (f:=fun b k=>PF (fun p=>frm t p==x) (k+1)) (body:=fun y:Int × (List Int)=>Zbc N t x y.1 y.2) (fin:=fun b=>b) (fun k b=>b=PF (fun p=>frm t p==x) k)
  (fun k b hk hb=>by
   show Zbc N t x k b=_
   unfold Zbc
   subst hb
   have:=Zpr (fun p=>frm t p==x) k
   have hp:ZcA t (k:Int)=true:=by simp only [ZcA,Bool.and_eq_true,decide_eq_true_eq];omega
   rw [if_pos (by rw [Z5 (by omega) (by omega)];simp;omega),Zc9 (by omega) hp,Option.bind_some,ZoI,ZS (by omega)]
   cases (frm t (k:Int)==x) with
   | false=>rfl
   | true=>simp only [if_true];rw [Zep (by rw [List.length_singleton];omega) (by omega)];rfl)
  (fun k b hk hb=>rfl)
  (fun b hb=>by show Zbc N t x ((2 * t.Links.length:Nat):Int) b=_;unfold Zbc;rw [if_neg (by rw [Z5 (by omega) (by omega)];simp)]) (N:=N) (by omega) (b0:=[]) rfl
 rw [this.1,Option.bind_some,this.2]
theorem Zn9 (g:Good t) {seen Q:List Int} (hs:seen.length≤100) (hQ:Q.length≤100) (hp:∀ p ∈ Q,ZcA t p=true) (hN:200≤N) :
  Z2 (fun x:Int × (List Int)=>ZaT N t seen Q x.1 x.2) N (0,[])=some (Q.filter fun p => !seen.contains (too t p)):=by
 have hL:t.Links.length≤1000:=by have:=g.l24;omega
 have:=ZcF (n:=Q.length) (f:=fun b k=>(Q.take (k+1)).filter fun p => !seen.contains (too t p)) (body:=fun x:Int × (List Int)=>ZaT N t seen Q x.1 x.2) (fin:=fun b=>b) (fun k b=>b=(Q.take k).filter fun p => !seen.contains (too t p))
  (fun k b hk hb=>by
   show ZaT N t seen Q k b=_
   unfold ZaT
   subst hb
   have hlen:((Q.take k).filter fun p => !seen.contains (too t p)).length≤100:=Nat.le_trans (List.length_filter_le _ _) (by simp;omega)
   have htk:Q.take (k+1)=Q.take k++[Q[k]]:=by rw [List.take_append_getElem]
   rw [if_pos (by simp;omega),ZcB hk,Option.bind_some,Zdw hL (hp _ (List.getElem_mem hk)),Option.bind_some,ZfN (by omega) (by omega),Option.bind_some,htk,List.filter_append,ZS (by omega)]
   cases hc:seen.contains (too t Q[k]) with
   | true =>
    have:[Q[k]].filter (fun p => !seen.contains (too t p))=[]:=by rw [List.filter_cons_of_neg (by rw [hc];simp)];rfl
    rw [this,List.append_nil]
    rfl
   | false =>
    have:[Q[k]].filter (fun p => !seen.contains (too t p))=[Q[k]]:=by rw [List.filter_cons_of_pos (by rw [hc];rfl)];rfl
    rw [this]
    simp only [Bool.not_false,if_true,Option.bind_some]
    rw [Zep (by rw [List.length_singleton];omega) (by omega)]
    rfl)
  (fun k b hk hb=>rfl)
  (fun b hb=>by show ZaT N t seen Q Q.length b=_;unfold ZaT;rw [if_neg (by simp)]) (N:=N) (by omega) (b0:=[]) (by simp)
 rw [this.1,this.2,List.take_length]
theorem Zh7 {r:List Int} {p:Int} {k:Nat}:at0 (r++[p]) k=if k<r.length then at0 r k else if k=r.length then p else 0:=by
 unfold at0
 simp only [List.getD_eq_getElem?_getD]
 by_cases h:k<r.length
 ·rw [if_pos h,List.getElem?_append_left h]
 ·rw [if_neg h,List.getElem?_append_right (by omega)]
  by_cases e:k=r.length
  ·subst e;simp
  ·rw [if_neg e]
   cases hh:k - r.length with
   | zero=>omega
   | succ m=>simp
theorem Zny {r:List Int} {p m:Int} (hm:r ≠ []→frm t (at0 r 0)=m) (h0:r=[]→frm t p=m):Zaa t (r++[p])=(m::r.map (too t))++[too t p]:=by
 unfold Zaa
 rw [Zh7,List.map_append]
 by_cases h:r=[]
 ·subst h
  simp [h0 rfl]
 ·have:0<r.length:=List.length_pos_iff.2 h
  rw [if_pos this,hm h]
  rfl
theorem Zok {r:List Int} {p m:Int} (hm:r ≠ []→frm t (at0 r 0)=m) (h0:r=[]→frm t p=m) (hok:∀ k,k<r.length→okAt t r k=true) (hp:ZcA t p=true)
  (hf:frm t p=(m::r.map (too t)).getD r.length 0) (hst:r ≠ []→stB t (frm t p)=false) (hnew:(m::r.map (too t)).contains (too t p)=false):∀ k,k<(r++[p]).length→okAt t (r++[p]) k=true:=by
 have hN:=Zny (t:=t) hm h0
 have hlen:(m::r.map (too t)).length=r.length+1:=by simp
 have hnd:∀ k,k≤r.length→nd t (r++[p]) k=(m::r.map (too t)).getD k 0:=fun k hk=>by
  unfold nd
  rw [hN,List.getD_eq_getElem?_getD,List.getElem?_append_left (by omega),List.getD_eq_getElem?_getD]
 have hlast:nd t (r++[p]) (r.length+1)=too t p:=by
  unfold nd
  rw [hN,List.getD_eq_getElem?_getD,List.getElem?_append_right (by omega)]
  simp
 have hold:r ≠ []→Zaa t r=m::r.map (too t):=fun h=>by unfold Zaa;rw [hm h]
 intro k hk
 simp only [List.length_append,List.length_singleton] at hk
 unfold okAt
 rw [Zh7]
 by_cases hlt:k<r.length
 ·have hne:r ≠ []:=by intro e;subst e;simp at hlt
  rw [if_pos hlt]
  have:=hok k hlt
  unfold okAt at this
  have e1:nd t (r++[p]) k=nd t r k:=by rw [hnd k (by omega)];unfold nd;rw [hold hne]
  have e2:nd t (r++[p]) (k+1)=nd t r (k+1):=by rw [hnd (k+1) (by omega)];unfold nd;rw [hold hne]
  have e3:(Zaa t (r++[p])).take (k+1)=(Zaa t r).take (k+1):=by rw [hN,hold hne,List.take_append_of_le_length (by omega)]
  rw [e1,e2,e3]
  exact this
 ·obtain rfl:k=r.length:=by omega
  rw [if_neg hlt,if_pos rfl,hlast,hnd _ (Nat.le_refl _),← hf,hp,hN,List.take_append_of_le_length (by omega),List.take_of_length_le (by omega),hnew]
  by_cases h:r=[]
  ·subst h;rfl
  ·rw [hst h];simp
theorem Znt (g:Good t) (hdeg:∀ x:Int,0≤x→x<t.Nodes→∃ k,k<t.Links.length∧((lk t k).A=x∨(lk t k).B=x)) {n k:Int} (hn:Byte n) (hk:Byte k) (hN:200≤N):∃ r,ZfA N t n k=some r∧ZaG t r=true:=by
 have hL:t.Links.length≤1000:=by have:=g.l24;omega
 have h24:=g.l24
 have hn2:=g.n2
 obtain ⟨n0,n1⟩:=hn
 obtain ⟨k0,k1⟩:=hk
 unfold ZfA
 rw [Z5 (by omega) (by omega)]
 obtain ⟨m,m1,m2,m3⟩:=ZdH (v:=n) (b:=t.Nodes) n0 (by omega)
 rw [m1,Option.bind_some]
 have key:∃ o,Z2 (fun x:Int × (List Int) × (List Int)=>Zb1 N t k x.1 x.2.1 x.2.2) N (m,[m],[])=some o∧∃ r,(o = .inl r∨o = .inr r)∧ZaG t r=true:=by
  refine Zfd (I:=fun x:Int × List Int × List Int=>x.2.2.length≤8∧x.2.1=m::x.2.2.map (too t)∧x.1=x.2.1.getD x.2.2.length 0∧(x.2.2 ≠ []→frm t (at0 x.2.2 0)=m)∧(∀ j,j<x.2.2.length→okAt t x.2.2 j=true)∧ZdA t x.1=true)
   (μ:=fun x=>8 - x.2.2.length) (Post:=fun o:List Int ⊕ List Int=>∃ r,(o = .inl r∨o = .inr r)∧ZaG t r=true) ?_ N (m,[m],[]) ⟨by simp,by simp,by simp,fun h=>absurd rfl h,fun j hj=>by simp at hj,ZeY.2 ⟨m2,m3⟩⟩ (by simp;omega)
  rintro ⟨a,seen,out⟩ ⟨i1,i2,i3,i4,i5,i6⟩
  simp only at i1 i2 i3 i4 i5 i6
  have hval:out ≠ []→ZaG t out=true:=fun h=>by
   have:0<out.length:=List.length_pos_iff.2 h
   simp only [ZaG,Bool.and_eq_true,decide_eq_true_eq,ZaV]
   exact ⟨this,i1,i5⟩
  have hcond:(if decide (((List.length out:Nat):Int)<8)=true then if (((List.length out:Nat):Int)==0)=true then some true else (idx t.Station a).bind fun e517=>some (!e517) else some false)=some (decide (out.length<8)&&(decide (out.length=0) || !stB t a)):=by
   rw [Zeu g.st i6]
   by_cases h8:out.length<8
   ·rw [if_pos (by simp;omega),decide_eq_true h8]
    by_cases h0:out.length=0
    ·rw [if_pos (by simp [h0]),decide_eq_true h0];rfl
    ·rw [if_neg (by simp;intro e;rw [e] at h0;exact h0 rfl),decide_eq_false h0];rfl
   ·rw [if_neg (by simp;omega),decide_eq_false h8];rfl
  have hseen:seen.length=out.length+1:=by rw [i2];simp
  have hbody:Zb1 N t k a seen out=(some (decide (out.length<8)&&(decide (out.length=0) || !stB t a))).bind fun j=>if j=true then (ZdU N t a).bind fun r521=>(Z2 (fun x:Int × (List Int)=>ZaT N t seen r521 x.1 x.2) N (0,[])).bind fun o1547 =>
    if (((List.length o1547:Nat):Int)==0)=true then some (.inr (.inr out)) else (remI (w64 (w64 k+w64 (3 * ((List.length out:Nat):Int)))) ((List.length o1547:Nat):Int)).bind fun m1552=>(idx o1547 m1552).bind fun e1553=>(appI 8 out [e1553]).bind fun l1558=>(ZcJ N t e1553).bind fun r1559=>(appI 8 seen [r1559]).bind fun l1562=>some (.inl (r1559,l1562,l1558))
    else some (.inr (.inl out)):=by
   unfold Zb1
   rw [hcond]
  show (∃ y,Zb1 N t k a seen out=some (.inl y)∧_∧_)∨_
  rw [hbody,Option.bind_some]
  cases hj:(decide (out.length<8)&&(decide (out.length=0) || !stB t a)) with
  | false =>
   right
   refine ⟨_,rfl,out,.inl rfl,hval fun e => ?_⟩
   subst e
   simp at hj
  | true =>
   simp only [Bool.and_eq_true,decide_eq_true_eq,Bool.or_eq_true,Bool.not_eq_true'] at hj
   have hpq:∀ p,p ∈ PF (fun p=>frm t p==a) (2 * t.Links.length)↔ZcA t p=true∧frm t p=a:=fun p=>by
    rw [PF_mem,beq_iff_eq]
    simp only [ZcA,Bool.and_eq_true,decide_eq_true_eq]
    constructor
    ·rintro ⟨h1,h2,h3⟩;exact ⟨⟨h1,by omega⟩,h3⟩
    ·rintro ⟨⟨h1,h2⟩,h3⟩;exact ⟨h1,by omega,h3⟩
   have hql:=Zpr (fun p=>frm t p==a) (2 * t.Links.length)
   rw [if_pos rfl,Zke g a hN,Option.bind_some,Zn9 g (by omega) (by omega) (fun p hp=>((hpq p).1 hp).1) hN,Option.bind_some]
   have hmem:∀ p,p ∈ (PF (fun p=>frm t p==a) (2 * t.Links.length)).filter (fun p => !seen.contains (too t p))↔ZcA t p=true∧frm t p=a∧seen.contains (too t p)=false:=fun p=>by
    rw [List.mem_filter,hpq,Bool.not_eq_true',and_assoc]
   have hll:((PF (fun p=>frm t p==a) (2 * t.Links.length)).filter (fun p => !seen.contains (too t p))).length≤100:=Nat.le_trans (List.length_filter_le _ _) (by omega)
   generalize (PF (fun p=>frm t p==a) (2 * t.Links.length)).filter (fun p => !seen.contains (too t p))=next at hmem hll
   by_cases hz:next.length=0
   ·right
    rw [if_pos (by simp [hz])]
    refine ⟨_,rfl,out,.inr rfl,hval fun e => ?_⟩
    subst e
    have ham:a=m:=by rw [i3,i2];rfl
    obtain ⟨q,hq1,hq2⟩:=hdeg m m2 m3
    have hlink:=Zb2 (g.links q hq1).1
    have hx:∃ p,ZcA t p=true∧frm t p=m∧too t p ≠ m:=by
     rcases hq2 with h | h
     ·refine ⟨2 * (q:Int),by simp only [ZcA,Bool.and_eq_true,decide_eq_true_eq];omega,?_,?_⟩
      ·unfold frm plk
       rw [show Int.tmod (2 * (q:Int)) 2=0 by rw [Int.tmod_eq_emod_of_nonneg (by omega)];omega,show (Int.tdiv (2 * (q:Int)) 2).toNat=q by rw [Int.tdiv_eq_ediv_of_nonneg (by omega)];omega]
       simpa [lk] using h
      ·unfold too plk
       rw [show Int.tmod (2 * (q:Int)) 2=0 by rw [Int.tmod_eq_emod_of_nonneg (by omega)];omega,show (Int.tdiv (2 * (q:Int)) 2).toNat=q by rw [Int.tdiv_eq_ediv_of_nonneg (by omega)];omega]
       have:(lk t q).B ≠ m:=fun e=>hlink.2.2 (by rw [h,e])
       simpa [lk] using this
     ·refine ⟨2 * (q:Int)+1,by simp only [ZcA,Bool.and_eq_true,decide_eq_true_eq];omega,?_,?_⟩
      ·unfold frm plk
       rw [show Int.tmod (2 * (q:Int)+1) 2=1 by rw [Int.tmod_eq_emod_of_nonneg (by omega)];omega,show (Int.tdiv (2 * (q:Int)+1) 2).toNat=q by rw [Int.tdiv_eq_ediv_of_nonneg (by omega)];omega]
       simpa [lk] using h
      ·unfold too plk
       rw [show Int.tmod (2 * (q:Int)+1) 2=1 by rw [Int.tmod_eq_emod_of_nonneg (by omega)];omega,show (Int.tdiv (2 * (q:Int)+1) 2).toNat=q by rw [Int.tdiv_eq_ediv_of_nonneg (by omega)];omega]
       have:(lk t q).A ≠ m:=fun e=>hlink.2.2 (by rw [h,e])
       simpa [lk] using this
    obtain ⟨p,p1,p2,p3⟩:=hx
    have:p ∈ next:=(hmem p).2 ⟨p1,by rw [ham];exact p2,by rw [i2];simp [p3]⟩
    rw [List.eq_nil_of_length_eq_zero hz] at this
    cases this
   ·left
    rw [if_neg (by simp;intro e;rw [e] at hz;exact hz rfl)]
    have hv:0≤w64 (w64 k+w64 (3 * ((List.length out:Nat):Int))):=by
     rw [Z5 (x:=k) (by omega) (by omega),Z5 (x:=3 * ((List.length out:Nat):Int)) (by omega) (by omega),Z5 (by omega) (by omega)];omega
    obtain ⟨q,q1,q2,q3⟩:=ZdH (b:=((List.length next:Nat):Int)) hv (by omega)
    rw [q1,Option.bind_some,Zkw q2 (by omega),Option.bind_some]
    have hin:next[q.toNat]'(by omega) ∈ next:=List.getElem_mem _
    generalize next[q.toNat]'(by omega)=p at hin
    obtain ⟨p1,p2,p3⟩:=(hmem p).1 hin
    rw [Zep (by simp;omega) (by omega),Option.bind_some,Zdw hL p1,Option.bind_some,Zep (by simp;omega) (by omega),Option.bind_some]
    have hne:=Ze1 g p1
    have hlen1:(out++[p]).length=out.length+1:=by simp
    refine ⟨_,rfl,⟨?_,?_,?_,?_,?_,hne.2.1⟩,?_⟩
    ·simp only;omega
    ·simp only;rw [i2];simp
    ·simp only
     rw [hlen1,List.getD_eq_getElem?_getD,List.getElem?_append_right (by omega)]
     simp [hseen]
    ·simp only
     intro _
     rw [Zh7]
     by_cases h0:0<out.length
     ·rw [if_pos h0];exact i4 (List.length_pos_iff.1 h0)
     ·have:out=[]:=List.eq_nil_of_length_eq_zero (by omega)
      subst this
      rw [if_neg (by simp),if_pos (by simp),p2,i3,i2]
      rfl
    ·simp only
     refine Zok i4 (fun h => ?_) i5 p1 ?_ (fun h => ?_) ?_
     ·subst h;rw [p2,i3,i2];rfl
     ·rw [p2,i3,i2]
     ·rw [p2]
      rcases hj.2 with h' | h'
      ·exact absurd (List.eq_nil_of_length_eq_zero h') h
      ·exact h'
     ·rw [← i2];exact p3
    ·simp only;omega
 obtain ⟨o,o1,r,o2,o3⟩:=key
 rw [o1,Option.bind_some]
 rcases o2 with rfl | rfl
 ·exact ⟨r,rfl,o3⟩
 ·exact ⟨r,rfl,o3⟩
end
end Go.Sh

