/- Part of the proof; written by a program out of the texts in wip/. -/
import Derived.Test.YthipedbbcjemhaaGreatPlanCoversTop6
import Derived.Test.YthipedbbcjemhaaGreatPlanCoversTop5
set_option linter.unusedVariables false
set_option linter.unusedSimpArgs false
namespace Go.Sh
open Go Go.Eng
def cntB (l:List Zy) (x:Int):Nat:=l.countP (fun l=>l.B==x)
theorem Zql {l:List Int} {i:Nat} {v:Int} {j:Nat} (h:i<l.length):(l.set i v).getD j 0=if j=i then v else l.getD j 0:=by
 rw [List.getD_eq_getElem?_getD,List.getD_eq_getElem?_getD,List.getElem?_set]
 by_cases e:j=i
 ·subst e;rw [if_pos rfl,if_pos h,if_pos rfl];rfl
 ·rw [if_neg (Ne.symm e),if_neg e]
theorem ZoY {b:List Int} {x:Int} (h0:0≤x) (h:x<b.length) {j:Nat} (hv:0≤b.getD x.toNat 0∧b.getD x.toNat 0≤1000):(bump b x).getD j 0=b.getD j 0+(if x=j then 1 else 0):=by
 unfold bump
 rw [Zql (by omega)]
 by_cases e:j=x.toNat
 ·rw [if_pos e,if_pos (by omega),ZP (by omega) (by omega),e]
 ·rw [if_neg e,if_neg (by omega)];omega
theorem ZlW {m:Int}:∀ (l:List Zy) (b:List Int) (M:Nat),(b.length:Int)=m→(∀ k ∈ l,(0≤k.A∧k.A<m)∧0≤k.B∧k.B<m)→(∀ j:Nat,0≤b.getD j 0∧b.getD j 0≤M)→M+2 * l.length≤900→∀ j:Nat,
  (l.foldl Zlz b).getD j 0=b.getD j 0+(l.countP (fun k=>k.A==(j:Int)):Nat)+(cntB l j:Nat)
 | [],b,M,_,_,_,_,j=>by simp [cntB]
 | k::l,b,M,hb,hl,hM,hle,j=>by
  obtain ⟨⟨a1,a2⟩,a3,a4⟩:=hl k (by simp)
  have g1:∀ j:Nat,(bump b k.A).getD j 0=b.getD j 0+(if k.A=j then 1 else 0):=fun j=>ZoY a1 (by omega) (by have:=hM k.A.toNat;simp only [List.length_cons] at hle;omega)
  have g2:∀ j:Nat,(Zlz b k).getD j 0=b.getD j 0+(if k.A=j then 1 else 0)+(if k.B=j then 1 else 0):=fun j=>by
   unfold Zlz
   rw [ZoY a3 (by rw [ZoX];omega) (by rw [g1];have:=hM k.B.toNat;simp only [List.length_cons] at hle;split<;>omega),g1]
  rw [List.foldl_cons,ZlW l (Zlz b k) (M+2) (by rw [ZnQ];exact hb) (fun k hk=>hl k (by simp [hk])) (fun j=>by rw [g2];have:=hM j;split<;>split<;>omega) (by simp only [List.length_cons] at hle;omega) j,g2]
  simp only [cntB,List.countP_cons]
  by_cases e1:k.A=(j:Int)<;>by_cases e2:k.B=(j:Int)<;>simp [e1,e2]<;>omega
theorem ZlE {l:List Bool} {k:Zy} {x:Nat} (h:l.getD x false=true):(ZgG l k).getD x false=true:=by
 unfold ZgG
 split
 ·exact Zgo (Zgo h)
 ·exact h
theorem ZlS {x:Nat}:∀ (ks:List Zy) {l:List Bool},l.getD x false=true→(ks.foldl ZgG l).getD x false=true
 | [],l,h=>h
 | k::ks,l,h=>ZlS ks (ZlE h)
theorem Zgp {l:List Bool} {i:Nat} (h:i<l.length):(l.set i true).getD i false=true:=by
 rw [List.getD_eq_getElem?_getD,List.getElem?_set,if_pos rfl,if_pos h];rfl
theorem ZlF {l:List Bool} {k:Zy} (h:l.getD k.A.toNat false=true∨l.getD k.B.toNat false=true) (hA:k.A.toNat<l.length) (hB:k.B.toNat<l.length):(ZgG l k).getD k.A.toNat false=true∧(ZgG l k).getD k.B.toNat false=true:=by
 unfold ZgG
 rw [if_pos (by rcases h with h | h<;>rw [h]<;>simp)]
 exact ⟨Zgo (Zgp hA),Zgp (by simpa using hB)⟩
theorem Zko (ks:List Zy) (l:List Bool):(ks.foldl ZgG l).length=l.length:=by
 induction ks generalizing l with
 | nil=>rfl
 | cons k ks ih=>rw [List.foldl_cons,ih,Zng]
section
variable {b n c h:Nat} {t:Zh}
theorem Zgc (t:Zh) (l:List Bool):Zjj t l=t.Links.foldl ZgG l:=ZkT dL t.Links ZgG l
theorem Row.round (r:Row b n (b - 1) (n - b) t) (hb:1≤b) (hbn:b≤n) {l:List Bool} (hl:l.length=n) (h0:l.getD 0 false=true):∀ x,x<n→(Zjj t l).getD x false=true:=by
 have hnodes:∀ k,k<t.Links.length→(0≤(lk t k).A∧(lk t k).A<n)∧0≤(lk t k).B∧(lk t k).B<n:=fun k hk=>by
  have:=Zc0 (r.links k hk).1
  exact ⟨r.toMk.node.1 this.1,r.toMk.node.1 this.2.1⟩
 have hlen:=r.len
 have step:∀ k,k≤t.Links.length→∀ x,x<n→(x<b∧x≤k)∨(b≤x∧b - 1+(x - b)<k)→((t.Links.take k).foldl ZgG l).getD x false=true:=by
  intro k
  induction k with
  | zero =>
   intro _ x hx hc
   rcases hc with ⟨h1,h2⟩ | ⟨h1,h2⟩
   ·obtain rfl:x=0:=by omega
    simpa using h0
   ·omega
  | succ k ih =>
   intro hk x hx hc
   have htk:t.Links.take (k+1)=t.Links.take k++[lk t k]:=by
    have:lk t k=t.Links[k]:=by simp [lk,List.getD_eq_getElem?_getD,show k<t.Links.length by omega]
    rw [this,List.take_append_getElem]
   rw [htk,List.foldl_append,List.foldl_cons,List.foldl_nil]
   have hfl:((t.Links.take k).foldl ZgG l).length=n:=by rw [Zko,hl]
   obtain ⟨⟨n1,n2⟩,n3,n4⟩:=hnodes k (by omega)
   by_cases hold:(x<b∧x≤k)∨(b≤x∧b - 1+(x - b)<k)
   ·exact ZlE (ih (by omega) x hx hold)
   ·rcases hc with ⟨h1,h2⟩ | ⟨h1,h2⟩
    ·have hk1:x=k+1:=by omega
     obtain ⟨c1,c2⟩:=r.chain k (by omega)
     have:=ZlF (k:=lk t k) (l:=(t.Links.take k).foldl ZgG l) (.inl (by rw [c1];exact ih (by omega) k (by omega) (.inl ⟨by omega,by omega⟩))) (by omega) (by omega)
     have e:=this.2
     rw [c2] at e
     rw [hk1];exact e
    ·have hk1:k=b - 1+(x - b):=by omega
     have c1:=r.home (x - b) (by omega)
     rw [← hk1] at c1
     have hB:=r.ends k (by omega)
     have:=ZlF (k:=lk t k) (l:=(t.Links.take k).foldl ZgG l) (.inr (ih (by omega) (lk t k).B.toNat (by omega) (.inl ⟨by omega,by omega⟩))) (by omega) (by omega)
     have e:=this.1
     rw [c1] at e
     rwa [show (((b+(x - b):Nat):Int)).toNat=x by omega] at e
 intro x hx
 rw [Zgc]
 have:=step t.Links.length (Nat.le_refl _) x hx (by
  by_cases hxb:x<b
  ·exact .inl ⟨hxb,by omega⟩
  ·exact .inr ⟨by omega,by omega⟩)
 rwa [List.take_length] at this
theorem Row.reach (r:Row b n (b - 1) (n - b) t) (hb:1≤b) (hbn:b≤n) (hn:1≤n):∀ x,x<n→(Zjk t 0).getD x false=true:=by
 have hnod:t.Nodes.toNat=n:=by rw [r.nodes];omega
 unfold Zjk
 rw [hnod]
 have hall:∀ m,1≤m→∀ x,x<n→((List.range m).foldl (fun l _=>Zjj t l) ((List.replicate n false).set (0:Int).toNat true)).getD x false=true∧((List.range m).foldl (fun l _=>Zjj t l) ((List.replicate n false).set (0:Int).toNat true)).length=n:=by
  intro m hm
  induction m with
  | zero=>omega
  | succ m ih =>
   intro x hx
   rw [List.range_succ,List.foldl_append,List.foldl_cons,List.foldl_nil]
   by_cases hm0:m=0
   ·subst hm0
    refine ⟨r.round hb hbn (by simp) (Zgp (by simp;omega)) x hx,?_⟩
    rw [Zgc,Zko];simp
   ·obtain ⟨i1,i2⟩:=ih (by omega) x hx
    exact ⟨by rw [Zgc];exact ZlS _ i1,by rw [Zgc,Zko];exact i2⟩
 exact fun x hx=>(hall n hn x hx).1
theorem Row.good (r:Row b n (b - 1) (n - b) t) (hb:1≤b) (hbn:b+1≤n) (hn12:n≤12) (hc:∀ s,s<n - b→1≤cntA t ((b+s:Nat):Int)∧cntA t ((b+s:Nat):Int)≤2):Good t:=by
 have hnod:t.Nodes.toNat=n:=by rw [r.nodes];omega
 refine ⟨by rw [r.nodes];omega,by rw [r.nodes];omega,r.stl,r.l24,r.links,fun x hx => ?_⟩
 rw [hnod] at hx
 refine ⟨r.reach hb (by omega) (by omega) x hx,?_⟩
 unfold degB
 rw [r.stB (by omega) (by omega)]
 by_cases hxb:(b:Int)≤(x:Int)
 ·have hd:(degs t).getD x 0=(cntA t (x:Int):Nat)+(cntB t.Links x:Nat):=by
   have e0:degs t=t.Links.foldl Zlz (List.replicate n 0):=by rw [← hnod];exact ZkT dL t.Links Zlz _
   rw [e0]
   have hz:∀ j:Nat,(List.replicate n (0:Int)).getD j 0=0:=fun j=>by
    rw [List.getD_eq_getElem?_getD,List.getElem?_replicate];split<;>rfl
   have:=ZlW (m:=(n:Int)) t.Links (List.replicate n 0) 0 (by simp) (fun k hk=>by
    obtain ⟨i,hi,rfl⟩:=List.getElem_of_mem hk
    have e:lk t i=t.Links[i]:=by simp [lk,List.getD_eq_getElem?_getD,hi]
    have:=Zc0 (r.links i hi).1
    rw [e] at this
    exact ⟨r.toMk.node.1 this.1,r.toMk.node.1 this.2.1⟩) (fun j=>by rw [hz];omega) (by have:=r.l24;omega) x
   rw [this,hz]
   unfold cntA
   omega
  have hB0:cntB t.Links x=0:=by
   unfold cntB
   rw [List.countP_eq_zero]
   intro k hk
   obtain ⟨i,hi,rfl⟩:=List.getElem_of_mem hk
   have e:lk t i=t.Links[i]:=by simp [lk,List.getD_eq_getElem?_getD,hi]
   have:=r.ends i hi
   rw [e] at this
   simp;omega
  have:=hc (x - b) (by omega)
  rw [show ((b+(x - b):Nat):Int)=(x:Int) by omega] at this
  rw [decide_eq_true hxb,hd,hB0,decide_eq_true (by omega),decide_eq_true (by omega)]
  rfl
 ·rw [decide_eq_false hxb];rfl
theorem Row.port (r:Row b n (b - 1) (n - b) t) (hb:1≤b) (hbn:b+1≤n) {x:Int} (h0:0≤x) (hx:x<n):∃ k,k<t.Links.length∧((lk t k).A=x∨(lk t k).B=x):=by
 have hlen:=r.len
 by_cases hxb:x<b
 ·by_cases hx1:x.toNat<b - 1
  ·exact ⟨x.toNat,by omega,.inl (by rw [(r.chain x.toNat hx1).1];omega)⟩
  ·by_cases hb1:b=1
   ·
    have h1:=r.home 0 (by omega)
    have h2:=r.ends (b - 1+0) (by omega)
    have h3:=Zc0 (r.links (b - 1+0) (by omega)).1
    have h4:=r.toMk.node.1 h3.2.1
    exact ⟨b - 1+0,by omega,.inr (by omega)⟩
   ·have:=r.chain (b - 2) (by omega)
    exact ⟨b - 2,by omega,.inr (by rw [this.2];omega)⟩
 ·have:=r.home (x.toNat - b) (by omega)
  exact ⟨b - 1+(x.toNat - b),by omega,.inl (by rw [this];omega)⟩
end
theorem ZpB {N:Nat} {d:Zae} (hd:DOK d) (hN:200≤N):∃ t,ZbW N d=some t∧Good t∧∀ x:Int,0≤x→x<t.Nodes→∃ k,k<t.Links.length∧((lk t k).A=x∨(lk t k).B=x):=by
 obtain ⟨_,b2,b3⟩:=Zk4 hd
 obtain ⟨_,s2,s3⟩:=Zj8 hd
 obtain ⟨t,e,r,c⟩:=Zqr (N:=N) hd hN
 have hr:Row (brs d) (brs d+sts d) (brs d - 1) (brs d+sts d - brs d) t:=by rw [show brs d+sts d - brs d=sts d by omega];exact r
 refine ⟨t,e,hr.good b2 (by omega) (by omega) (fun s hs=>c s (by omega)),fun x h0 hx => ?_⟩
 rw [r.nodes] at hx
 exact hr.port b2 (by omega) h0 hx
end Go.Sh

set_option linter.unusedVariables false
set_option linter.unusedSimpArgs false
namespace Go.Sh
open Go Go.Eng
section
variable {N:Nat} {t:Zh}
theorem Zls (g:Good t) (x:Int) (hN:200≤N):Zd8 N t x=some (PF (fun p=>frm t p==x) (2 * t.Links.length)):=by
 have h24:=g.l24
 unfold Zd8
 have:=ZdJ (n:=2 * t.Links.length) (f:=fun b k=>PF (fun p=>frm t p==x) (k+1)) (body:=fun y:Int × (List Int)=>Zbq N t x y.1 y.2) (fin:=fun b=>b) (fun k b=>b=PF (fun p=>frm t p==x) k)
  (fun k b hk hb=>by
   show Zbq N t x k b=_
   unfold Zbq
   subst hb
   have:=ZrB (fun p=>frm t p==x) k
   have hp:ZbS t (k:Int)=true:=by simp only [ZbS,Bool.and_eq_true,decide_eq_true_eq];omega
   rw [if_pos (by rw [ZP (by omega) (by omega)];simp;omega),Zdf (by omega) hp,Option.bind_some,ZqF,ZT (by omega)]
   cases (frm t (k:Int)==x) with
   | false=>rfl
   | true=>simp only [if_true];rw [Zf2 (by rw [List.length_singleton];omega) (by omega)];rfl)
  (fun k b hk hb=>rfl)
  (fun b hb=>by show Zbq N t x ((2 * t.Links.length:Nat):Int) b=_;unfold Zbq;rw [if_neg (by rw [ZP (by omega) (by omega)];simp)]) (N:=N) (by omega) (b0:=[]) rfl
 rw [this.1,Option.bind_some,this.2]
theorem ZpV (g:Good t) {seen Q:List Int} (hs:seen.length≤100) (hQ:Q.length≤100) (hp:∀ p ∈ Q,ZbS t p=true) (hN:200≤N) :
  Z2 (fun x:Int × (List Int)=>Za7 N t seen Q x.1 x.2) N (0,[])=some (Q.filter fun p => !seen.contains (too t p)):=by
 have hL:t.Links.length≤1000:=by have:=g.l24;omega
 have:=ZdJ (n:=Q.length) (f:=fun b k=>(Q.take (k+1)).filter fun p => !seen.contains (too t p)) (body:=fun x:Int × (List Int)=>Za7 N t seen Q x.1 x.2) (fin:=fun b=>b) (fun k b=>b=(Q.take k).filter fun p => !seen.contains (too t p))
  (fun k b hk hb=>by
   show Za7 N t seen Q k b=_
   unfold Za7
   subst hb
   have hlen:((Q.take k).filter fun p => !seen.contains (too t p)).length≤100:=Nat.le_trans (List.length_filter_le _ _) (by simp;omega)
   have htk:Q.take (k+1)=Q.take k++[Q[k]]:=by rw [List.take_append_getElem]
   rw [if_pos (by simp;omega),Zcz hk,Option.bind_some,ZdC hL (hp _ (List.getElem_mem hk)),Option.bind_some,ZhW (by omega) (by omega),Option.bind_some,htk,List.filter_append,ZT (by omega)]
   cases hc:seen.contains (too t Q[k]) with
   | true =>
    have:[Q[k]].filter (fun p => !seen.contains (too t p))=[]:=by rw [List.filter_cons_of_neg (by rw [hc];simp)];rfl
    rw [this,List.append_nil]
    rfl
   | false =>
    have:[Q[k]].filter (fun p => !seen.contains (too t p))=[Q[k]]:=by rw [List.filter_cons_of_pos (by rw [hc];rfl)];rfl
    rw [this]
    simp only [Bool.not_false,if_true,Option.bind_some]
    rw [Zf2 (by rw [List.length_singleton];omega) (by omega)]
    rfl)
  (fun k b hk hb=>rfl)
  (fun b hb=>by show Za7 N t seen Q Q.length b=_;unfold Za7;rw [if_neg (by simp)]) (N:=N) (by omega) (b0:=[]) (by simp)
 rw [this.1,this.2,List.take_length]
theorem Zjb {r:List Int} {p:Int} {k:Nat}:at0 (r++[p]) k=if k<r.length then at0 r k else if k=r.length then p else 0:=by
 unfold at0
 simp only [List.getD_eq_getElem?_getD]
 by_cases h:k<r.length
 ·rw [if_pos h,List.getElem?_append_left h]
 ·rw [if_neg h,List.getElem?_append_right (by omega)]
  by_cases e:k=r.length
  ·subst e;simp
  ·rw [if_neg e]
   cases hh:k - r.length with
   | zero=>omega
   | succ m=>simp
theorem Zpf {r:List Int} {p m:Int} (hm:r ≠ []→frm t (at0 r 0)=m) (h0:r=[]→frm t p=m):Zah t (r++[p])=(m::r.map (too t))++[too t p]:=by
 unfold Zah
 rw [Zjb,List.map_append]
 by_cases h:r=[]
 ·subst h
  simp [h0 rfl]
 ·have:0<r.length:=List.length_pos_iff.2 h
  rw [if_pos this,hm h]
  rfl
theorem Zp6 {r:List Int} {p m:Int} (hm:r ≠ []→frm t (at0 r 0)=m) (h0:r=[]→frm t p=m) (hok:∀ k,k<r.length→okAt t r k=true) (hp:ZbS t p=true)
  (hf:frm t p=(m::r.map (too t)).getD r.length 0) (hst:r ≠ []→stB t (frm t p)=false) (hnew:(m::r.map (too t)).contains (too t p)=false):∀ k,k<(r++[p]).length→okAt t (r++[p]) k=true:=by
 have hN:=Zpf (t:=t) hm h0
 have hlen:(m::r.map (too t)).length=r.length+1:=by simp
 have hnd:∀ k,k≤r.length→nd t (r++[p]) k=(m::r.map (too t)).getD k 0:=fun k hk=>by
  unfold nd
  rw [hN,List.getD_eq_getElem?_getD,List.getElem?_append_left (by omega),List.getD_eq_getElem?_getD]
 have hlast:nd t (r++[p]) (r.length+1)=too t p:=by
  unfold nd
  rw [hN,List.getD_eq_getElem?_getD,List.getElem?_append_right (by omega)]
  simp
 have hold:r ≠ []→Zah t r=m::r.map (too t):=fun h=>by unfold Zah;rw [hm h]
 intro k hk
 simp only [List.length_append,List.length_singleton] at hk
 unfold okAt
 rw [Zjb]
 by_cases hlt:k<r.length
 ·have hne:r ≠ []:=by intro e;subst e;simp at hlt
  rw [if_pos hlt]
  have:=hok k hlt
  unfold okAt at this
  have e1:nd t (r++[p]) k=nd t r k:=by rw [hnd k (by omega)];unfold nd;rw [hold hne]
  have e2:nd t (r++[p]) (k+1)=nd t r (k+1):=by rw [hnd (k+1) (by omega)];unfold nd;rw [hold hne]
  have e3:(Zah t (r++[p])).take (k+1)=(Zah t r).take (k+1):=by rw [hN,hold hne,List.take_append_of_le_length (by omega)]
  rw [e1,e2,e3]
  exact this
 ·obtain rfl:k=r.length:=by omega
  rw [if_neg hlt,if_pos rfl,hlast,hnd _ (Nat.le_refl _),← hf,hp,hN,List.take_append_of_le_length (by omega),List.take_of_length_le (by omega),hnew]
  by_cases h:r=[]
  ·subst h;rfl
  ·rw [hst h];simp
theorem Zo9 (g:Good t) (hdeg:∀ x:Int,0≤x→x<t.Nodes→∃ k,k<t.Links.length∧((lk t k).A=x∨(lk t k).B=x)) {n k:Int} (hn:Byte n) (hk:Byte k) (hN:200≤N):∃ r,ZfV N t n k=some r∧ZaE t r=true:=by
 have hL:t.Links.length≤1000:=by have:=g.l24;omega
 have h24:=g.l24
 have hn2:=g.n2
 obtain ⟨n0,n1⟩:=hn
 obtain ⟨k0,k1⟩:=hk
 unfold ZfV
 rw [ZP (by omega) (by omega)]
 obtain ⟨m,m1,m2,m3⟩:=Zet (v:=n) (b:=t.Nodes) n0 (by omega)
 rw [m1,Option.bind_some]
 have key:∃ o,Z2 (fun x:Int × (List Int) × (List Int)=>Zb2 N t k x.1 x.2.1 x.2.2) N (m,[m],[])=some o∧∃ r,(o = .inl r∨o = .inr r)∧ZaE t r=true:=by
  refine Zb4 (I:=fun x:Int × List Int × List Int=>x.2.2.length≤8∧x.2.1=m::x.2.2.map (too t)∧x.1=x.2.1.getD x.2.2.length 0∧(x.2.2 ≠ []→frm t (at0 x.2.2 0)=m)∧(∀ j,j<x.2.2.length→okAt t x.2.2 j=true)∧ZdK t x.1=true)
   (μ:=fun x=>8 - x.2.2.length) (Post:=fun o:List Int ⊕ List Int=>∃ r,(o = .inl r∨o = .inr r)∧ZaE t r=true) ?_ N (m,[m],[]) ⟨by simp,by simp,by simp,fun h=>absurd rfl h,fun j hj=>by simp at hj,Zf0.2 ⟨m2,m3⟩⟩ (by simp;omega)
  rintro ⟨a,seen,out⟩ ⟨i1,i2,i3,i4,i5,i6⟩
  simp only at i1 i2 i3 i4 i5 i6
  have hval:out ≠ []→ZaE t out=true:=fun h=>by
   have:0<out.length:=List.length_pos_iff.2 h
   simp only [ZaE,Bool.and_eq_true,decide_eq_true_eq,Zba]
   exact ⟨this,i1,i5⟩
  have hcond:(if decide (((List.length out:Nat):Int)<8)=true then if (((List.length out:Nat):Int)==0)=true then some true else (idx t.Station a).bind fun e517=>some (!e517) else some false)=some (decide (out.length<8)&&(decide (out.length=0) || !stB t a)):=by
   rw [ZeF g.st i6]
   by_cases h8:out.length<8
   ·rw [if_pos (by simp;omega),decide_eq_true h8]
    by_cases h0:out.length=0
    ·rw [if_pos (by simp [h0]),decide_eq_true h0];rfl
    ·rw [if_neg (by simp;intro e;rw [e] at h0;exact h0 rfl),decide_eq_false h0];rfl
   ·rw [if_neg (by simp;omega),decide_eq_false h8];rfl
  have hseen:seen.length=out.length+1:=by rw [i2];simp
  have hbody:Zb2 N t k a seen out=(some (decide (out.length<8)&&(decide (out.length=0) || !stB t a))).bind fun j=>if j=true then (Zd8 N t a).bind fun r521=>(Z2 (fun x:Int × (List Int)=>Za7 N t seen r521 x.1 x.2) N (0,[])).bind fun o1547 =>
    if (((List.length o1547:Nat):Int)==0)=true then some (.inr (.inr out)) else (remI (w64 (w64 k+w64 (3 * ((List.length out:Nat):Int)))) ((List.length o1547:Nat):Int)).bind fun m1552=>(idx o1547 m1552).bind fun e1553=>(appI 8 out [e1553]).bind fun l1558=>(ZcP N t e1553).bind fun r1559=>(appI 8 seen [r1559]).bind fun l1562=>some (.inl (r1559,l1562,l1558))
    else some (.inr (.inl out)):=by
   unfold Zb2
   rw [hcond]
  show (∃ y,Zb2 N t k a seen out=some (.inl y)∧_∧_)∨_
  rw [hbody,Option.bind_some]
  cases hj:(decide (out.length<8)&&(decide (out.length=0) || !stB t a)) with
  | false =>
   right
   refine ⟨_,rfl,out,.inl rfl,hval fun e => ?_⟩
   subst e
   simp at hj
  | true =>
   simp only [Bool.and_eq_true,decide_eq_true_eq,Bool.or_eq_true,Bool.not_eq_true'] at hj
   have hpq:∀ p,p ∈ PF (fun p=>frm t p==a) (2 * t.Links.length)↔ZbS t p=true∧frm t p=a:=fun p=>by
    rw [PF_mem,beq_iff_eq]
    simp only [ZbS,Bool.and_eq_true,decide_eq_true_eq]
    constructor
    ·rintro ⟨h1,h2,h3⟩;exact ⟨⟨h1,by omega⟩,h3⟩
    ·rintro ⟨⟨h1,h2⟩,h3⟩;exact ⟨h1,by omega,h3⟩
   have hql:=ZrB (fun p=>frm t p==a) (2 * t.Links.length)
   rw [if_pos rfl,Zls g a hN,Option.bind_some,ZpV g (by omega) (by omega) (fun p hp=>((hpq p).1 hp).1) hN,Option.bind_some]
   have hmem:∀ p,p ∈ (PF (fun p=>frm t p==a) (2 * t.Links.length)).filter (fun p => !seen.contains (too t p))↔ZbS t p=true∧frm t p=a∧seen.contains (too t p)=false:=fun p=>by
    rw [List.mem_filter,hpq,Bool.not_eq_true',and_assoc]
   have hll:((PF (fun p=>frm t p==a) (2 * t.Links.length)).filter (fun p => !seen.contains (too t p))).length≤100:=Nat.le_trans (List.length_filter_le _ _) (by omega)
   generalize (PF (fun p=>frm t p==a) (2 * t.Links.length)).filter (fun p => !seen.contains (too t p))=next at hmem hll
   by_cases hz:next.length=0
   ·right
    rw [if_pos (by simp [hz])]
    refine ⟨_,rfl,out,.inr rfl,hval fun e => ?_⟩
    subst e
    have ham:a=m:=by rw [i3,i2];rfl
    obtain ⟨q,hq1,hq2⟩:=hdeg m m2 m3
    have hlink:=Zc0 (g.links q hq1).1
    have hx:∃ p,ZbS t p=true∧frm t p=m∧too t p ≠ m:=by
     rcases hq2 with h | h
     ·refine ⟨2 * (q:Int),by simp only [ZbS,Bool.and_eq_true,decide_eq_true_eq];omega,?_,?_⟩
      ·unfold frm plk
       rw [show Int.tmod (2 * (q:Int)) 2=0 by rw [Int.tmod_eq_emod_of_nonneg (by omega)];omega,show (Int.tdiv (2 * (q:Int)) 2).toNat=q by rw [Int.tdiv_eq_ediv_of_nonneg (by omega)];omega]
       simpa [lk] using h
      ·unfold too plk
       rw [show Int.tmod (2 * (q:Int)) 2=0 by rw [Int.tmod_eq_emod_of_nonneg (by omega)];omega,show (Int.tdiv (2 * (q:Int)) 2).toNat=q by rw [Int.tdiv_eq_ediv_of_nonneg (by omega)];omega]
       have:(lk t q).B ≠ m:=fun e=>hlink.2.2 (by rw [h,e])
       simpa [lk] using this
     ·refine ⟨2 * (q:Int)+1,by simp only [ZbS,Bool.and_eq_true,decide_eq_true_eq];omega,?_,?_⟩
      ·unfold frm plk
       rw [show Int.tmod (2 * (q:Int)+1) 2=1 by rw [Int.tmod_eq_emod_of_nonneg (by omega)];omega,show (Int.tdiv (2 * (q:Int)+1) 2).toNat=q by rw [Int.tdiv_eq_ediv_of_nonneg (by omega)];omega]
       simpa [lk] using h
      ·unfold too plk
       rw [show Int.tmod (2 * (q:Int)+1) 2=1 by rw [Int.tmod_eq_emod_of_nonneg (by omega)];omega,show (Int.tdiv (2 * (q:Int)+1) 2).toNat=q by rw [Int.tdiv_eq_ediv_of_nonneg (by omega)];omega]
       have:(lk t q).A ≠ m:=fun e=>hlink.2.2 (by rw [h,e])
       simpa [lk] using this
    obtain ⟨p,p1,p2,p3⟩:=hx
    have:p ∈ next:=(hmem p).2 ⟨p1,by rw [ham];exact p2,by rw [i2];simp [p3]⟩
    rw [List.eq_nil_of_length_eq_zero hz] at this
    cases this
   ·left
    rw [if_neg (by simp;intro e;rw [e] at hz;exact hz rfl)]
    have hv:0≤w64 (w64 k+w64 (3 * ((List.length out:Nat):Int))):=by
     rw [ZP (x:=k) (by omega) (by omega),ZP (x:=3 * ((List.length out:Nat):Int)) (by omega) (by omega),ZP (by omega) (by omega)];omega
    obtain ⟨q,q1,q2,q3⟩:=Zet (b:=((List.length next:Nat):Int)) hv (by omega)
    rw [q1,Option.bind_some,ZlO q2 (by omega),Option.bind_some]
    have hin:next[q.toNat]'(by omega) ∈ next:=List.getElem_mem _
    generalize next[q.toNat]'(by omega)=p at hin
    obtain ⟨p1,p2,p3⟩:=(hmem p).1 hin
    rw [Zf2 (by simp;omega) (by omega),Option.bind_some,ZdC hL p1,Option.bind_some,Zf2 (by simp;omega) (by omega),Option.bind_some]
    have hne:=Zfc g p1
    have hlen1:(out++[p]).length=out.length+1:=by simp
    refine ⟨_,rfl,⟨?_,?_,?_,?_,?_,hne.2.1⟩,?_⟩
    ·simp only;omega
    ·simp only;rw [i2];simp
    ·simp only
     rw [hlen1,List.getD_eq_getElem?_getD,List.getElem?_append_right (by omega)]
     simp [hseen]
    ·simp only
     intro _
     rw [Zjb]
     by_cases h0:0<out.length
     ·rw [if_pos h0];exact i4 (List.length_pos_iff.1 h0)
     ·have:out=[]:=List.eq_nil_of_length_eq_zero (by omega)
      subst this
      rw [if_neg (by simp),if_pos (by simp),p2,i3,i2]
      rfl
    ·simp only
     refine Zp6 i4 (fun h => ?_) i5 p1 ?_ (fun h => ?_) ?_
     ·subst h;rw [p2,i3,i2];rfl
     ·rw [p2,i3,i2]
     ·rw [p2]
      rcases hj.2 with h' | h'
      ·exact absurd (List.eq_nil_of_length_eq_zero h') h
      ·exact h'
     ·rw [← i2];exact p3
    ·simp only;omega
 obtain ⟨o,o1,r,o2,o3⟩:=key
 rw [o1,Option.bind_some]
 rcases o2 with rfl | rfl
 ·exact ⟨r,rfl,o3⟩
 ·exact ⟨r,rfl,o3⟩
end
end Go.Sh

set_option linter.unusedVariables false
set_option linter.unusedSimpArgs false
namespace Go.Sh
open Go Go.Eng
theorem Zma (x:Int):Byte (IntKind.u8.wrap x):=by
 unfold Byte IntKind.wrap
 simp only [IntKind.bits,IntKind.signed]
 have h1:=Int.emod_nonneg x (show (2 ^ 8:Int) ≠ 0 by decide)
 have h2:=Int.emod_lt_of_pos x (show (0:Int)<2 ^ 8 by decide)
 simp only [Bool.false_and,Bool.false_eq_true,if_false]
 constructor<;>omega
section
variable {N:Nat} {t:Zh} {s:Zj}
theorem ZoL {r:List Int} (h1:1≤r.length) (h:r.length≤100):idx r (w64 (((List.length r:Nat):Int) - 1))=some (at0 r (r.length - 1)):=by
 rw [ZP (by omega) (by omega),show ((List.length r:Nat):Int) - 1=((r.length - 1:Nat):Int) by omega,Zcz (by omega),Zix (by omega)]
theorem Zon {r:List Int} (h1:1≤r.length):idx r 0=some (at0 r 0):=by
 rw [show (0:Int)=((0:Nat):Int) from rfl,Zcz (by omega),Zix (by omega)]
theorem nd_last {r:List Int} (h1:1≤r.length):nd t r r.length=too t (at0 r (r.length - 1)):=by
 have:=ZfI (t:=t) (r:=r) (k:=r.length - 1) (by omega)
 rwa [show r.length - 1+1=r.length by omega] at this
theorem Zln (g:Good t) (s:Zj) (r:List Int) (hN:200≤N) :
  ((Zca N t r).bind fun r530=>(if (!r530) then (some true) else ((idx r 0).bind fun e533=>((ZbV N t e533).bind fun r534=>(if (r534 != s.Talker) then (some true) else ((idx r (w64 (((List.length r:Nat):Int) - 1))).bind fun e537=>((ZcP N t e537).bind fun r538=>(some (r538 != s.Listener)))))))))=some (!ZeV t s r):=by
 have hL:t.Links.length≤1000:=by have:=g.l24;omega
 rw [ZgY g r hN,Option.bind_some]
 unfold ZeV
 cases hv:ZaE t r with
 | false=>rfl
 | true =>
  obtain ⟨h1,h8,hp⟩:=Zb3 hv
  simp only [Bool.not_true,Bool.false_eq_true,if_false]
  rw [Zon h1,Option.bind_some,Zdf hL (hp 0 (by omega)),Option.bind_some,ZoL h1 (by omega),Option.bind_some,ZdC hL (hp _ (by omega)),Option.bind_some,nd_zero,nd_last h1]
  by_cases e:frm t (at0 r 0)=s.Talker
  ·have:(frm t (at0 r 0) != s.Talker)=false:=by simp [e]
   rw [this]
   simp only [Bool.false_eq_true,if_false,e,beq_self_eq_true,Bool.true_and]
   rfl
  ·have:(frm t (at0 r 0) != s.Talker)=true:=by simp [e]
   rw [this]
   simp only [if_true,beq_eq_false_iff_ne.2 e,Bool.false_and,Bool.and_false,Bool.not_false]
theorem Zkr (g:Good t) {s:Zj} (hl:s.Routes.length≤2) (hN:200≤N):Z2 (fun x:Int=>ZbF N t s x) N 0=some (if s.Routes.all (ZeV t s) then .inl () else .inr false):=by
 have:=Zbl (n:=s.Routes.length) (p:=fun k=>ZeV t s (s.Routes.getD k [])) (body:=fun x:Int=>ZbF N t s x) (bad:=.inr false) (fin:=.inl ()) (fun k hk=>by
  unfold ZbF
  rw [if_pos (by simp;omega),Zcz hk,Option.bind_some,Zc4 hk,Zln g s _ hN,Option.bind_some,ZT (by omega)]
  cases ZeV t s s.Routes[k]<;>rfl) (by unfold ZbF;rw [if_neg (by simp)]) (N:=N) (by omega)
 rw [this,Zla s.Routes [] (ZeV t s)]
theorem Zn6 (g:Good t) {s:Zj} (hl:s.Routes.length≤2) (hN:200≤N):Z2 (fun x:Int=>Zdo N t s x) N 0=some (if s.Routes.all (ZeV t s) then .inl () else .inr false):=Zkr g hl hN
theorem Zpc (g:Good t) {s:Zj} (hl:lenB s=true) (hr:s.Routes.all (ZeV t s)=true) (hN:200≤N) :
  (if (((List.length s.Routes:Nat):Int)==1) then (some true) else ((idx s.Routes 0).bind fun e545=>((idx s.Routes 1).bind fun e546=>((Zcu N t e545 e546).bind fun r547=>(some r547)))))=some (Zoa t s):=by
 simp only [lenB,Bool.and_eq_true,decide_eq_true_eq] at hl
 unfold Zoa
 by_cases h2:s.Routes.length<2
 ·rw [if_pos (by simp;omega)];simp [h2]
 ·rw [if_neg (by simp;omega),show (0:Int)=((0:Nat):Int) from rfl,show (1:Int)=((1:Nat):Int) from rfl,Zcz (by omega),Zcz (by omega)]
  simp only [Option.bind_some]
  have e0:=ZfU hr (k:=0) (by omega)
  have e1:=ZfU hr (k:=1) (by omega)
  rw [Zc4 (by omega)] at e0 e1
  rw [ZhM g e0.1 e1.1 hN,Option.bind_some,Zc4 (by omega),Zc4 (by omega)]
  simp [h2]
theorem Zlp (g:Good t) (s:Zj) (hN:200≤N):Ze7 N t s=some (ZaI t s):=by
 have head:((Zdb N s.Id 1 4095).bind fun r1=>(if (!r1) then (some true) else ((Zb0 N t s.Talker).bind fun r4=>(if (!r4) then (some true) else ((Zb0 N t s.Listener).bind fun r7=>(if (!r7) then (some true) else (if (s.Talker==s.Listener) then (some true) else ((Zdb N s.Size 84 1542).bind fun r12=>(if (!r12) then (some true) else ((Zdb N s.Deadline 1 1099511627776).bind fun r15=>(some (!r15))))))))))))=some (!Zol t s):=by
  simp only [ZhU,ZjI g,Option.bind_some]
  unfold Zol
  cases inB s.Id 1 4095<;>cases Zld t s.Talker<;>cases Zld t s.Listener<;>cases h4:(s.Talker==s.Listener)<;>cases inB s.Size 84 1542<;>cases inB s.Deadline 1 1099511627776<;>simp [bne,h4]
 have rest:∀ L:Option (Unit ⊕ Bool),(s.Routes.length≤2→L=some (if s.Routes.all (ZeV t s) then .inl () else .inr false))→(if ((decide (((List.length s.Routes:Nat):Int)<1))||(decide (((List.length s.Routes:Nat):Int) > 2))) then (some false) else (L.bind fun o541=>match o541 with
   | (.inl p542)=>(((if (((List.length s.Routes:Nat):Int)==1) then (some true) else ((idx s.Routes 0).bind fun e545=>((idx s.Routes 1).bind fun e546=>((Zcu N t e545 e546).bind fun r547=>(some r547)))))).bind fun (j548:Bool)=>(some j548))
   | (.inr p549)=>(some p549)))=some (lenB s&&(s.Routes.all (ZeV t s)&&Zoa t s)):=by
  intro L hL
  cases hl:lenB s with
  | false =>
   rw [if_pos]
   ·rfl
   ·rw [Bool.eq_false_iff] at hl
    simp only [lenB,ne_eq,Bool.and_eq_true,decide_eq_true_eq] at hl
    simp only [Bool.or_eq_true,decide_eq_true_eq]
    omega
  | true =>
   have hl':=hl
   simp only [lenB,Bool.and_eq_true,decide_eq_true_eq] at hl'
   rw [if_neg (by simp only [Bool.or_eq_true,decide_eq_true_eq];omega),hL hl'.2]
   cases hr:s.Routes.all (ZeV t s) with
   | false=>rfl
   | true =>
    simp only [if_true,Option.bind_some]
    rw [Zpc g hl hr hN]
    rfl
 unfold Ze7
 rw [head,Option.bind_some]
 unfold ZaI
 cases hh:Zol t s with
 | false=>rfl
 | true =>
  simp only [Bool.not_true,Bool.false_eq_true,if_false,Bool.true_and]
  unfold ZlX
  simp only [ZhU,Option.bind_some]
  by_cases c7:(s.Class==7)=true
  ·rw [if_pos c7,if_pos c7]
   have r1:=rest _ (fun h=>Zkr g h hN)
   cases inB s.Period 1 240 with
   | false=>rfl
   | true=>cases (s.Bucket.Burst==0) with
    | false=>rfl
    | true=>cases (s.Bucket.Rate==0) with
     | false=>rfl
     | true=>exact r1
  ·rw [if_neg c7,if_neg c7]
   by_cases c6:(s.Class==6)=true
   ·rw [if_pos c6,if_pos c6]
    have r2:=rest _ (fun h=>Zn6 g h hN)
    unfold bne
    cases (s.Period==0) with
    | false=>rfl
    | true=>cases inB s.Bucket.Burst s.Size 1048576 with
     | false=>rfl
     | true=>cases inB s.Bucket.Rate 1 2097152 with
      | false=>rfl
      | true=>exact r2
   ·rw [if_neg c6,if_neg c6];rfl
structure SDOK (d:ZaB):Prop where
 node:Byte d.Node
 way:Byte d.Way
 size:Byte d.Size
 period:Byte d.Period
 burst:Byte d.Burst
 rate:0≤d.Rate∧d.Rate≤65535
def ZqG (t:Zh):Prop:=∀ x:Int,0≤x→x<t.Nodes→∃ k,k<t.Links.length∧((lk t k).A=x∨(lk t k).B=x)
theorem ZgW (g:Good t) (hdeg:ZqG t) {n k:Int} (hn:Byte n) (hk:Byte k) (hN:200≤N):∃ r,ZeX N t n k=some r∧(r=[]∨ZaE t r=true):=by
 have hL:t.Links.length≤1000:=by have:=g.l24;omega
 unfold ZeX
 obtain ⟨o,o1,o2⟩:=Zb4 (body:=fun x:Int=>Zdc N t n k x) (I:=fun x:Int=>∃ j:Nat,x=j∧j≤16) (μ:=fun x=>16 - x.toNat) (Post:=fun o:Unit ⊕ List Int=>o = .inl ()∨∃ r,o = .inr r∧ZaE t r=true) (by
  rintro x ⟨j,rfl,hj⟩
  simp only [Zdc]
  by_cases h16:j<16
  ·rw [if_pos (by simp;omega)]
   obtain ⟨r,r1,r2⟩:=Zo9 (N:=N) g hdeg hn (Zma (k+IntKind.u8.wrap (j:Int))) hN
   obtain ⟨h1,h8,hp⟩:=Zb3 r2
   have p0:=hp 0 (by omega)
   have pl:=hp (r.length - 1) (by omega)
   rw [r1,Option.bind_some,if_pos (by simp;omega),ZgY g r hN,r2,Option.bind_some,if_pos rfl,Zon h1,Option.bind_some,Zdf hL p0,Option.bind_some,ZeF g.st (Zfc g p0).1,Option.bind_some,ZoL h1 (by omega),Option.bind_some,ZdC hL pl,Option.bind_some,
    ZeF g.st (Zfc g pl).2.1,Option.bind_some]
   have hne:neL r=some ():=by
    cases r with
    | nil=>simp at h1
    | cons a l=>rfl
   cases hc:(if stB t (frm t (at0 r 0))=true then some (stB t (too t (at0 r (r.length - 1)))) else some false) with
   | none=>split at hc<;>cases hc
   | some b =>
    rw [Option.bind_some]
    cases b with
    | true=>right;exact ⟨_,by rw [if_pos rfl,hne];rfl,.inr ⟨r,rfl,r2⟩⟩
    | false=>left;exact ⟨_,by rw [if_neg (by decide),ZT (by omega)],⟨j+1,rfl,by omega⟩,by simp;omega⟩
  ·right
   exact ⟨_,by rw [if_neg (by simp;omega)],.inl rfl⟩) N 0 ⟨0,rfl,by omega⟩ (by simp;omega)
 rw [o1,Option.bind_some]
 rcases o2 with rfl | ⟨r,rfl,hr⟩
 ·exact ⟨[],rfl,.inl rfl⟩
 ·exact ⟨r,rfl,.inr hr⟩
theorem Zgf (g:Good t) (hdeg:ZqG t) {d:ZaB} (hd:SDOK d) (id:Int) (hN:200≤N):∃ x b,Zb1 N d t id=some (x,b)∧(b=true→ZaI t x=true∧x.Id=id):=by
 have hL:t.Links.length≤1000:=by have:=g.l24;omega
 have hn2:=g.n2
 have hn12:=g.n12
 unfold Zb1
 rw [ZP (x:=d.Node) (by have:=hd.node.1;omega) (by have:=hd.node.2;omega)]
 obtain ⟨m,m1,m2,m3⟩:=Zet (v:=d.Node) (b:=t.Nodes) hd.node.1 (by omega)
 rw [m1,Option.bind_some]
 obtain ⟨o,o1,o2⟩:=Zb4 (body:=fun x:Int × Int=>Za1 N t x.1 x.2) (I:=fun x:Int × Int=>(0≤x.1∧x.1<t.Nodes)∧0≤x.2∧x.2≤t.Nodes) (μ:=fun x=>(t.Nodes - x.2).toNat) (Post:=fun o:Int=>0≤o∧o<t.Nodes) (by
  rintro ⟨a,i⟩ ⟨⟨a0,a1⟩,i0,i1⟩
  simp only at a0 a1 i0 i1
  simp only [Za1]
  by_cases hi:i<t.Nodes
  ·rw [if_pos (by simp;omega),ZeF g.st (Zf0.2 ⟨a0,a1⟩),Option.bind_some,Option.bind_some]
   cases stB t a with
   | true=>right;exact ⟨a,by rfl,a0,a1⟩
   | false =>
    left
    obtain ⟨q,q1,q2,q3⟩:=Zet (v:=a+1) (b:=t.Nodes) (by omega) (by omega)
    rw [if_pos (by simp),ZP (by omega) (by omega),q1,Option.bind_some,ZP (by omega) (by omega)]
    exact ⟨_,rfl,⟨⟨q2,q3⟩,by simp only;omega,by simp only;omega⟩,by simp only;omega⟩
  ·right
   rw [if_neg (by simp;omega)]
   exact ⟨a,rfl,a0,a1⟩) N (m,0) ⟨⟨m2,m3⟩,by simp,by simp only;omega⟩ (by simp only;omega)
 rw [o1,Option.bind_some]
 obtain ⟨r,r1,r2⟩:=ZgW (N:=N) g hdeg (Zma o) hd.way hN
 rw [r1,Option.bind_some]
 rcases r2 with rfl | r2
 ·exact ⟨_,_,rfl,fun h=>by cases h⟩
 ·obtain ⟨h1,h8,hp⟩:=Zb3 r2
  have hne:¬ List.isEmpty r=true:=by cases r with
   | nil=>simp at h1
   | cons a l=>simp
  rw [if_neg hne,Zon h1,Option.bind_some,Zdf hL (hp 0 (by omega)),Option.bind_some,ZoL h1 (by omega),Option.bind_some,ZdC hL (hp _ (by omega)),Option.bind_some]
  have hj:∃ j:Int × Int × Int × Int,(if d.Reserved=true then some ((6:Int),(0:Int),w64 (w64 (84+w64 d.Size)+w64 (4 * w64 d.Burst)),w64 (1+w64 d.Rate)) else (idx [4,6,8,12,16,24,48,10,5,240] (Int.tmod d.Period 10)).bind fun e1021=>some (7,e1021,0,0))=some j:=by
   by_cases hr:d.Reserved=true
   ·rw [if_pos hr];exact ⟨_,rfl⟩
   ·rw [if_neg hr]
    have hm:Int.tmod d.Period 10=d.Period % 10:=Int.tmod_eq_emod_of_nonneg hd.period.1
    rw [hm,ZlO (Int.emod_nonneg _ (by decide)) (by have:=Int.emod_lt_of_pos d.Period (show (0:Int)<10 by decide);simp only [List.length_cons,List.length_nil];omega)]
    exact ⟨_,rfl⟩
  obtain ⟨j,j1⟩:=hj
  rw [j1,Option.bind_some]
  obtain ⟨o',p1,p2⟩:=Zb4 (body:=fun x:Int × (List (List Int))=>Za0 N d t o r (too t (at0 r (r.length - 1))) x.1 x.2) (I:=fun x:Int × List (List Int)=>∃ k:Nat,x.1=k∧k≤24∧x.2.length≤k+1) (μ:=fun x=>24 - x.1.toNat) (Post:=fun _:List (List Int)=>True) (by
   rintro ⟨a,l⟩ ⟨k,rfl,hk,hl⟩
   simp only at hl
   simp only [Za0]
   cases hc:(if decide ((k:Int)<24)=true then if d.Two=true then some (((List.length l:Nat):Int)==1) else some false else some false) with
   | none=>split at hc;split at hc;all_goals cases hc
   | some b =>
    rw [Option.bind_some]
    cases b with
    | false=>right;exact ⟨l,rfl,trivial⟩
    | true =>
     left
     have hk24:k<24:=by
      by_cases h:k<24
      ·exact h
      ·rw [if_neg (by simp;omega)] at hc;cases hc
     rw [if_pos rfl]
     obtain ⟨q,q1,q2⟩:=ZgW (N:=N) g hdeg (Zma o) (Zma (d.Way+IntKind.u8.wrap (k:Int))) hN
     rw [q1,Option.bind_some]
     have fin:∀ (X:Option (List (List Int))) (l':List (List Int)),X=some l'→l'.length≤k+1+1→∃ y,(X.bind fun j2037=>some (Sum.inl (β:=List (List Int)) (w64 ((k:Int)+1),j2037)))=some (Sum.inl (β:=List (List Int)) y)∧(∃ k_1:Nat,y.1=(k_1:Int)∧k_1≤24∧y.2.length≤k_1+1)∧24 - y.1.toNat<24 - (k:Int).toNat:=by
      intro X l' hX hl'
      subst hX
      exact ⟨_,by rw [Option.bind_some,ZT (by omega)],⟨k+1,rfl,by omega,hl'⟩,by simp only [Int.toNat_natCast];omega⟩
     rcases q2 with rfl | q2
     ·exact fin _ l rfl (by omega)
     ·obtain ⟨w1,w8,wp⟩:=Zb3 q2
      have wne:¬ List.isEmpty q=true:=by cases q with
       | nil=>simp at w1
       | cons a l=>simp
      rw [if_neg wne,ZoL w1 (by omega),Option.bind_some,ZdC hL (wp _ (by omega)),Option.bind_some,ZhM g r2 q2 hN,Option.bind_some]
      cases hc2:(if (too t (at0 q (q.length - 1))==too t (at0 r (r.length - 1)))=true then some (Zk9 t r q) else some false) with
      | none=>split at hc2<;>cases hc2
      | some b2 =>
       rw [Option.bind_some]
       cases b2 with
       | false=>exact fin _ l rfl (by omega)
       | true=>exact fin _ (l++[q]) (by rw [if_pos rfl,Zf2 (by simp;omega) (by omega)];rfl) (by simp;omega)) N (0,[r]) ⟨0,rfl,by omega,by simp⟩ (by simp;omega)
  rw [p1,Option.bind_some,Zlp g _ hN,Option.bind_some]
  exact ⟨_,_,rfl,fun h=>⟨h,rfl⟩⟩
structure SL (t:Zh) (l:List Zj):Prop where
 len:l.length≤6
 ok:∀ k,k<l.length→ZaI t (l.getD k dS)=true∧idAt l k=((k+1:Nat):Int)
theorem SL.snoc {l:List Zj} (h:SL t l) (h6:l.length<6) {x:Zj} (hx:ZaI t x=true) (hi:x.Id=((l.length+1:Nat):Int)):SL t (l++[x]):=by
 refine ⟨by simp;omega,fun k hk => ?_⟩
 unfold idAt
 by_cases e:k<l.length
 ·have:=h.ok k e
  unfold idAt at this
  rw [Zc4 hk,List.getElem_append_left e,← Zc4 e dS]
  exact this
 ·have:k=l.length:=by simp at hk;omega
  subst this
  rw [Zc4 hk]
  simp only [List.getElem_append_right (Nat.le_refl _),Nat.sub_self,List.getElem_cons_zero]
  exact ⟨hx,hi⟩
theorem Zig (g:Good t) (hdeg:ZqG t) {L:List ZaB} (hL:∀ d ∈ L,SDOK d) (hlen:L.length≤maxLen) (hN:200+L.length≤N):∃ l,ZdO N t L=some l∧SL t l:=by
 unfold ZdO
 obtain ⟨o,o1,o2⟩:=Zb4 (body:=fun x:Int × (List Zj)=>ZbU N t L x.1 x.2) (I:=fun x:Int × List Zj=>∃ k:Nat,x.1=k∧k≤L.length∧SL t x.2) (μ:=fun x=>L.length - x.1.toNat) (Post:=SL t) (by
  rintro ⟨a,l⟩ ⟨k,rfl,hk,hl⟩
  simp only at hl
  simp only [ZbU]
  by_cases hkl:k<L.length
  ·rw [if_pos (by simp;omega),Option.bind_some]
   by_cases h6:l.length<6
   ·rw [if_pos (by simp;omega),Zcz hkl,Option.bind_some]
    obtain ⟨x,b,x1,x2⟩:=Zgf (N:=N) g hdeg (hL _ (List.getElem_mem hkl)) (w64 (((List.length l:Nat):Int)+1)) (by omega)
    rw [x1,Option.bind_some]
    have hw:w64 ((k:Int)+1)=((k+1:Nat):Int):=by
     rw [ZP (by omega) (by have:L.length≤9223372036854775807:=hlen;omega)];omega
    left
    cases b with
    | false=>exact ⟨_,by rw [if_neg (by simp),Option.bind_some,hw],⟨k+1,rfl,by omega,hl⟩,by simp only [Int.toNat_natCast];omega⟩
    | true =>
     obtain ⟨y1,y2⟩:=x2 rfl
     have hs:=hl.snoc h6 y1 (by rw [y2,ZT (by omega)])
     exact ⟨_,by rw [if_pos rfl,Zf2 (by simp;omega) (by omega),Option.bind_some,Option.bind_some,hw],⟨k+1,rfl,by omega,hs⟩,by simp only [Int.toNat_natCast];omega⟩
   ·right
    exact ⟨l,by rw [if_neg (by simp;omega)],hl⟩
  ·right
   exact ⟨l,by rw [if_neg (by simp;omega)];rfl,hl⟩) N (0,[]) ⟨0,rfl,by omega,⟨by simp,fun k hk=>by simp at hk⟩⟩ (by simp;omega)
 exact ⟨o,by rw [o1];rfl,o2⟩
theorem Zih {a b c:Int} (ha:Byte a) (hb:Byte b) (hc:Byte c):∃ u,ZeQ N a b c=some u∧ZeJ u=true:=by
 obtain ⟨a0,a1⟩:=ha
 obtain ⟨b0,b1⟩:=hb
 obtain ⟨c0,c1⟩:=hc
 refine ⟨_,rfl,?_⟩
 have hm:Int.tmod b 40=b % 40:=Int.tmod_eq_emod_of_nonneg b0
 have e1:=Int.emod_nonneg b (show (40:Int) ≠ 0 by decide)
 have e2:=Int.emod_lt_of_pos b (show (0:Int)<40 by decide)
 rw [hm,ZP (x:=a) (by omega) (by omega),ZP (x:=20 * a) (by omega) (by omega),ZP (x:=100+20 * a) (by omega) (by omega),ZP (x:=b % 40) (by omega) (by omega),ZP (x:=c) (by omega) (by omega)]
 simp only [ZeJ,inB,Bool.and_eq_true,decide_eq_true_eq]
 refine ⟨⟨?_,?_⟩,⟨?_,?_⟩,⟨?_,?_⟩,?_,?_⟩<;>omega
end
end Go.Sh

