/- Part of the proof; written by a program out of the texts in wip/. -/
import Derived.Test.YtmplmekdilmdgaaStreamChecksTop8
set_option linter.unusedVariables false
set_option linter.unusedSimpArgs false
namespace Go.Sh
open Go Go.Eng
def cntB (l:List Zu) (x:Int):Nat:=l.countP (fun l=>l.B==x)
theorem Zov {l:List Int} {i:Nat} {v:Int} {j:Nat} (h:i<l.length):(l.set i v).getD j 0=if j=i then v else l.getD j 0:=by
 rw [List.getD_eq_getElem?_getD,List.getD_eq_getElem?_getD,List.getElem?_set]
 by_cases e:j=i
 ·subst e;rw [if_pos rfl,if_pos h,if_pos rfl];rfl
 ·rw [if_neg (Ne.symm e),if_neg e]
theorem Znk {b:List Int} {x:Int} (h0:0≤x) (h:x<b.length) {j:Nat} (hv:0≤b.getD x.toNat 0∧b.getD x.toNat 0≤1000):(bump b x).getD j 0=b.getD j 0+(if x=j then 1 else 0):=by
 unfold bump
 rw [Zov (by omega)]
 by_cases e:j=x.toNat
 ·rw [if_pos e,if_pos (by omega),Z5 (by omega) (by omega),e]
 ·rw [if_neg e,if_neg (by omega)];omega
theorem ZkD {m:Int}:∀ (l:List Zu) (b:List Int) (M:Nat),(b.length:Int)=m→(∀ k ∈ l,(0≤k.A∧k.A<m)∧0≤k.B∧k.B<m)→(∀ j:Nat,0≤b.getD j 0∧b.getD j 0≤M)→M+2 * l.length≤900→∀ j:Nat,
  (l.foldl ZjN b).getD j 0=b.getD j 0+(l.countP (fun k=>k.A==(j:Int)):Nat)+(cntB l j:Nat)
 | [],b,M,_,_,_,_,j=>by simp [cntB]
 | k::l,b,M,hb,hl,hM,hle,j=>by
  obtain ⟨⟨a1,a2⟩,a3,a4⟩:=hl k (by simp)
  have g1:∀ j:Nat,(bump b k.A).getD j 0=b.getD j 0+(if k.A=j then 1 else 0):=fun j=>Znk a1 (by omega) (by have:=hM k.A.toNat;simp only [List.length_cons] at hle;omega)
  have g2:∀ j:Nat,(ZjN b k).getD j 0=b.getD j 0+(if k.A=j then 1 else 0)+(if k.B=j then 1 else 0):=fun j=>by
   unfold ZjN
   rw [Znk a3 (by rw [Zni];omega) (by rw [g1];have:=hM k.B.toNat;simp only [List.length_cons] at hle;split<;>omega),g1]
  rw [List.foldl_cons,ZkD l (ZjN b k) (M+2) (by rw [ZjM];exact hb) (fun k hk=>hl k (by simp [hk])) (fun j=>by rw [g2];have:=hM j;split<;>split<;>omega) (by simp only [List.length_cons] at hle;omega) j,g2]
  simp only [cntB,List.countP_cons]
  by_cases e1:k.A=(j:Int)<;>by_cases e2:k.B=(j:Int)<;>simp [e1,e2]<;>omega
theorem Zkp {l:List Bool} {k:Zu} {x:Nat} (h:l.getD x false=true):(Zfy l k).getD x false=true:=by
 unfold Zfy
 split
 ·exact ZfT (ZfT h)
 ·exact h
theorem ZkA {x:Nat}:∀ (ks:List Zu) {l:List Bool},l.getD x false=true→(ks.foldl Zfy l).getD x false=true
 | [],l,h=>h
 | k::ks,l,h=>ZkA ks (Zkp h)
theorem ZfU {l:List Bool} {i:Nat} (h:i<l.length):(l.set i true).getD i false=true:=by
 rw [List.getD_eq_getElem?_getD,List.getElem?_set,if_pos rfl,if_pos h];rfl
theorem Zkq {l:List Bool} {k:Zu} (h:l.getD k.A.toNat false=true∨l.getD k.B.toNat false=true) (hA:k.A.toNat<l.length) (hB:k.B.toNat<l.length):(Zfy l k).getD k.A.toNat false=true∧(Zfy l k).getD k.B.toNat false=true:=by
 unfold Zfy
 rw [if_pos (by rcases h with h | h<;>rw [h]<;>simp)]
 exact ⟨ZfT (ZfU hA),ZfU (by simpa using hB)⟩
theorem Zjf (ks:List Zu) (l:List Bool):(ks.foldl Zfy l).length=l.length:=by
 induction ks generalizing l with
 | nil=>rfl
 | cons k ks ih=>rw [List.foldl_cons,ih,Zi8]
section
variable {b n c h:Nat} {t:Zg}
theorem ZfJ (t:Zg) (l:List Bool):Zge t l=t.Links.foldl Zfy l:=ZjD dL t.Links Zfy l
theorem Row.round (r:Row b n (b - 1) (n - b) t) (hb:1≤b) (hbn:b≤n) {l:List Bool} (hl:l.length=n) (h0:l.getD 0 false=true):∀ x,x<n→(Zge t l).getD x false=true:=by
 have hnodes:∀ k,k<t.Links.length→(0≤(lk t k).A∧(lk t k).A<n)∧0≤(lk t k).B∧(lk t k).B<n:=fun k hk=>by
  have:=Zb2 (r.links k hk).1
  exact ⟨r.toMk.node.1 this.1,r.toMk.node.1 this.2.1⟩
 have hlen:=r.len
 have step:∀ k,k≤t.Links.length→∀ x,x<n→(x<b∧x≤k)∨(b≤x∧b - 1+(x - b)<k)→((t.Links.take k).foldl Zfy l).getD x false=true:=by
  intro k
  induction k with
  | zero =>
   intro _ x hx hc
   rcases hc with ⟨h1,h2⟩ | ⟨h1,h2⟩
   ·obtain rfl:x=0:=by omega
    simpa using h0
   ·omega
  | succ k ih =>
   intro hk x hx hc
   have htk:t.Links.take (k+1)=t.Links.take k++[lk t k]:=by
    have:lk t k=t.Links[k]:=by simp [lk,List.getD_eq_getElem?_getD,show k<t.Links.length by omega]
    rw [this,List.take_append_getElem]
   rw [htk,List.foldl_append,List.foldl_cons,List.foldl_nil]
   have hfl:((t.Links.take k).foldl Zfy l).length=n:=by rw [Zjf,hl]
   obtain ⟨⟨n1,n2⟩,n3,n4⟩:=hnodes k (by omega)
   by_cases hold:(x<b∧x≤k)∨(b≤x∧b - 1+(x - b)<k)
   ·exact Zkp (ih (by omega) x hx hold)
   ·rcases hc with ⟨h1,h2⟩ | ⟨h1,h2⟩
    ·have hk1:x=k+1:=by omega
     obtain ⟨c1,c2⟩:=r.chain k (by omega)
     have:=Zkq (k:=lk t k) (l:=(t.Links.take k).foldl Zfy l) (.inl (by rw [c1];exact ih (by omega) k (by omega) (.inl ⟨by omega,by omega⟩))) (by omega) (by omega)
     have e:=this.2
     rw [c2] at e
     rw [hk1];exact e
    ·have hk1:k=b - 1+(x - b):=by omega
     have c1:=r.home (x - b) (by omega)
     rw [← hk1] at c1
     have hB:=r.ends k (by omega)
     have:=Zkq (k:=lk t k) (l:=(t.Links.take k).foldl Zfy l) (.inr (ih (by omega) (lk t k).B.toNat (by omega) (.inl ⟨by omega,by omega⟩))) (by omega) (by omega)
     have e:=this.1
     rw [c1] at e
     rwa [show (((b+(x - b):Nat):Int)).toNat=x by omega] at e
 intro x hx
 rw [ZfJ]
 have:=step t.Links.length (Nat.le_refl _) x hx (by
  by_cases hxb:x<b
  ·exact .inl ⟨hxb,by omega⟩
  ·exact .inr ⟨by omega,by omega⟩)
 rwa [List.take_length] at this
theorem Row.reach (r:Row b n (b - 1) (n - b) t) (hb:1≤b) (hbn:b≤n) (hn:1≤n):∀ x,x<n→(ZeX t 0).getD x false=true:=by
 have hnod:t.Nodes.toNat=n:=by rw [r.nodes];omega
 unfold ZeX
 rw [hnod]
 have hall:∀ m,1≤m→∀ x,x<n→((List.range m).foldl (fun l _=>Zge t l) ((List.replicate n false).set (0:Int).toNat true)).getD x false=true∧((List.range m).foldl (fun l _=>Zge t l) ((List.replicate n false).set (0:Int).toNat true)).length=n:=by
  intro m hm
  induction m with
  | zero=>omega
  | succ m ih =>
   intro x hx
   rw [List.range_succ,List.foldl_append,List.foldl_cons,List.foldl_nil]
   by_cases hm0:m=0
   ·subst hm0
    refine ⟨r.round hb hbn (by simp) (ZfU (by simp;omega)) x hx,?_⟩
    rw [ZfJ,Zjf];simp
   ·obtain ⟨i1,i2⟩:=ih (by omega) x hx
    exact ⟨by rw [ZfJ];exact ZkA _ i1,by rw [ZfJ,Zjf];exact i2⟩
 exact fun x hx=>(hall n hn x hx).1
theorem Row.good (r:Row b n (b - 1) (n - b) t) (hb:1≤b) (hbn:b+1≤n) (hn12:n≤12) (hc:∀ s,s<n - b→1≤cntA t ((b+s:Nat):Int)∧cntA t ((b+s:Nat):Int)≤2):Good t:=by
 have hnod:t.Nodes.toNat=n:=by rw [r.nodes];omega
 refine ⟨by rw [r.nodes];omega,by rw [r.nodes];omega,r.stl,r.l24,r.links,fun x hx => ?_⟩
 rw [hnod] at hx
 refine ⟨r.reach hb (by omega) (by omega) x hx,?_⟩
 unfold degB
 rw [r.stB (by omega) (by omega)]
 by_cases hxb:(b:Int)≤(x:Int)
 ·have hd:(degs t).getD x 0=(cntA t (x:Int):Nat)+(cntB t.Links x:Nat):=by
   have e0:degs t=t.Links.foldl ZjN (List.replicate n 0):=by rw [← hnod];exact ZjD dL t.Links ZjN _
   rw [e0]
   have hz:∀ j:Nat,(List.replicate n (0:Int)).getD j 0=0:=fun j=>by
    rw [List.getD_eq_getElem?_getD,List.getElem?_replicate];split<;>rfl
   have:=ZkD (m:=(n:Int)) t.Links (List.replicate n 0) 0 (by simp) (fun k hk=>by
    obtain ⟨i,hi,rfl⟩:=List.getElem_of_mem hk
    have e:lk t i=t.Links[i]:=by simp [lk,List.getD_eq_getElem?_getD,hi]
    have:=Zb2 (r.links i hi).1
    rw [e] at this
    exact ⟨r.toMk.node.1 this.1,r.toMk.node.1 this.2.1⟩) (fun j=>by rw [hz];omega) (by have:=r.l24;omega) x
   rw [this,hz]
   unfold cntA
   omega
  have hB0:cntB t.Links x=0:=by
   unfold cntB
   rw [List.countP_eq_zero]
   intro k hk
   obtain ⟨i,hi,rfl⟩:=List.getElem_of_mem hk
   have e:lk t i=t.Links[i]:=by simp [lk,List.getD_eq_getElem?_getD,hi]
   have:=r.ends i hi
   rw [e] at this
   simp;omega
  have:=hc (x - b) (by omega)
  rw [show ((b+(x - b):Nat):Int)=(x:Int) by omega] at this
  rw [decide_eq_true hxb,hd,hB0,decide_eq_true (by omega),decide_eq_true (by omega)]
  rfl
 ·rw [decide_eq_false hxb];rfl
theorem Row.port (r:Row b n (b - 1) (n - b) t) (hb:1≤b) (hbn:b+1≤n) {x:Int} (h0:0≤x) (hx:x<n):∃ k,k<t.Links.length∧((lk t k).A=x∨(lk t k).B=x):=by
 have hlen:=r.len
 by_cases hxb:x<b
 ·by_cases hx1:x.toNat<b - 1
  ·exact ⟨x.toNat,by omega,.inl (by rw [(r.chain x.toNat hx1).1];omega)⟩
  ·by_cases hb1:b=1
   ·
    have h1:=r.home 0 (by omega)
    have h2:=r.ends (b - 1+0) (by omega)
    have h3:=Zb2 (r.links (b - 1+0) (by omega)).1
    have h4:=r.toMk.node.1 h3.2.1
    exact ⟨b - 1+0,by omega,.inr (by omega)⟩
   ·have:=r.chain (b - 2) (by omega)
    exact ⟨b - 2,by omega,.inr (by rw [this.2];omega)⟩
 ·have:=r.home (x.toNat - b) (by omega)
  exact ⟨b - 1+(x.toNat - b),by omega,.inl (by rw [this];omega)⟩
end
theorem ZnS {N:Nat} {d:Zap} (hd:DOK d) (hN:200≤N):∃ t,Zbp N d=some t∧Good t∧∀ x:Int,0≤x→x<t.Nodes→∃ k,k<t.Links.length∧((lk t k).A=x∨(lk t k).B=x):=by
 obtain ⟨_,b2,b3⟩:=ZjP hd
 obtain ⟨_,s2,s3⟩:=ZiX hd
 obtain ⟨t,e,r,c⟩:=Zoz (N:=N) hd hN
 have hr:Row (brs d) (brs d+sts d) (brs d - 1) (brs d+sts d - brs d) t:=by rw [show brs d+sts d - brs d=sts d by omega];exact r
 refine ⟨t,e,hr.good b2 (by omega) (by omega) (fun s hs=>c s (by omega)),fun x h0 hx => ?_⟩
 rw [r.nodes] at hx
 exact hr.port b2 (by omega) h0 hx
end Go.Sh

