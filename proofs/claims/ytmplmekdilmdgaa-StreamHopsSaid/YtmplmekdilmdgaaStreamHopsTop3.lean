/- Part of the proof; written by a program out of the texts in wip/. -/
import Derived.Test.YtmplmekdilmdgaaStreamHopsBase
import Derived.Test.YtmplmekdilmdgaaStreamHopsRd
import Derived.KernelRfl
set_option linter.unusedVariables false
set_option linter.unusedSimpArgs false
namespace Go.Sh
open Go Go.Eng
theorem ZdM {α:Type} {b:Nat} {l m:List α} (h:l.length+m.length≤1000) (hb:b≤1000):appI b l m=some (l++m):=by
 unfold appI
 have:(l.length+m.length) * b≤1000 * 1000:=Nat.mul_le_mul h hb
 rw [if_pos ⟨by omega,by omega⟩]
def at0 (r:List Int) (k:Nat):Int:=r.getD k 0
def Zch (t:Zi) (p:Int):Bool:=decide (0≤p)&&decide (p<2 * (t.Links.length:Int))
def plk (t:Zi) (p:Int):Zy:=t.Links.getD (Int.tdiv p 2).toNat dL
def frm (t:Zi) (p:Int):Int:=if (Int.tmod p 2==1)=true then (plk t p).B else (plk t p).A
def too (t:Zi) (p:Int):Int:=if (Int.tmod p 2==1)=true then (plk t p).A else (plk t p).B
def Zag (t:Zi) (r:List Int):List Int:=frm t (at0 r 0)::r.map (too t)
def nd (t:Zi) (r:List Int) (k:Nat):Int:=(Zag t r).getD k 0
def okAt (t:Zi) (r:List Int) (k:Nat):Bool :=
 Zch t (at0 r k)&&(((k==0)||((frm t (at0 r k)==nd t r k) && !stB t (nd t r k))) && !((Zag t r).take (k+1)).contains (nd t r (k+1)))
def ZaM (t:Zi) (r:List Int):Bool:=decide (1≤r.length)&&(decide (r.length≤8)&&allB r.length (okAt t r))
section
variable {N:Nat} {t:Zi}
structure Good (t:Zi):Prop where
 n2:2≤t.Nodes
 n12:t.Nodes≤12
 st:(t.Station.length:Int)=t.Nodes
 l24:t.Links.length≤24
 links:∀ k,k<t.Links.length→ZdE t (lk t k)=true∧nojB t k=true
 nodes:∀ n,n<t.Nodes.toNat→(ZeO t 0).getD n false=true∧degB t n=true
theorem Zbe:Zeh t=true↔Good t:=by
 unfold Zeh
 simp only [Bool.and_eq_true,decide_eq_true_eq,beq_iff_eq,Za8]
 exact ⟨fun ⟨a,b,c,d,e,f⟩=>⟨a,b,c,d,e,f⟩,fun h=>⟨h.n2,h.n12,h.st,h.l24,h.links,h.nodes⟩⟩
theorem Zod {p:Int} (hp:Zch t p=true):0≤Int.tdiv p 2∧Int.tdiv p 2<t.Links.length:=by
 simp only [Zch,Bool.and_eq_true,decide_eq_true_eq] at hp
 rw [Int.tdiv_eq_ediv_of_nonneg hp.1]
 omega
theorem Zim (hL:t.Links.length≤1000) {p:Int} (hp:Zch t p=true):idx t.Links (w64 (Int.tdiv p 2))=some (plk t p):=by
 obtain ⟨h1,h2⟩:=Zod hp
 rw [ZV (by omega) (by omega)]
 exact Zbu dL h1 h2
theorem Zc3 (hL:t.Links.length≤1000) {p:Int} (hp:Zch t p=true):ZbW N t p=some (frm t p):=by
 unfold ZbW frm;rw [Zim hL hp];simp only [Option.bind_some];split<;>rfl
theorem Zdk (hL:t.Links.length≤1000) {p:Int} (hp:Zch t p=true):ZcK N t p=some (too t p):=by
 unfold ZcK too;rw [Zim hL hp];simp only [Option.bind_some];split<;>rfl
theorem ZgX (hL:t.Links.length≤1000) {p:Int} (hp:Zch t p=true):ZdT N t p=some (plk t p).Delay:=by
 unfold ZdT;rw [Zim hL hp];rfl
theorem Zii (hL:t.Links.length≤1000) {p:Int} (hp:Zch t p=true):Zft N t p=some (plk t p).Per:=by
 unfold Zft;rw [Zim hL hp];rfl
theorem Zk6 (hL:t.Links.length≤1000) (p:Int):Zfs N t p=some (Zch t p):=by
 unfold Zfs Zch;rw [ZV (by omega) (by omega)]
theorem ZeS (g:Good t) {p:Int} (hp:Zch t p=true):Zdr t (frm t p)=true∧Zdr t (too t p)=true∧frm t p ≠ too t p:=by
 obtain ⟨h1,h2⟩:=Zod hp
 have:=Zb5 (g.links (Int.tdiv p 2).toNat (by omega)).1
 unfold frm too
 split
 ·exact ⟨this.2.1,this.1,Ne.symm this.2.2⟩
 ·exact this
theorem Zdq {α:Type} {l:List α} {k:Nat} (h:k<l.length) (d:α):l.getD k d=l[k]:=by simp [List.getD_eq_getElem?_getD,h]
theorem Zg8 {r:List Int} {k:Nat} (h:k<r.length):at0 r k=r[k]:=Zdq h 0
theorem Zc4 (r:List Int):(Zag t r).length=r.length+1:=by simp [Zag]
theorem Zfh {r:List Int} {k:Nat} (h:k<r.length):nd t r (k+1)=too t (at0 r k):=by
 unfold nd Zag
 rw [List.getD_cons_succ,Zdq (by simpa using h),Zg8 h,List.getElem_map]
theorem nd_zero (r:List Int):nd t r 0=frm t (at0 r 0):=rfl
theorem Zl1 {r:List Int} {k:Nat} (h:k<(Zag t r).length):(Zag t r)[k]=nd t r k:=by unfold nd;rw [Zdq h]
theorem nd_node (g:Good t) {r:List Int} (hp:∀ k,k<r.length→Zch t (at0 r k)=true) (h1:1≤r.length) {k:Nat} (hk:k≤r.length):Zdr t (nd t r k)=true:=by
 cases k with
 | zero=>exact (ZeS g (hp 0 (by omega))).1
 | succ k=>rw [Zfh (by omega)];exact (ZeS g (hp k (by omega))).2.1
theorem Zff (hL:t.Links.length≤1000) {r:List Int} (h1:1≤r.length) (h12:r.length≤100) (hp:∀ k,k<r.length→Zch t (at0 r k)=true) (hN:200≤N):Zcx N t r=some (Zag t r):=by
 unfold Zcx
 have e0:idx r 0=some (at0 r 0):=by unfold at0;exact Zbu 0 (Int.le_refl _) (by omega)
 rw [e0,Option.bind_some,Zc3 hL (hp 0 (by omega)),Option.bind_some]
 have hlen:=Zc4 (t:=t) r
 have:=ZcF (n:=r.length) (f:=fun b k=>(Zag t r).take (k+2)) (body:=fun x:Int × (List Int)=>Zbn N t r x.1 x.2) (fin:=fun b=>b) (fun k b=>b=(Zag t r).take (k+1))
  (fun k b hk hb=>by
   show Zbn N t r k b=_
   unfold Zbn
   subst hb
   rw [if_pos (by simp;omega),ZcH hk,Option.bind_some]
   have e:r[k]=at0 r k:=(Zg8 hk).symm
   rw [e,Zdk hL (hp k hk),Option.bind_some,ZdM (by simp;omega) (by omega),Option.bind_some,ZW (by omega)]
   rw [← Zfh hk,← Zl1 (by omega),List.take_append_getElem])
  (fun k b hk hb=>rfl)
  (fun b hb=>by show Zbn N t r r.length b=_;unfold Zbn;rw [if_neg (by simp)]) (N:=N) (by omega) (b0:=[frm t (at0 r 0)]) (by simp [Zag])
 rw [this.1,Option.bind_some,this.2,List.take_of_length_le (by omega)]
theorem Zj9 (g:Good t) {r:List Int} (h12:r.length≤100) (hN:200≤N):Zca N t r=some (ZaM t r):=by
 have hL:t.Links.length≤1000:=by have:=g.l24;omega
 unfold Zca ZaM
 by_cases h1:1≤r.length
 ·by_cases h8:r.length≤8
  ·rw [if_neg (by simp;omega)]
   have a1:=Za0 (n:=r.length) (p:=fun k=>Zch t (at0 r k)) (body:=fun x:Int=>Zb9 N t r x) (bad:=.inr false) (fin:=.inl ()) (fun k hk=>by
    unfold Zb9
    rw [if_pos (by simp;omega),ZcH hk,Option.bind_some,Zk6 hL,Option.bind_some,ZW (by omega),Zg8 hk]
    cases Zch t r[k]<;>rfl) (by unfold Zb9;rw [if_neg (by simp)]) (N:=N) (by omega)
   rw [a1,Option.bind_some]
   simp only [h1,h8,decide_true,Bool.true_and]
   cases hp:allB r.length (fun k=>Zch t (at0 r k)) with
   | false =>
    have:allB r.length (okAt t r)=false:=by
     rw [← Bool.not_eq_true,Za8]
     rw [← Bool.not_eq_true,Za8] at hp
     intro h
     exact hp fun k hk=>by have:=h k hk;simp only [okAt,Bool.and_eq_true] at this;exact this.1
    rw [this];rfl
   | true =>
    rw [Za8] at hp
    simp only [if_true]
    rw [Zff hL h1 h12 hp hN,Option.bind_some]
    have hlen:=Zc4 (t:=t) r
    have a2:=Za0 (n:=r.length+1) (p:=fun i => !((Zag t r).take i).contains (nd t r i) && !(decide (0<i)&&(decide (i<r.length)&&(stB t (nd t r i) || !(frm t (at0 r i)==nd t r i)))))
     (body:=fun x:Int=>Zb8 N t r (Zag t r) x) (bad:=.inr false) (fin:=.inl ()) (fun i hi=>by
     unfold Zb8
     have hi':i<(Zag t r).length:=by omega
     have hsub:subI (Zag t r) 0 (i:Int)=some ((Zag t r).take i):=by
      unfold subI
      rw [if_pos ⟨by omega,by omega,by omega⟩]
      simp
     rw [if_pos (by simp;omega),hsub,Option.bind_some,ZcH hi',Option.bind_some,Zl1 hi',ZfE (by simp;omega) (by simp;omega),Option.bind_some,ZW (by omega)]
     cases hc:((Zag t r).take i).contains (nd t r i) with
     | true=>rfl
     | false =>
      by_cases hi0:0<i
      ·by_cases hil:i<r.length
       ·have e1:decide ((i:Int) > 0)=true:=by simp;omega
        have e2:decide ((i:Int)<(r.length:Int))=true:=by simp;omega
        rw [e1,e2,ZcH hil]
        have e3:r[i]=at0 r i:=(Zg8 hil).symm
        rw [e3]
        simp only [Bool.false_eq_true,if_false,if_true,Option.bind_some]
        rw [Zek g.st (nd_node g hp h1 (by omega)),Zc3 hL (hp i hil)]
        simp only [hi0,hil,decide_true,Bool.true_and,Bool.not_false,bne,Option.bind_some]
        cases stB t (nd t r i)<;>cases (frm t (at0 r i)==nd t r i)<;>rfl
       ·have e1:decide ((i:Int) > 0)=true:=by simp;omega
        have e2:decide ((i:Int)<(r.length:Int))=false:=by simp;omega
        rw [e1,e2];simp [hil]
      ·have e1:decide ((i:Int) > 0)=false:=by simp;omega
       rw [e1];simp [hi0]) (by unfold Zb8;rw [if_neg (by simp;omega)]) (N:=N) (by omega)
    rw [a2,Option.bind_some]
    have:allB (r.length+1) (fun i => !((Zag t r).take i).contains (nd t r i) && !(decide (0<i)&&(decide (i<r.length)&&(stB t (nd t r i) || !(frm t (at0 r i)==nd t r i)))))=allB r.length (okAt t r):=by
     rw [Bool.eq_iff_iff,Za8,Za8]
     constructor
     ·intro h k hk
      have q1:=h k (by omega)
      have q2:=h (k+1) (by omega)
      simp only [Bool.and_eq_true] at q1 q2
      simp only [okAt,Bool.and_eq_true]
      refine ⟨hp k hk,?_,q2.1⟩
      by_cases hk0:k=0
      ·simp [hk0]
      ·have:=q1.2
       simp only [show 0<k by omega,hk,decide_true,Bool.true_and,Bool.not_eq_true',Bool.or_eq_false_iff] at this
       simp only [Bool.or_eq_true,Bool.and_eq_true,Bool.not_eq_true']
       right
       exact ⟨by simpa using this.2,this.1⟩
     ·intro h i hi
      simp only [Bool.and_eq_true]
      constructor
      ·cases i with
       | zero=>simp
       | succ i =>
        have:=h i (by omega)
        simp only [okAt,Bool.and_eq_true] at this
        exact this.2.2
      ·by_cases hi0:0<i
       ·by_cases hil:i<r.length
        ·have:=h i hil
         simp only [okAt,Bool.and_eq_true,Bool.or_eq_true,Bool.not_eq_true'] at this
         have h2:=this.2.1
         rcases h2 with h2 | ⟨h2,h3⟩
         ·simp at h2;omega
         ·simp [h2,h3]
        ·simp [hil]
       ·simp [hi0]
    rw [this]
    cases allB r.length (okAt t r)<;>rfl
  ·rw [if_pos (by simp;omega)];simp [h8]
 ·rw [if_pos (by simp;omega)];simp [h1]
theorem ZjC {σ:Type} (hL:t.Links.length≤1000) (y:σ→Int→ZaL→Option (σ × Bool)) {r:List Int} (g:σ) {k:Nat} (hk:k<r.length) (hk':k<1000):ZU N y r ⟨t⟩ (k:Int) g =
  if Zch t (at0 r k)=true then (y g k ⟨at0 r k,frm t (at0 r k),too t (at0 r k)⟩).bind fun q=>if (!q.2)=true then some (.inr q.1) else some (.inl (((k+1:Nat):Int),q.1)) else some (.inr g):=by
 unfold ZU
 rw [if_pos (by simp;omega),ZcH hk,Option.bind_some,← Zg8 hk,ZW (by omega)]
 simp only
 have hpo:(if decide (at0 r k<0)=true then some true else some (decide (at0 r k ≥ w64 (2 * (t.Links.length:Int)))))=some (!Zch t (at0 r k)):=by
  rw [ZV (by omega) (by omega)]
  unfold Zch
  by_cases h1:at0 r k<0
  ·rw [if_pos (by simpa using h1)];simp [show ¬ (0≤at0 r k) by omega]
  ·rw [if_neg (by simpa using h1)]
   by_cases h2:at0 r k<2 * (t.Links.length:Int)
   ·rw [decide_eq_false (by omega),decide_eq_true (show 0≤at0 r k by omega),decide_eq_true h2];rfl
   ·rw [decide_eq_true (by omega),decide_eq_true (show 0≤at0 r k by omega),decide_eq_false h2];rfl
 rw [hpo,Option.bind_some]
 cases hp:Zch t (at0 r k) with
 | false=>rfl
 | true =>
  rw [Zim hL hp]
  simp only [Bool.not_true,Bool.false_eq_true,if_false,Option.bind_some,if_true]
  unfold frm too
  split<;>rfl
theorem Znc {σ:Type} (y:σ→Int→ZaL→Option (σ × Bool)) {r:List Int} (g:σ):ZU N y r ⟨t⟩ (r.length:Int) g=some (.inr g):=by
 unfold ZU
 rw [if_neg (by simp)]
theorem ZjT {a:Zr} {x:Int} (h0:0≤x) (h:x<12):a.get x=some (a.l.getD x.toNat false):=by
 unfold Zr.get
 exact Zbu false h0 (by show x<((12:Nat):Int);omega)
theorem Zmk {a:Zr} {x:Int} {v:Bool} {y:Nat} (h0:0≤x) (h:x<12):(a.set x v).l.getD y false=if y=x.toNat then v else a.l.getD y false:=by
 rw [Zr.l_set]
 have hlen:a.l.length=12:=rfl
 rw [List.getD_eq_getElem?_getD,List.getD_eq_getElem?_getD,List.getElem?_set]
 by_cases e:y=x.toNat
 ·subst e
  rw [if_pos rfl,if_pos (by omega),if_pos rfl]
  rfl
 ·rw [if_neg (Ne.symm e),if_neg e]
def VInv (t:Zi) (r:List Int) (k:Nat) (v:Int × Int × Zr):Prop :=
 v.1=k∧(0<k→v.2.1=nd t r k)∧∀ x:Nat,x<12→v.2.2.l.getD x false=(decide (0<k)&&((Zag t r).take (k+1)).contains (x:Int))
theorem Zf0 {r:List Int} {k:Nat} (h:k<(Zag t r).length):(Zag t r).take (k+1)=(Zag t r).take k++[nd t r k]:=by
 rw [← Zl1 h,List.take_append_getElem]
theorem Znq (g:Good t) {r:List Int} {k:Nat} (hk:k<r.length) (h12:r.length≤100) (hpre:∀ j,j<k→Zch t (at0 r j)=true) (hp:Zch t (at0 r k)=true) {v:Int × Int × Zr} (hv:VInv t r k v) :
  ∃ v' e,Zas N ⟨t⟩ v.1 v.2.1 v.2.2 (k:Int) ⟨at0 r k,frm t (at0 r k),too t (at0 r k)⟩=some (v',e)∧((e=0∧okAt t r k=true∧VInv t r (k+1) v')∨(e=1∧okAt t r k=false∧v'.1=k)):=by
 obtain ⟨good,at_,seen⟩:=v
 obtain ⟨e1,e2,e3⟩:=hv
 simp only at e1 e2 e3
 subst e1
 obtain ⟨f1,f2,f3⟩:=ZeS g hp
 rw [ZeP] at f1 f2
 have hn:=g.n12
 have hlen:=Zc4 (t:=t) r
 have hpk:∀ j,j<k+1→Zch t (at0 r j)=true:=fun j hj=>by
  by_cases e:j=k
  ·subst e;exact hp
  ·exact hpre j (by omega)
 have hmem:∀ (s:Zr),(∀ x:Nat,x<12→s.l.getD x false=((Zag t r).take (k+1)).contains (x:Int)) →
   s.l.getD (too t (at0 r k)).toNat false=((Zag t r).take (k+1)).contains (nd t r (k+1)) ∧
   (((Zag t r).take (k+1)).contains (nd t r (k+1))=false→VInv t r (k+1) (w64 ((k:Int)+1),too t (at0 r k),s.set (too t (at0 r k)) true)):=by
  intro s hs
  constructor
  ·rw [hs _ (by omega),Zfh hk,Int.toNat_of_nonneg f2.1]
  ·intro hc
   refine ⟨by simp only;rw [ZW (by omega)],fun _=>(Zfh hk).symm,fun x hx => ?_⟩
   simp only
   rw [Zmk f2.1 (by omega),Zf0 (by omega),List.contains_append,Zfh hk]
   simp only [show 0<k+1 by omega,decide_true,Bool.true_and,List.contains_cons,List.contains_nil,Bool.or_false]
   by_cases e:x=(too t (at0 r k)).toNat
   ·rw [if_pos e]
    have:((x:Int)==too t (at0 r k))=true:=by simp;omega
    rw [this,Bool.or_true]
   ·rw [if_neg e,hs x hx]
    have:((x:Int)==too t (at0 r k))=false:=by simp;omega
    rw [this,Bool.or_false]
 unfold Zas okAt
 by_cases hk0:k=0
 ·subst hk0
  rw [if_pos (by simp)]
  simp only
  rw [ZjT f1.1 (by omega),Option.bind_some,ZjT f2.1 (by omega),Option.bind_some]
  have hs0:∀ x:Nat,x<12→(seen.set (frm t (at0 r 0)) true).l.getD x false=((Zag t r).take (0+1)).contains (x:Int):=fun x hx=>by
   rw [Zmk f1.1 (by omega)]
   have he:seen.l.getD x false=false:=by rw [e3 x hx];simp
   rw [he]
   show _=[frm t (at0 r 0)].contains (x:Int)
   simp only [List.contains_cons,List.contains_nil,Bool.or_false]
   by_cases e:x=(frm t (at0 r 0)).toNat
   ·rw [if_pos e];symm;simp;omega
   ·rw [if_neg e];symm;simp;omega
  obtain ⟨m1,m2⟩:=hmem _ hs0
  rw [m1]
  have hc:((Zag t r).take (0+1)).contains (nd t r (0+1))=false:=by
   show [frm t (at0 r 0)].contains _=false
   rw [Zfh hk]
   simp only [List.contains_cons,List.contains_nil,Bool.or_false]
   simp [Ne.symm f3]
  rw [hc]
  refine ⟨_,0,rfl,.inl ⟨rfl,?_,m2 hc⟩⟩
  rw [hp];rfl
 ·rw [if_neg (by simp;omega)]
  simp only
  have ha:=e2 (by omega)
  subst ha
  have hst:idx t.Station (nd t r k)=some (stB t (nd t r k)):=by
   apply Zek g.st
   obtain ⟨j,rfl⟩:∃ j,k=j+1:=⟨k - 1,by omega⟩
   rw [Zfh (by omega)]
   exact (ZeS g (hpre j (by omega))).2.1
  have hs1:∀ x:Nat,x<12→seen.l.getD x false=((Zag t r).take (k+1)).contains (x:Int):=fun x hx=>by rw [e3 x hx];simp [show 0<k by omega]
  obtain ⟨m1,m2⟩:=hmem _ hs1
  rw [hst,hp,show (k==0)=false by simp [hk0]]
  simp only [Option.bind_some,bne,Bool.false_or,Bool.true_and]
  cases hf:(frm t (at0 r k)==nd t r k) with
  | false=>exact ⟨_,1,rfl,.inr ⟨rfl,rfl,rfl⟩⟩
  | true =>
   cases hs:stB t (nd t r k) with
   | true=>exact ⟨_,1,rfl,.inr ⟨rfl,rfl,rfl⟩⟩
   | false =>
    simp only [Bool.not_true,Bool.false_eq_true,if_false,Option.bind_some]
    rw [ZjT f2.1 (by omega),Option.bind_some,Option.bind_some,m1]
    cases hc:((Zag t r).take (k+1)).contains (nd t r (k+1)) with
    | true=>exact ⟨_,1,rfl,.inr ⟨rfl,rfl,rfl⟩⟩
    | false=>exact ⟨_,0,rfl,.inl ⟨rfl,rfl,m2 hc⟩⟩
theorem Znr (g:Good t) {r:List Int} (h12:r.length≤100):∀ (n N k:Nat) (v:Int × Int × Zr),r.length - k=n→k≤r.length→n<N→(∀ j,j<k→okAt t r j=true)→VInv t r k v→∀ M:Nat,
  ∃ s:(Int × Int × Zr) × Nat,Zac (fun x:Int × ((Int × Int × Zr) × Nat)=>ZU M (fun (s:(Int × Int × Zr) × Nat) (x522:Int) (x523:ZaL)=>Zie (fun v:Int × Int × Zr=>Zas M ⟨t⟩ v.1 v.2.1 v.2.2 x522 x523) s) r ⟨t⟩ x.1 x.2) N ((k:Int),(v,0))=some s ∧
   (s.2=0∨s.2=1)∧(s.1.1==(r.length:Int))=allB r.length (okAt t r):=by
 have hL:t.Links.length≤1000:=by have:=g.l24;omega
 intro n
 induction n with
 | zero =>
  intro N k v h1 h2 h3 hpre hv M
  obtain rfl:k=r.length:=by omega
  cases N with
  | zero=>omega
  | succ N =>
   refine ⟨(v,0),by rw [Zbq (Znc _ _)],.inl rfl,?_⟩
   rw [hv.1,Za8.2 hpre]
   simp
 | succ n ih =>
  intro N k v h1 h2 h3 hpre hv M
  have hk:k<r.length:=by omega
  cases N with
  | zero=>omega
  | succ N =>
   have hbad:okAt t r k=false→(((k:Nat):Int)==(r.length:Int))=allB r.length (okAt t r):=fun hb=>by
    have e1:(((k:Nat):Int)==(r.length:Int))=false:=by simp;omega
    rw [e1];symm
    rw [← Bool.not_eq_true,Za8]
    intro h;rw [h k hk] at hb;cases hb
   cases hp:Zch t (at0 r k) with
   | false =>
    refine ⟨(v,0),?_,.inl rfl,?_⟩
    ·rw [Zbq]
     show ZU M _ r ⟨t⟩ (k:Int) (v,0)=_
     rw [ZjC hL _ _ hk (by omega),if_neg (by rw [hp];simp)]
    ·simp only [hv.1]
     exact hbad (by unfold okAt;rw [hp];rfl)
   | true =>
    obtain ⟨v',e,s1,s2⟩:=Znq (N:=M) g hk h12 (fun j hj=>by have:=hpre j hj;simp only [okAt,Bool.and_eq_true] at this;exact this.1) hp hv
    have hy:ZU M (fun (s:(Int × Int × Zr) × Nat) (x522:Int) (x523:ZaL)=>Zie (fun v:Int × Int × Zr=>Zas M ⟨t⟩ v.1 v.2.1 v.2.2 x522 x523) s) r ⟨t⟩ (k:Int) (v,0) =
      if (!(e==0))=true then some (.inr (v',e)) else some (.inl (((k+1:Nat):Int),(v',e))):=by
     rw [ZjC hL _ _ hk (by omega),if_pos hp]
     simp only [Zie,if_true,s1,Option.map_some,Option.bind_some]
    rcases s2 with ⟨rfl,s3,s4⟩ | ⟨rfl,s3,s4⟩
    ·rw [ZcS (y:=(((k+1:Nat):Int),(v',0))) hy]
     exact ih N (k+1) v' (by omega) (by omega) (by omega) (fun j hj=>by
      by_cases e:j=k
      ·subst e;exact s3
      ·exact hpre j (by omega)) s4 M
    ·refine ⟨(v',1),by rw [Zbq (r:=(v',1)) hy],.inr rfl,?_⟩
     rw [s4];exact hbad s3
theorem Zfd (g:Good t) {r:List Int} (h12:r.length≤100) (hN:200≤N):Zbb N ⟨t⟩ r=some (ZaM t r):=by
 unfold Zbb ZaM
 by_cases h1:1≤r.length
 ·by_cases h8:r.length≤8
  ·rw [if_neg (by simp;omega)]
   simp only [h1,h8,decide_true,Bool.true_and]
   obtain ⟨s,s1,s2,s3⟩:=Znr g h12 r.length N 0 (0,0,⟨false,false,false,false,false,false,false,false,false,false,false,false⟩) (by omega) (by omega) (by omega) (fun j hj=>by omega) ⟨rfl,fun h=>by omega,fun x hx=>by
    simp only [Nat.lt_irrefl,decide_false,Bool.false_and]
    revert x
    decide⟩ N
   unfold Zcn ZbL
   simp only [Option.bind_some]
   rw [show ((0:Nat):Int)=0 from rfl] at s1
   rw [s1]
   simp only [Option.bind_some]
   rcases s2 with e | e
   ·rw [e];simp only [beq_self_eq_true,if_true,Option.bind_some];rw [s3]
   ·rw [e];simp only [show ((1:Nat)==0)=false from rfl,beq_self_eq_true,Bool.false_eq_true,if_false,if_true,Option.bind_some];rw [s3]
  ·rw [if_pos (by simp;omega)];simp [h8]
 ·rw [if_pos (by simp;omega)];simp [h1]
end
end Go.Sh

set_option linter.unusedVariables false
set_option linter.unusedSimpArgs false
namespace Go.Sh
open Go Go.Eng
theorem ZnJ {ρ:Type} {n:Nat} {p:Nat→Bool} {body:Int→Option (Int ⊕ ρ)} {bad fin:ρ} (hstep:∀ k:Nat,k<n→body (k:Int)=if p k=true then some (.inl ((k+1:Nat):Int)) else some (.inr bad))
  (hend:body (n:Int)=some (.inr fin)):∀ (m N k:Nat),n - k=m→k≤n→m<N→Zac body N (k:Int)=some (if (List.range' k m).all p then fin else bad):=by
 intro m
 induction m with
 | zero =>
  intro N k h1 h2 h3
  obtain rfl:k=n:=by omega
  cases N with
  | zero=>omega
  | succ N=>rw [Zbq hend];rfl
 | succ m ih =>
  intro N k h1 h2 h3
  cases N with
  | zero=>omega
  | succ N =>
   rw [List.range'_succ,List.all_cons]
   by_cases hp:p k=true
   ·rw [ZcS (by rw [hstep k (by omega),if_pos hp]),ih N (k+1) (by omega) (by omega) (by omega),hp,Bool.true_and]
   ·rw [Zbq (by rw [hstep k (by omega),if_neg hp])]
    simp [hp]
section
variable {N:Nat} {t:Zi}
theorem make0 {b:Nat} {c:Int} (h0:0≤c) (h1:c≤1000) (hb:b≤1000):Zjv b 0 c (0:Int)=some []:=by
 unfold Zjv
 have:c * (b:Int)≤1000 * 1000:=Int.mul_le_mul h1 (by omega) (by omega) (by omega)
 rw [if_pos ⟨Int.le_refl _,h0,by omega,by omega⟩]
 rfl
theorem Zci {r:List Int} (h:ZaM t r=true):1≤r.length∧r.length≤8∧∀ k,k<r.length→Zch t (at0 r k)=true:=by
 simp only [ZaM,Bool.and_eq_true,decide_eq_true_eq,Za8] at h
 exact ⟨h.1,h.2.1,fun k hk=>by have:=h.2.2 k hk;simp only [okAt,Bool.and_eq_true] at this;exact this.1⟩
theorem Zfe (g:Good t) {r:List Int} (hv:ZaM t r=true) (hN:200≤N):Zbw N ⟨t⟩ r=some (Zag t r):=by
 have hL:t.Links.length≤1000:=by have:=g.l24;omega
 obtain ⟨h1,h8,hp⟩:=Zci hv
 have hlen:=Zc4 (t:=t) r
 unfold Zbw
 rw [ZV (by omega) (by omega),make0 (by omega) (by omega) (by omega),Option.bind_some]
 unfold Zcn ZbL
 simp only [Option.bind_some]
 have:=ZcF (n:=r.length) (f:=fun b k=>(Zag t r).take (k+2))
  (body:=fun x:Int × (List Int)=>ZU N (fun (s:(List Int)) (x13:Int) (x14:ZaL)=>Zds (fun v:(List Int)=>ZaF N v x13 x14) s) r ⟨t⟩ x.1 x.2) (fin:=fun b=>b) (fun k b=>b=if k=0 then [] else (Zag t r).take (k+1))
  (fun k b hk hb=>by
   show ZU N _ r ⟨t⟩ k b=_
   rw [ZjC hL _ _ hk (by omega),if_pos (hp k hk)]
   have:ZaF N b (k:Int) ⟨at0 r k,frm t (at0 r k),too t (at0 r k)⟩=some ((Zag t r).take (k+2)):=by
    unfold ZaF
    subst hb
    by_cases hk0:k=0
    ·subst hk0
     rw [if_pos (by simp),if_pos rfl,ZdM (by simp) (by omega),Option.bind_some,Option.bind_some,ZdM (by simp) (by omega),Option.bind_some,← Zfh hk]
     unfold nd Zag
     obtain ⟨a,l,rfl⟩:∃ a l,r=a::l:=by cases r with
      | nil=>simp at hk
      | cons a l=>exact ⟨a,l,rfl⟩
     simp
    ·rw [if_neg (by simp;omega),if_neg hk0,Option.bind_some,ZdM (by simp;omega) (by omega),Option.bind_some,← Zfh hk,Zf0 (k:=k+1) (by omega)]
   simp only [Zds,this,Option.map_some,Option.bind_some]
   rfl)
  (fun k b hk hb=>by rw [if_neg (by omega)])
  (fun b hb=>Znc _ _) (N:=N) (by omega) (b0:=[]) (by rw [if_pos rfl])
 rw [this.1,Option.bind_some,Option.bind_some,this.2,if_neg (by omega),List.take_of_length_le (by omega)]
def errR (t:Zi) (r:List Int):Int:=if Zeh t then (if ZaM t r then 0 else 310) else 260
theorem Zd4 {r:List Int} (h12:r.length≤100) (hN:200≤N):ZcO N t r=some (errR t r):=by
 unfold ZcO errR
 rw [Zdw (by omega),Option.bind_some]
 cases hT:Zeh t with
 | false=>rfl
 | true =>
  simp only [if_true,bne_self_eq_false,Bool.false_eq_true,if_false]
  rw [Zfd (Zbe.1 hT) h12 hN,Option.bind_some]
  cases ZaM t r<;>rfl
theorem Zgr {r:List Int}:errR t r=0↔Zeh t=true∧ZaM t r=true:=by
 unfold errR
 cases Zeh t<;>cases ZaM t r<;>simp
section
variable {r:List Int}
theorem Zje (h12:r.length≤100) (hN:200≤N) (he:errR t r ≠ 0):ZcN N t r=some ([],errR t r):=by
 unfold ZcN ZcE
 rw [Zd4 h12 hN]
 simp [he]
theorem Zj2 (h12:r.length≤100) (hN:200≤N) (he:errR t r ≠ 0):ZcX N t r=some (0,0,errR t r):=by
 unfold ZcX
 rw [Zje h12 hN he]
 simp [he]
theorem Zjd (h12:r.length≤100) (hN:200≤N) (he:errR t r=0):ZcN N t r=some (Zag t r,0):=by
 obtain ⟨hT,hv⟩:=Zgr.1 he
 unfold ZcN ZcE ZdA
 rw [Zd4 h12 hN,he]
 simp only [Option.bind_some,bne_self_eq_false,Bool.false_eq_true,if_false]
 rw [Zfe (Zbe.1 hT) hv hN]
 rfl
theorem Zj1 (h12:r.length≤100) (hN:200≤N) (he:errR t r=0):ZcX N t r=some (nd t r 0,nd t r r.length,0):=by
 have hlen:=Zc4 (t:=t) r
 unfold ZcX
 rw [Zjd h12 hN he]
 simp only [Option.bind_some,bne_self_eq_false,Bool.false_eq_true,if_false]
 rw [show (0:Int)=((0:Nat):Int) from rfl,ZcH (show 0<(Zag t r).length by omega),ZV (by omega) (by omega),show ((Zag t r).length:Int) - 1=((r.length:Nat):Int) by omega,ZcH (by omega),Zl1,Zl1]
 rfl
end
end
end Go.Sh
set_option linter.unusedVariables false
set_option linter.unusedSimpArgs false
namespace Go.Sh
open Go Go.Eng
section
variable {N:Nat} {t:Zi}
def Zmm (a b:List Int):Bool:=allB a.length fun i=>allB b.length fun k => !(w64 (Int.tdiv (at0 a i) 2)==w64 (Int.tdiv (at0 b k) 2))
theorem Zjc {a b:List Int} (ha:a.length≤100) (hb:b.length≤100) (hN:200≤N):Zec N a b=some (!Zmm a b):=by
 unfold Zec Zmm
 have h2:∀ i,i<a.length→Zac (fun x:Int=>ZbP N b (at0 a i) x) N 0=some (if allB b.length (fun k => !(w64 (Int.tdiv (at0 a i) 2)==w64 (Int.tdiv (at0 b k) 2))) then .inl () else .inr true):=fun i hi =>
  Za0 (n:=b.length) (fun k hk=>by
   unfold ZbP
   rw [if_pos (by simp;omega),ZcH hk,Option.bind_some,← Zg8 hk,ZW (by omega)]
   cases (w64 (Int.tdiv (at0 a i) 2)==w64 (Int.tdiv (at0 b k) 2))<;>rfl) (by unfold ZbP;rw [if_neg (by simp)]) (by omega)
 have:=Za0 (n:=a.length) (p:=fun i=>allB b.length fun k => !(w64 (Int.tdiv (at0 a i) 2)==w64 (Int.tdiv (at0 b k) 2))) (body:=fun x:Int=>ZbQ N a b x) (bad:=.inr true) (fin:=.inl ()) (fun i hi=>by
  unfold ZbQ
  rw [if_pos (by simp;omega),ZcH hi,Option.bind_some,← Zg8 hi,h2 i hi,ZW (by omega)]
  cases allB b.length (fun k => !(w64 (Int.tdiv (at0 a i) 2)==w64 (Int.tdiv (at0 b k) 2)))<;>rfl) (by unfold ZbQ;rw [if_neg (by simp)]) (N:=N) (by omega)
 rw [this]
 cases allB a.length (fun i=>allB b.length fun k => !(w64 (Int.tdiv (at0 a i) 2)==w64 (Int.tdiv (at0 b k) 2)))<;>rfl
def ZgY (A B:List Int):Bool:=(List.range' 1 (A.length - 2)).all fun i => !B.contains (at0 A i)
theorem ZfV {A B:List Int} (h1:2≤A.length) (hA:A.length≤100) (hB:B.length≤100) (hN:200≤N):Zc1 N A B=some (!ZgY A B):=by
 unfold Zc1 ZgY
 have:=ZnJ (n:=A.length - 1) (p:=fun i => !B.contains (at0 A i)) (body:=fun x:Int=>Zbx N A B x) (bad:=.inr true) (fin:=.inl ()) (fun i hi=>by
  unfold Zbx
  rw [if_pos (by rw [ZV (by omega) (by omega)];simp;omega),ZcH (by omega),Option.bind_some,← Zg8 (by omega),ZfE (by omega) (by omega),Option.bind_some,ZW (by omega)]
  cases B.contains (at0 A i)<;>rfl) (by unfold Zbx;rw [if_neg (by rw [ZV (by omega) (by omega)];simp;omega)]) (A.length - 2) N 1 (by omega) (by omega) (by omega)
 rw [show ((1:Nat):Int)=1 from rfl] at this
 rw [this]
 cases (List.range' 1 (A.length - 2)).all (fun i => !B.contains (at0 A i))<;>rfl
theorem ZgP (g:Good t) {a b:List Int} (hva:ZaM t a=true) (hvb:ZaM t b=true) (hN:200≤N):ZbU N ⟨t⟩ a b=some (!ZgY (Zag t a) (Zag t b)):=by
 obtain ⟨a1,a8,_⟩:=Zci hva
 obtain ⟨b1,b8,_⟩:=Zci hvb
 have hla:=Zc4 (t:=t) a
 have hlb:=Zc4 (t:=t) b
 unfold ZbU ZgY
 rw [Zfe g hva hN,Option.bind_some,Zfe g hvb hN,Option.bind_some]
 generalize hA:Zag t a=A at *
 generalize hB:Zag t b=B at *
 have hsub:subI A 1 (w64 ((A.length:Int) - 1))=some ((A.take (A.length - 1)).drop 1):=by
  rw [ZV (by omega) (by omega)]
  unfold subI
  rw [if_pos ⟨by omega,by omega,by omega⟩,show ((A.length:Int) - 1).toNat=A.length - 1 by omega]
  rfl
 rw [hsub,Option.bind_some]
 have hil:((A.take (A.length - 1)).drop 1).length=A.length - 2:=by simp;omega
 have:=Za0 (n:=A.length - 2) (p:=fun i => !B.contains (at0 A (i+1))) (body:=fun x:Int=>ZaQ N B ((A.take (A.length - 1)).drop 1) x) (bad:=.inr true) (fin:=.inl ()) (fun i hi=>by
  unfold ZaQ
  rw [if_pos (by rw [hil];simp;omega),ZcH (by omega),Option.bind_some]
  have e:((A.take (A.length - 1)).drop 1)[i]'(by omega)=at0 A (i+1):=by
   rw [Zg8 (by omega),List.getElem_drop,List.getElem_take]
   congr 1;omega
  rw [e,ZeG (by omega) (by omega),Option.bind_some,ZW (by omega)]
  cases B.contains (at0 A (i+1))<;>rfl) (by unfold ZaQ;rw [if_neg (by rw [hil];simp)]) (N:=N) (by omega)
 rw [this]
 have e2:(List.range' 1 (A.length - 2)).all (fun i => !B.contains (at0 A i))=allB (A.length - 2) (fun i => !B.contains (at0 A (i+1))):=by
  unfold allB
  rw [Bool.eq_iff_iff,List.all_eq_true,List.all_eq_true]
  constructor
  ·intro h i hi
   exact h (i+1) (by simp only [List.mem_range] at hi;simp only [List.mem_range'_1];omega)
  ·intro h i hi
   simp only [List.mem_range'_1] at hi
   have:=h (i - 1) (by simp only [List.mem_range];omega)
   rwa [show i - 1+1=i by omega] at this
 rw [e2]
 cases allB (A.length - 2) (fun i => !B.contains (at0 A (i+1)))<;>rfl
def ZjV (t:Zi) (a b:List Int):Bool:=Zmm a b&&(ZgY (Zag t a) (Zag t b)&&ZgY (Zag t b) (Zag t a))
theorem ZgT (g:Good t) {a b:List Int} (hva:ZaM t a=true) (hvb:ZaM t b=true) (hN:200≤N):Zcy N t a b=some (ZjV t a b):=by
 obtain ⟨a1,a8,pa⟩:=Zci hva
 obtain ⟨b1,b8,pb⟩:=Zci hvb
 have hla:=Zc4 (t:=t) a
 have hlb:=Zc4 (t:=t) b
 have hL:t.Links.length≤1000:=by have:=g.l24;omega
 unfold Zcy ZjV
 have h2:∀ i:Nat,i<a.length→Zac (fun x:Int=>Zcb N a b (i:Int) x) N 0=some (if allB b.length (fun k => !(w64 (Int.tdiv (at0 a i) 2)==w64 (Int.tdiv (at0 b k) 2))) then .inl () else .inr false):=fun i hi =>
  Za0 (n:=b.length) (fun k hk=>by
   unfold Zcb
   rw [if_pos (by simp;omega),ZcH hi,Option.bind_some,ZcH hk,Option.bind_some,← Zg8 hi,← Zg8 hk,ZW (by omega)]
   cases (w64 (Int.tdiv (at0 a i) 2)==w64 (Int.tdiv (at0 b k) 2))<;>rfl) (by unfold Zcb;rw [if_neg (by simp)]) (by omega)
 have:=Za0 (n:=a.length) (p:=fun i=>allB b.length fun k => !(w64 (Int.tdiv (at0 a i) 2)==w64 (Int.tdiv (at0 b k) 2))) (body:=fun x:Int=>Zcc N a b x) (bad:=.inr false) (fin:=.inl ()) (fun i hi=>by
  unfold Zcc
  rw [if_pos (by simp;omega),h2 i hi,ZW (by omega)]
  cases allB b.length (fun k => !(w64 (Int.tdiv (at0 a i) 2)==w64 (Int.tdiv (at0 b k) 2)))<;>rfl) (by unfold Zcc;rw [if_neg (by simp)]) (N:=N) (by omega)
 rw [this]
 unfold Zmm
 cases allB a.length (fun i=>allB b.length fun k => !(w64 (Int.tdiv (at0 a i) 2)==w64 (Int.tdiv (at0 b k) 2))) with
 | false=>rfl
 | true =>
  simp only [if_true,Option.bind_some,Bool.true_and]
  rw [Zff hL a1 (by omega) pa hN,Zff hL b1 (by omega) pb hN]
  simp only [Option.bind_some]
  rw [ZfV (by omega) (by omega) (by omega) hN,ZfV (by omega) (by omega) (by omega) hN]
  cases ZgY (Zag t a) (Zag t b)<;>cases ZgY (Zag t b) (Zag t a)<;>rfl
theorem Zj5 {a b:List Int} (ha:a.length≤100) (hb:b.length≤100) (hN:200≤N) :
  ZcP N t a b=some (if errR t a=0 then (if ZaM t b then (ZjV t a b,0) else (false,310)) else (false,errR t a)):=by
 unfold ZcP ZcD
 rw [Zd4 ha hN,Option.bind_some]
 by_cases he:errR t a=0
 ·obtain ⟨hT,hva⟩:=Zgr.1 he
  have g:=Zbe.1 hT
  rw [if_pos he,he]
  simp only [bne_self_eq_false,Bool.false_eq_true,if_false]
  unfold ZcY
  rw [Zfd g hb hN,Option.bind_some]
  cases hvb:ZaM t b with
  | false=>rfl
  | true =>
   simp only [Bool.not_true,Bool.false_eq_true,if_false,if_true]
   rw [Zjc ha hb hN,ZgP g hva hvb hN,ZgP g hvb hva hN]
   unfold ZjV
   cases Zmm a b<;>cases ZgY (Zag t a) (Zag t b)<;>cases ZgY (Zag t b) (Zag t a)<;>rfl
 ·rw [if_neg he]
  have:(errR t a != 0)=true:=by simpa using he
  rw [this]
  rfl
end
end Go.Sh
