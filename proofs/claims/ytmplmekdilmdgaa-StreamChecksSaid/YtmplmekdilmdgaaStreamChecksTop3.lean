/- Part of the proof; written by a program out of the texts in wip/. -/
import Derived.Test.YtmplmekdilmdgaaStreamChecksTop2
set_option linter.unusedVariables false
set_option linter.unusedSimpArgs false
namespace Go.Sh
open Go Go.Eng
theorem Zep {α:Type} {b:Nat} {l m:List α} (h:l.length+m.length≤1000) (hb:b≤1000):appI b l m=some (l++m):=by
 unfold appI
 have:(l.length+m.length) * b≤1000 * 1000:=Nat.mul_le_mul h hb
 rw [if_pos ⟨by omega,by omega⟩]
def at0 (r:List Int) (k:Nat):Int:=r.getD k 0
def ZcA (t:Zg) (p:Int):Bool:=decide (0≤p)&&decide (p<2 * (t.Links.length:Int))
def plk (t:Zg) (p:Int):Zu:=t.Links.getD (Int.tdiv p 2).toNat dL
def frm (t:Zg) (p:Int):Int:=if (Int.tmod p 2==1)=true then (plk t p).B else (plk t p).A
def too (t:Zg) (p:Int):Int:=if (Int.tmod p 2==1)=true then (plk t p).A else (plk t p).B
def Zaa (t:Zg) (r:List Int):List Int:=frm t (at0 r 0)::r.map (too t)
def nd (t:Zg) (r:List Int) (k:Nat):Int:=(Zaa t r).getD k 0
def okAt (t:Zg) (r:List Int) (k:Nat):Bool :=
 ZcA t (at0 r k)&&(((k==0)||((frm t (at0 r k)==nd t r k) && !stB t (nd t r k))) && !((Zaa t r).take (k+1)).contains (nd t r (k+1)))
def ZaG (t:Zg) (r:List Int):Bool:=decide (1≤r.length)&&(decide (r.length≤8)&&allB r.length (okAt t r))
section
variable {N:Nat} {t:Zg}
structure Good (t:Zg):Prop where
 n2:2≤t.Nodes
 n12:t.Nodes≤12
 st:(t.Station.length:Int)=t.Nodes
 l24:t.Links.length≤24
 links:∀ k,k<t.Links.length→ZdL t (lk t k)=true∧nojB t k=true
 nodes:∀ n,n<t.Nodes.toNat→(ZeX t 0).getD n false=true∧degB t n=true
theorem Za1:ZeD t=true↔Good t:=by
 unfold ZeD
 simp only [Bool.and_eq_true,decide_eq_true_eq,beq_iff_eq,ZaV]
 exact ⟨fun ⟨a,b,c,d,e,f⟩=>⟨a,b,c,d,e,f⟩,fun h=>⟨h.n2,h.n12,h.st,h.l24,h.links,h.nodes⟩⟩
theorem Zog {p:Int} (hp:ZcA t p=true):0≤Int.tdiv p 2∧Int.tdiv p 2<t.Links.length:=by
 simp only [ZcA,Bool.and_eq_true,decide_eq_true_eq] at hp
 rw [Int.tdiv_eq_ediv_of_nonneg hp.1]
 omega
theorem Zkr (hL:t.Links.length≤1000) {p:Int} (hp:ZcA t p=true):idx t.Links (w64 (Int.tdiv p 2))=some (plk t p):=by
 obtain ⟨h1,h2⟩:=Zog hp
 rw [Z5 (by omega) (by omega)]
 exact Zbk dL h1 h2
theorem Zc9 (hL:t.Links.length≤1000) {p:Int} (hp:ZcA t p=true):ZbR N t p=some (frm t p):=by
 unfold ZbR frm;rw [Zkr hL hp];simp only [Option.bind_some];split<;>rfl
theorem Zdw (hL:t.Links.length≤1000) {p:Int} (hp:ZcA t p=true):ZcJ N t p=some (too t p):=by
 unfold ZcJ too;rw [Zkr hL hp];simp only [Option.bind_some];split<;>rfl
theorem Zk8 (hL:t.Links.length≤1000) (p:Int):ZfB N t p=some (ZcA t p):=by
 unfold ZfB ZcA;rw [Z5 (by omega) (by omega)]
theorem Ze1 (g:Good t) {p:Int} (hp:ZcA t p=true):ZdA t (frm t p)=true∧ZdA t (too t p)=true∧frm t p ≠ too t p:=by
 obtain ⟨h1,h2⟩:=Zog hp
 have:=Zb2 (g.links (Int.tdiv p 2).toNat (by omega)).1
 unfold frm too
 split
 ·exact ⟨this.2.1,this.1,Ne.symm this.2.2⟩
 ·exact this
theorem ZcX {α:Type} {l:List α} {k:Nat} (h:k<l.length) (d:α):l.getD k d=l[k]:=by simp [List.getD_eq_getElem?_getD,h]
theorem Zhz {r:List Int} {k:Nat} (h:k<r.length):at0 r k=r[k]:=ZcX h 0
theorem Zda (r:List Int):(Zaa t r).length=r.length+1:=by simp [Zaa]
theorem Zfq {r:List Int} {k:Nat} (h:k<r.length):nd t r (k+1)=too t (at0 r k):=by
 unfold nd Zaa
 rw [List.getD_cons_succ,ZcX (by simpa using h),Zhz h,List.getElem_map]
theorem nd_zero (r:List Int):nd t r 0=frm t (at0 r 0):=rfl
theorem ZlY {r:List Int} {k:Nat} (h:k<(Zaa t r).length):(Zaa t r)[k]=nd t r k:=by unfold nd;rw [ZcX h]
theorem nd_node (g:Good t) {r:List Int} (hp:∀ k,k<r.length→ZcA t (at0 r k)=true) (h1:1≤r.length) {k:Nat} (hk:k≤r.length):ZdA t (nd t r k)=true:=by
 cases k with
 | zero=>exact (Ze1 g (hp 0 (by omega))).1
 | succ k=>rw [Zfq (by omega)];exact (Ze1 g (hp k (by omega))).2.1
theorem Zfo (hL:t.Links.length≤1000) {r:List Int} (h1:1≤r.length) (h12:r.length≤100) (hp:∀ k,k<r.length→ZcA t (at0 r k)=true) (hN:200≤N):Zcw N t r=some (Zaa t r):=by
 unfold Zcw
 have e0:idx r 0=some (at0 r 0):=by unfold at0;exact Zbk 0 (Int.le_refl _) (by omega)
 rw [e0,Option.bind_some,Zc9 hL (hp 0 (by omega)),Option.bind_some]
 have hlen:=Zda (t:=t) r
 have:=ZcF (n:=r.length) (f:=fun b k=>(Zaa t r).take (k+2)) (body:=fun x:Int × (List Int)=>Zba N t r x.1 x.2) (fin:=fun b=>b) (fun k b=>b=(Zaa t r).take (k+1))
  (fun k b hk hb=>by
   show Zba N t r k b=_
   unfold Zba
   subst hb
   rw [if_pos (by simp;omega),ZcB hk,Option.bind_some]
   have e:r[k]=at0 r k:=(Zhz hk).symm
   rw [e,Zdw hL (hp k hk),Option.bind_some,Zep (by simp;omega) (by omega),Option.bind_some,ZS (by omega)]
   rw [← Zfq hk,← ZlY (by omega),List.take_append_getElem])
  (fun k b hk hb=>rfl)
  (fun b hb=>by show Zba N t r r.length b=_;unfold Zba;rw [if_neg (by simp)]) (N:=N) (by omega) (b0:=[frm t (at0 r 0)]) (by simp [Zaa])
 rw [this.1,Option.bind_some,this.2,List.take_of_length_le (by omega)]
theorem Zka (g:Good t) {r:List Int} (h12:r.length≤100) (hN:200≤N):Zb9 N t r=some (ZaG t r):=by
 have hL:t.Links.length≤1000:=by have:=g.l24;omega
 unfold Zb9 ZaG
 by_cases h1:1≤r.length
 ·by_cases h8:r.length≤8
  ·rw [if_neg (by simp;omega)]
   have a1:=Zau (n:=r.length) (p:=fun k=>ZcA t (at0 r k)) (body:=fun x:Int=>Zb8 N t r x) (bad:=.inr false) (fin:=.inl ()) (fun k hk=>by
    unfold Zb8
    rw [if_pos (by simp;omega),ZcB hk,Option.bind_some,Zk8 hL,Option.bind_some,ZS (by omega),Zhz hk]
    cases ZcA t r[k]<;>rfl) (by unfold Zb8;rw [if_neg (by simp)]) (N:=N) (by omega)
   rw [a1,Option.bind_some]
   simp only [h1,h8,decide_true,Bool.true_and]
   cases hp:allB r.length (fun k=>ZcA t (at0 r k)) with
   | false =>
    have:allB r.length (okAt t r)=false:=by
     rw [← Bool.not_eq_true,ZaV]
     rw [← Bool.not_eq_true,ZaV] at hp
     intro h
     exact hp fun k hk=>by have:=h k hk;simp only [okAt,Bool.and_eq_true] at this;exact this.1
    rw [this];rfl
   | true =>
    rw [ZaV] at hp
    simp only [if_true]
    rw [Zfo hL h1 h12 hp hN,Option.bind_some]
    have hlen:=Zda (t:=t) r
    have a2:=Zau (n:=r.length+1) (p:=fun i => !((Zaa t r).take i).contains (nd t r i) && !(decide (0<i)&&(decide (i<r.length)&&(stB t (nd t r i) || !(frm t (at0 r i)==nd t r i)))))
     (body:=fun x:Int=>Zb7 N t r (Zaa t r) x) (bad:=.inr false) (fin:=.inl ()) (fun i hi=>by
     unfold Zb7
     have hi':i<(Zaa t r).length:=by omega
     have hsub:subI (Zaa t r) 0 (i:Int)=some ((Zaa t r).take i):=by
      unfold subI
      rw [if_pos ⟨by omega,by omega,by omega⟩]
      simp
     rw [if_pos (by simp;omega),hsub,Option.bind_some,ZcB hi',Option.bind_some,ZlY hi',ZfN (by simp;omega) (by simp;omega),Option.bind_some,ZS (by omega)]
     cases hc:((Zaa t r).take i).contains (nd t r i) with
     | true=>rfl
     | false =>
      by_cases hi0:0<i
      ·by_cases hil:i<r.length
       ·have e1:decide ((i:Int) > 0)=true:=by simp;omega
        have e2:decide ((i:Int)<(r.length:Int))=true:=by simp;omega
        rw [e1,e2,ZcB hil]
        have e3:r[i]=at0 r i:=(Zhz hil).symm
        rw [e3]
        simp only [Bool.false_eq_true,if_false,if_true,Option.bind_some]
        rw [Zeu g.st (nd_node g hp h1 (by omega)),Zc9 hL (hp i hil)]
        simp only [hi0,hil,decide_true,Bool.true_and,Bool.not_false,bne,Option.bind_some]
        cases stB t (nd t r i)<;>cases (frm t (at0 r i)==nd t r i)<;>rfl
       ·have e1:decide ((i:Int) > 0)=true:=by simp;omega
        have e2:decide ((i:Int)<(r.length:Int))=false:=by simp;omega
        rw [e1,e2];simp [hil]
      ·have e1:decide ((i:Int) > 0)=false:=by simp;omega
       rw [e1];simp [hi0]) (by unfold Zb7;rw [if_neg (by simp;omega)]) (N:=N) (by omega)
    rw [a2,Option.bind_some]
    have:allB (r.length+1) (fun i => !((Zaa t r).take i).contains (nd t r i) && !(decide (0<i)&&(decide (i<r.length)&&(stB t (nd t r i) || !(frm t (at0 r i)==nd t r i)))))=allB r.length (okAt t r):=by
     rw [Bool.eq_iff_iff,ZaV,ZaV]
     constructor
     ·intro h k hk
      have q1:=h k (by omega)
      have q2:=h (k+1) (by omega)
      simp only [Bool.and_eq_true] at q1 q2
      simp only [okAt,Bool.and_eq_true]
      refine ⟨hp k hk,?_,q2.1⟩
      by_cases hk0:k=0
      ·simp [hk0]
      ·have:=q1.2
       simp only [show 0<k by omega,hk,decide_true,Bool.true_and,Bool.not_eq_true',Bool.or_eq_false_iff] at this
       simp only [Bool.or_eq_true,Bool.and_eq_true,Bool.not_eq_true']
       right
       exact ⟨by simpa using this.2,this.1⟩
     ·intro h i hi
      simp only [Bool.and_eq_true]
      constructor
      ·cases i with
       | zero=>simp
       | succ i =>
        have:=h i (by omega)
        simp only [okAt,Bool.and_eq_true] at this
        exact this.2.2
      ·by_cases hi0:0<i
       ·by_cases hil:i<r.length
        ·have:=h i hil
         simp only [okAt,Bool.and_eq_true,Bool.or_eq_true,Bool.not_eq_true'] at this
         have h2:=this.2.1
         rcases h2 with h2 | ⟨h2,h3⟩
         ·simp at h2;omega
         ·simp [h2,h3]
        ·simp [hil]
       ·simp [hi0]
    rw [this]
    cases allB r.length (okAt t r)<;>rfl
  ·rw [if_pos (by simp;omega)];simp [h8]
 ·rw [if_pos (by simp;omega)];simp [h1]
theorem ZjB {σ:Type} (hL:t.Links.length≤1000) (y:σ→Int→ZaE→Option (σ × Bool)) {r:List Int} (g:σ) {k:Nat} (hk:k<r.length) (hk':k<1000):ZR N y r ⟨t⟩ (k:Int) g =
  if ZcA t (at0 r k)=true then (y g k ⟨at0 r k,frm t (at0 r k),too t (at0 r k)⟩).bind fun q=>if (!q.2)=true then some (.inr q.1) else some (.inl (((k+1:Nat):Int),q.1)) else some (.inr g):=by
 unfold ZR
 rw [if_pos (by simp;omega),ZcB hk,Option.bind_some,← Zhz hk,ZS (by omega)]
 simp only
 have hpo:(if decide (at0 r k<0)=true then some true else some (decide (at0 r k ≥ w64 (2 * (t.Links.length:Int)))))=some (!ZcA t (at0 r k)):=by
  rw [Z5 (by omega) (by omega)]
  unfold ZcA
  by_cases h1:at0 r k<0
  ·rw [if_pos (by simpa using h1)];simp [show ¬ (0≤at0 r k) by omega]
  ·rw [if_neg (by simpa using h1)]
   by_cases h2:at0 r k<2 * (t.Links.length:Int)
   ·rw [decide_eq_false (by omega),decide_eq_true (show 0≤at0 r k by omega),decide_eq_true h2];rfl
   ·rw [decide_eq_true (by omega),decide_eq_true (show 0≤at0 r k by omega),decide_eq_false h2];rfl
 rw [hpo,Option.bind_some]
 cases hp:ZcA t (at0 r k) with
 | false=>rfl
 | true =>
  rw [Zkr hL hp]
  simp only [Bool.not_true,Bool.false_eq_true,if_false,Option.bind_some,if_true]
  unfold frm too
  split<;>rfl
theorem Znb {σ:Type} (y:σ→Int→ZaE→Option (σ × Bool)) {r:List Int} (g:σ):ZR N y r ⟨t⟩ (r.length:Int) g=some (.inr g):=by
 unfold ZR
 rw [if_neg (by simp)]
theorem ZjR {a:Zo} {x:Int} (h0:0≤x) (h:x<12):a.get x=some (a.l.getD x.toNat false):=by
 unfold Zo.get
 exact Zbk false h0 (by show x<((12:Nat):Int);omega)
theorem Zmg {a:Zo} {x:Int} {v:Bool} {y:Nat} (h0:0≤x) (h:x<12):(a.set x v).l.getD y false=if y=x.toNat then v else a.l.getD y false:=by
 rw [Zo.l_set]
 have hlen:a.l.length=12:=rfl
 rw [List.getD_eq_getElem?_getD,List.getD_eq_getElem?_getD,List.getElem?_set]
 by_cases e:y=x.toNat
 ·subst e
  rw [if_pos rfl,if_pos (by omega),if_pos rfl]
  rfl
 ·rw [if_neg (Ne.symm e),if_neg e]
def VInv (t:Zg) (r:List Int) (k:Nat) (v:Int × Int × Zo):Prop :=
 v.1=k∧(0<k→v.2.1=nd t r k)∧∀ x:Nat,x<12→v.2.2.l.getD x false=(decide (0<k)&&((Zaa t r).take (k+1)).contains (x:Int))
theorem Zf8 {r:List Int} {k:Nat} (h:k<(Zaa t r).length):(Zaa t r).take (k+1)=(Zaa t r).take k++[nd t r k]:=by
 rw [← ZlY h,List.take_append_getElem]
theorem Znq (g:Good t) {r:List Int} {k:Nat} (hk:k<r.length) (h12:r.length≤100) (hpre:∀ j,j<k→ZcA t (at0 r j)=true) (hp:ZcA t (at0 r k)=true) {v:Int × Int × Zo} (hv:VInv t r k v) :
  ∃ v' e,Zan N ⟨t⟩ v.1 v.2.1 v.2.2 (k:Int) ⟨at0 r k,frm t (at0 r k),too t (at0 r k)⟩=some (v',e)∧((e=0∧okAt t r k=true∧VInv t r (k+1) v')∨(e=1∧okAt t r k=false∧v'.1=k)):=by
 obtain ⟨good,at_,seen⟩:=v
 obtain ⟨e1,e2,e3⟩:=hv
 simp only at e1 e2 e3
 subst e1
 obtain ⟨f1,f2,f3⟩:=Ze1 g hp
 rw [ZeY] at f1 f2
 have hn:=g.n12
 have hlen:=Zda (t:=t) r
 have hpk:∀ j,j<k+1→ZcA t (at0 r j)=true:=fun j hj=>by
  by_cases e:j=k
  ·subst e;exact hp
  ·exact hpre j (by omega)
 have hmem:∀ (s:Zo),(∀ x:Nat,x<12→s.l.getD x false=((Zaa t r).take (k+1)).contains (x:Int)) →
   s.l.getD (too t (at0 r k)).toNat false=((Zaa t r).take (k+1)).contains (nd t r (k+1)) ∧
   (((Zaa t r).take (k+1)).contains (nd t r (k+1))=false→VInv t r (k+1) (w64 ((k:Int)+1),too t (at0 r k),s.set (too t (at0 r k)) true)):=by
  intro s hs
  constructor
  ·rw [hs _ (by omega),Zfq hk,Int.toNat_of_nonneg f2.1]
  ·intro hc
   refine ⟨by simp only;rw [ZS (by omega)],fun _=>(Zfq hk).symm,fun x hx => ?_⟩
   simp only
   rw [Zmg f2.1 (by omega),Zf8 (by omega),List.contains_append,Zfq hk]
   simp only [show 0<k+1 by omega,decide_true,Bool.true_and,List.contains_cons,List.contains_nil,Bool.or_false]
   by_cases e:x=(too t (at0 r k)).toNat
   ·rw [if_pos e]
    have:((x:Int)==too t (at0 r k))=true:=by simp;omega
    rw [this,Bool.or_true]
   ·rw [if_neg e,hs x hx]
    have:((x:Int)==too t (at0 r k))=false:=by simp;omega
    rw [this,Bool.or_false]
 unfold Zan okAt
 by_cases hk0:k=0
 ·subst hk0
  rw [if_pos (by simp)]
  simp only
  rw [ZjR f1.1 (by omega),Option.bind_some,ZjR f2.1 (by omega),Option.bind_some]
  have hs0:∀ x:Nat,x<12→(seen.set (frm t (at0 r 0)) true).l.getD x false=((Zaa t r).take (0+1)).contains (x:Int):=fun x hx=>by
   rw [Zmg f1.1 (by omega)]
   have he:seen.l.getD x false=false:=by rw [e3 x hx];simp
   rw [he]
   show _=[frm t (at0 r 0)].contains (x:Int)
   simp only [List.contains_cons,List.contains_nil,Bool.or_false]
   by_cases e:x=(frm t (at0 r 0)).toNat
   ·rw [if_pos e];symm;simp;omega
   ·rw [if_neg e];symm;simp;omega
  obtain ⟨m1,m2⟩:=hmem _ hs0
  rw [m1]
  have hc:((Zaa t r).take (0+1)).contains (nd t r (0+1))=false:=by
   show [frm t (at0 r 0)].contains _=false
   rw [Zfq hk]
   simp only [List.contains_cons,List.contains_nil,Bool.or_false]
   simp [Ne.symm f3]
  rw [hc]
  refine ⟨_,0,rfl,.inl ⟨rfl,?_,m2 hc⟩⟩
  rw [hp];rfl
 ·rw [if_neg (by simp;omega)]
  simp only
  have ha:=e2 (by omega)
  subst ha
  have hst:idx t.Station (nd t r k)=some (stB t (nd t r k)):=by
   apply Zeu g.st
   obtain ⟨j,rfl⟩:∃ j,k=j+1:=⟨k - 1,by omega⟩
   rw [Zfq (by omega)]
   exact (Ze1 g (hpre j (by omega))).2.1
  have hs1:∀ x:Nat,x<12→seen.l.getD x false=((Zaa t r).take (k+1)).contains (x:Int):=fun x hx=>by rw [e3 x hx];simp [show 0<k by omega]
  obtain ⟨m1,m2⟩:=hmem _ hs1
  rw [hst,hp,show (k==0)=false by simp [hk0]]
  simp only [Option.bind_some,bne,Bool.false_or,Bool.true_and]
  cases hf:(frm t (at0 r k)==nd t r k) with
  | false=>exact ⟨_,1,rfl,.inr ⟨rfl,rfl,rfl⟩⟩
  | true =>
   cases hs:stB t (nd t r k) with
   | true=>exact ⟨_,1,rfl,.inr ⟨rfl,rfl,rfl⟩⟩
   | false =>
    simp only [Bool.not_true,Bool.false_eq_true,if_false,Option.bind_some]
    rw [ZjR f2.1 (by omega),Option.bind_some,Option.bind_some,m1]
    cases hc:((Zaa t r).take (k+1)).contains (nd t r (k+1)) with
    | true=>exact ⟨_,1,rfl,.inr ⟨rfl,rfl,rfl⟩⟩
    | false=>exact ⟨_,0,rfl,.inl ⟨rfl,rfl,m2 hc⟩⟩
theorem Znr (g:Good t) {r:List Int} (h12:r.length≤100):∀ (n N k:Nat) (v:Int × Int × Zo),r.length - k=n→k≤r.length→n<N→(∀ j,j<k→okAt t r j=true)→VInv t r k v→∀ M:Nat,
  ∃ s:(Int × Int × Zo) × Nat,Z2 (fun x:Int × ((Int × Int × Zo) × Nat)=>ZR M (fun (s:(Int × Int × Zo) × Nat) (x522:Int) (x523:ZaE)=>Zie (fun v:Int × Int × Zo=>Zan M ⟨t⟩ v.1 v.2.1 v.2.2 x522 x523) s) r ⟨t⟩ x.1 x.2) N ((k:Int),(v,0))=some s ∧
   (s.2=0∨s.2=1)∧(s.1.1==(r.length:Int))=allB r.length (okAt t r):=by
 have hL:t.Links.length≤1000:=by have:=g.l24;omega
 intro n
 induction n with
 | zero =>
  intro N k v h1 h2 h3 hpre hv M
  obtain rfl:k=r.length:=by omega
  cases N with
  | zero=>omega
  | succ N =>
   refine ⟨(v,0),by rw [Zbr (Znb _ _)],.inl rfl,?_⟩
   rw [hv.1,ZaV.2 hpre]
   simp
 | succ n ih =>
  intro N k v h1 h2 h3 hpre hv M
  have hk:k<r.length:=by omega
  cases N with
  | zero=>omega
  | succ N =>
   have hbad:okAt t r k=false→(((k:Nat):Int)==(r.length:Int))=allB r.length (okAt t r):=fun hb=>by
    have e1:(((k:Nat):Int)==(r.length:Int))=false:=by simp;omega
    rw [e1];symm
    rw [← Bool.not_eq_true,ZaV]
    intro h;rw [h k hk] at hb;cases hb
   cases hp:ZcA t (at0 r k) with
   | false =>
    refine ⟨(v,0),?_,.inl rfl,?_⟩
    ·rw [Zbr]
     show ZR M _ r ⟨t⟩ (k:Int) (v,0)=_
     rw [ZjB hL _ _ hk (by omega),if_neg (by rw [hp];simp)]
    ·simp only [hv.1]
     exact hbad (by unfold okAt;rw [hp];rfl)
   | true =>
    obtain ⟨v',e,s1,s2⟩:=Znq (N:=M) g hk h12 (fun j hj=>by have:=hpre j hj;simp only [okAt,Bool.and_eq_true] at this;exact this.1) hp hv
    have hy:ZR M (fun (s:(Int × Int × Zo) × Nat) (x522:Int) (x523:ZaE)=>Zie (fun v:Int × Int × Zo=>Zan M ⟨t⟩ v.1 v.2.1 v.2.2 x522 x523) s) r ⟨t⟩ (k:Int) (v,0) =
      if (!(e==0))=true then some (.inr (v',e)) else some (.inl (((k+1:Nat):Int),(v',e))):=by
     rw [ZjB hL _ _ hk (by omega),if_pos hp]
     simp only [Zie,if_true,s1,Option.map_some,Option.bind_some]
    rcases s2 with ⟨rfl,s3,s4⟩ | ⟨rfl,s3,s4⟩
    ·rw [Zdp (y:=(((k+1:Nat):Int),(v',0))) hy]
     exact ih N (k+1) v' (by omega) (by omega) (by omega) (fun j hj=>by
      by_cases e:j=k
      ·subst e;exact s3
      ·exact hpre j (by omega)) s4 M
    ·refine ⟨(v',1),by rw [Zbr (r:=(v',1)) hy],.inr rfl,?_⟩
     rw [s4];exact hbad s3
theorem Zfk (g:Good t) {r:List Int} (h12:r.length≤100) (hN:200≤N):ZaY N ⟨t⟩ r=some (ZaG t r):=by
 unfold ZaY ZaG
 by_cases h1:1≤r.length
 ·by_cases h8:r.length≤8
  ·rw [if_neg (by simp;omega)]
   simp only [h1,h8,decide_true,Bool.true_and]
   obtain ⟨s,s1,s2,s3⟩:=Znr g h12 r.length N 0 (0,0,⟨false,false,false,false,false,false,false,false,false,false,false,false⟩) (by omega) (by omega) (by omega) (fun j hj=>by omega) ⟨rfl,fun h=>by omega,fun x hx=>by
    simp only [Nat.lt_irrefl,decide_false,Bool.false_and]
    revert x
    decide⟩ N
   unfold Zck ZbD
   simp only [Option.bind_some]
   rw [show ((0:Nat):Int)=0 from rfl] at s1
   rw [s1]
   simp only [Option.bind_some]
   rcases s2 with e | e
   ·rw [e];simp only [beq_self_eq_true,if_true,Option.bind_some];rw [s3]
   ·rw [e];simp only [show ((1:Nat)==0)=false from rfl,beq_self_eq_true,Bool.false_eq_true,if_false,if_true,Option.bind_some];rw [s3]
  ·rw [if_pos (by simp;omega)];simp [h8]
 ·rw [if_pos (by simp;omega)];simp [h1]
end
end Go.Sh

