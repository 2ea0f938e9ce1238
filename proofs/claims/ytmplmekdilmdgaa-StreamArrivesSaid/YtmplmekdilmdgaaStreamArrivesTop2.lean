/- Part of the proof; written by a program out of the texts in wip/. -/
import Derived.Test.YtmplmekdilmdgaaStreamArrivesTop1
set_option linter.unusedVariables false
set_option linter.unusedSimpArgs false
namespace Go.Sh
open Go Go.Eng
def stB (t:Ze) (x:Int):Bool:=t.Station.getD x.toNat false
def Zc5 (t:Ze) (x:Int):Bool:=decide (0≤x)&&decide (x<t.Nodes)
def dL:Zs:=⟨0,0,0,0⟩
def lk (t:Ze) (k:Nat):Zs:=t.Links.getD k dL
def Zee (t:Ze) (l:Zs):Bool :=
 Zc5 t l.A&&(Zc5 t l.B&&(!(l.A==l.B)&&(!(stB t l.A&&stB t l.B)&&(decide (l.Per ≥ 1)&&(decide (l.Per≤1000)&&(decide (l.Delay ≥ 0)&&decide (l.Delay≤10000)))))))
def Zet (l:Zs) (a b:Int):Bool:=(l.A==a&&l.B==b)||(l.A==b&&l.B==a)
def nojB (t:Ze) (k:Nat):Bool:=allB k fun j => !Zet (lk t j) (lk t k).A (lk t k).B
def bump (b:List Int) (x:Int):List Int:=b.set x.toNat (w64 (b.getD x.toNat 0+1))
def Zjy (b:List Int) (l:Zs):List Int:=bump (bump b l.A) l.B
def degs (t:Ze):List Int:=(List.range t.Links.length).foldl (fun b k=>Zjy b (lk t k)) (List.replicate t.Nodes.toNat 0)
def degB (t:Ze) (n:Nat):Bool := !(stB t n)||(decide (1≤(degs t).getD n 0)&&decide ((degs t).getD n 0≤2))
def Zfs (l:List Bool) (k:Zs):List Bool:=if l.getD k.A.toNat false||l.getD k.B.toNat false then (l.set k.A.toNat true).set k.B.toNat true else l
def ZhC (t:Ze) (l:List Bool):List Bool:=(List.range t.Links.length).foldl (fun b k=>Zfs b (lk t k)) l
def ZhD (t:Ze) (m:Int):List Bool:=(List.range t.Nodes.toNat).foldl (fun l _=>ZhC t l) ((List.replicate t.Nodes.toNat false).set m.toNat true)
def ZeL (t:Ze):Bool :=
 decide (2≤t.Nodes)&&(decide (t.Nodes≤12)&&(((t.Station.length:Int)==t.Nodes)&&(decide (t.Links.length≤24) &&
  (allB t.Links.length (fun k=>Zee t (lk t k)&&nojB t k)&&(allB t.Nodes.toNat (fun n=>(ZhD t 0).getD n false&&degB t n))))))
section
variable {N:Nat} {t:Ze}
theorem ZnF {k:Nat} (h:k<t.Links.length):idx t.Links (k:Int)=some (lk t k):=by
 rw [Zcl h];simp [lk,List.getD_eq_getElem?_getD,h]
theorem ZdQ (hS:(t.Station.length:Int)=t.Nodes) {x:Int} (h:Zc5 t x=true):idx t.Station x=some (stB t x):=by
 simp only [Zc5,Bool.and_eq_true,decide_eq_true_eq] at h
 exact ZcI false h.1 (by omega)
theorem ZgL (x:Int):Zd1 N t x=some (Zc5 t x):=by simp [Zd1,Zc5]
theorem ZkP (x:Int):ZeK N t x=some (Zc5 t x):=by simp [ZeK,Zc5]
theorem Zkk (hS:(t.Station.length:Int)=t.Nodes) (l:Zs):ZeR N t l=some (Zee t l):=by
 unfold ZeR Zee
 rw [ZgL,ZgL]
 simp only [Option.bind_some]
 cases hA:Zc5 t l.A with
 | false=>rfl
 | true =>
  cases hB:Zc5 t l.B with
  | false=>rfl
  | true =>
   rw [ZdQ hS hA,ZdQ hS hB]
   cases (l.A==l.B)<;>cases stB t l.A<;>cases stB t l.B<;>rfl
theorem Zjr (l:Zs) (a b:Int):Zed N l a b=some (Zet l a b):=by
 unfold Zed Zet
 cases l.A==a<;>cases l.B==b<;>cases l.A==b<;>cases l.B==a<;>rfl
theorem ZkC (a b:Int):(a==b)=(b==a):=by
 by_cases h:a=b
 ·subst h;rfl
 ·rw [beq_false_of_ne h,beq_false_of_ne (Ne.symm h)]
theorem Zob (hL:t.Links.length<100) (hN:t.Links.length<N) {k:Nat} (hk:k<t.Links.length):ZdE N (k:Int) t=some (nojB t k):=by
 unfold ZdE
 rw [ZnF hk,Option.bind_some]
 have hsub:subI t.Links 0 (k:Int)=some (t.Links.take k):=by
  unfold subI
  rw [if_pos ⟨by omega,by omega,by omega⟩]
  simp
 rw [hsub,Option.bind_some]
 have hlen:(t.Links.take k).length=k:=by simp;omega
 have:=ZaU (n:=k) (p:=fun j => !Zet (lk t j) (lk t k).A (lk t k).B) (body:=fun x:Int=>Zbn N (lk t k) (t.Links.take k) x) (bad:=.inr false) (fin:=.inl ()) (fun j hj=>by
  unfold Zbn
  have hj':j<(t.Links.take k).length:=by omega
  rw [if_pos (by rw [hlen];simp;omega),Zcl hj',Option.bind_some,Z1 (by omega)]
  have e:(t.Links.take k)[j]=lk t j:=by simp [lk,List.getD_eq_getElem?_getD,show j<t.Links.length by omega]
  rw [e]
  unfold Zet
  rw [ZkC (lk t k).A (lk t j).A,ZkC (lk t k).B (lk t j).B,ZkC (lk t k).A (lk t j).B,ZkC (lk t k).B (lk t j).A]
  cases (lk t j).A==(lk t k).A<;>cases (lk t j).B==(lk t k).B<;>cases (lk t j).A==(lk t k).B<;>cases (lk t j).B==(lk t k).A<;>rfl) (by unfold Zbn;rw [if_neg (by rw [hlen];simp)]) (N:=N) (by omega)
 rw [this]
 unfold nojB
 cases allB k fun j => !Zet (lk t j) (lk t k).A (lk t k).B<;>rfl
theorem Zj6 (hS:(t.Station.length:Int)=t.Nodes) (hL:t.Links.length<100) (hN:t.Links.length<N):ZeI N t=some (allB t.Links.length (fun k=>Zee t (lk t k)&&nojB t k)):=by
 unfold ZeI
 have:=ZaU (n:=t.Links.length) (p:=fun k=>Zee t (lk t k)&&nojB t k) (body:=fun x:Int=>ZbY N t x) (bad:=.inr false) (fin:=.inl ()) (fun k hk=>by
  unfold ZbY
  rw [if_pos (by simp;omega),Zob hL hN hk,Z1 (by omega)]
  unfold Zem Zel Zek
  rw [ZnF hk]
  simp only [Option.bind_some,ZkP]
  unfold Zee
  cases hA:Zc5 t (lk t k).A with
  | false=>rfl
  | true =>
   cases hB:Zc5 t (lk t k).B with
   | false=>rfl
   | true =>
    simp only [if_true,Option.bind_some]
    rw [ZdQ hS hA,ZdQ hS hB]
    simp only [bne,Option.bind_some]
    generalize (decide ((lk t k).Per ≥ 1)&&(decide ((lk t k).Per≤1000)&&(decide ((lk t k).Delay ≥ 0)&&decide ((lk t k).Delay≤10000))))=q
    cases ((lk t k).A==(lk t k).B)<;>cases stB t (lk t k).A<;>cases stB t (lk t k).B<;>cases nojB t k<;>cases q<;>rfl) (by unfold ZbY;rw [if_neg (by simp)]) (N:=N) hN
 rw [this]
 cases allB t.Links.length (fun k=>Zee t (lk t k)&&nojB t k)<;>rfl
theorem ZmB (b:List Int) (x:Int):(bump b x).length=b.length:=by simp [bump]
theorem Zlw (b:List Int) (l:Zs):(Zjy b l).length=b.length:=by simp [Zjy,ZmB]
theorem Zcs {l:Zs} (h:Zee t l=true):Zc5 t l.A=true∧Zc5 t l.B=true∧l.A ≠ l.B:=by
 simp only [Zee,Bool.and_eq_true] at h
 refine ⟨h.1,h.2.1,?_⟩
 have:=h.2.2.1
 intro e
 simp [e] at this
theorem ZeV {x:Int}:Zc5 t x=true↔0≤x∧x<t.Nodes:=by simp [Zc5]
theorem ZoB {b:List Int} (hb:(b.length:Int)=t.Nodes) {l:Zs} (hA:Zc5 t l.A=true) (hB:Zc5 t l.B=true) :
  idx b l.A=some (b.getD l.A.toNat 0)∧idx (b.set l.A.toNat (w64 (b.getD l.A.toNat 0+1))) l.B=some ((bump b l.A).getD l.B.toNat 0):=by
 rw [ZeV] at hA hB
 exact ⟨ZcI 0 hA.1 (by omega),ZcI 0 hB.1 (by simp;omega)⟩
theorem ZkQ (hT:allB t.Links.length (fun k=>Zee t (lk t k)&&nojB t k)=true) (hn:0≤t.Nodes) (hL:t.Links.length<100) (hN:t.Links.length<N) :
  Zae (fun x:Int × (List Int)=>ZaW N t x.1 x.2) N (0,List.replicate t.Nodes.toNat 0)=some (degs t)∧((degs t).length:Int)=t.Nodes:=by
 have:=Zc3 (n:=t.Links.length) (f:=fun b k=>Zjy b (lk t k)) (body:=fun x:Int × (List Int)=>ZaW N t x.1 x.2) (fin:=fun b=>b) (fun _ b=>(b.length:Int)=t.Nodes)
  (fun k b hk hb=>by
   have hl:=ZaP.1 hT k hk
   simp only [Bool.and_eq_true] at hl
   obtain ⟨hA,hB,_⟩:=Zcs hl.1
   obtain ⟨i1,i2⟩:=ZoB hb hA hB
   show ZaW N t k b=_
   unfold ZaW
   rw [if_pos (by simp;omega),ZnF hk,Option.bind_some,i1]
   simp only [Option.bind_some,i2,Z1 (show k<1000000 by omega)]
   rfl)
  (fun k b hk hb=>by rw [Zlw];exact hb)
  (fun b hb=>by show ZaW N t t.Links.length b=_;unfold ZaW;rw [if_neg (by simp)]) hN (b0:=List.replicate t.Nodes.toNat 0) (by simp;omega)
 exact this
theorem ZkZ (l:List Bool) (k:Zs):(Zfs l k).length=l.length:=by unfold Zfs;split<;>simp
theorem Zmh {l:List Bool} {i:Nat} (h:l.getD i false=true):l.set i true=l:=by
 apply List.ext_getElem?
 intro j
 rw [List.getElem?_set]
 by_cases e:i=j
 ·subst e
  rw [if_pos rfl]
  split
  ·rename_i hl
   rw [List.getElem?_eq_getElem hl]
   simp [List.getD_eq_getElem?_getD,hl] at h
   rw [h]
  ·rename_i hl
   rw [List.getElem?_eq_none (by omega)]
 ·rw [if_neg e]
theorem Zfc {l:List Bool} {i j:Nat} (h:l.getD j false=true):(l.set i true).getD j false=true:=by
 rw [List.getD_eq_getElem?_getD] at h ⊢
 rw [List.getElem?_set]
 split
 ·split
  ·rfl
  ·rename_i e hl
   rw [List.getElem?_eq_none (by omega)] at h
   cases h
 ·exact h
theorem Zii (hT:allB t.Links.length (fun k=>Zee t (lk t k)&&nojB t k)=true) (hL24:t.Links.length≤24) (hN:t.Links.length<N) (c:Zbm) (hc:∀ k:Nat,k<24→c.get (k:Int)=some false) {l:List Bool} (hl:(l.length:Int)=t.Nodes) :
  Zae (fun x:Int × (List Bool)=>ZaV N t c x.1 x.2) N (0,l)=some (ZhC t l)∧((ZhC t l).length:Int)=t.Nodes:=by
 have:=Zc3 (n:=t.Links.length) (f:=fun b k=>Zfs b (lk t k)) (body:=fun x:Int × (List Bool)=>ZaV N t c x.1 x.2) (fin:=fun b=>b) (fun _ b=>(b.length:Int)=t.Nodes)
  (fun k b hk hb=>by
   have hl:=ZaP.1 hT k hk
   simp only [Bool.and_eq_true] at hl
   obtain ⟨hA,hB,_⟩:=Zcs hl.1
   rw [ZeV] at hA hB
   have i1:idx b (lk t k).A=some (b.getD (lk t k).A.toNat false):=ZcI false hA.1 (by omega)
   have i2:idx b (lk t k).B=some (b.getD (lk t k).B.toNat false):=ZcI false hB.1 (by omega)
   have i3:idx (b.set (lk t k).A.toNat true) (lk t k).B=some ((b.set (lk t k).A.toNat true).getD (lk t k).B.toNat false):=ZcI false hB.1 (by simp;omega)
   show ZaV N t c k b=_
   unfold ZaV
   rw [if_pos (by simp;omega),ZnF hk,Option.bind_some,hc k (by omega)]
   simp only [Option.bind_some,i1,i2,i3,Z1 (show k<1000000 by omega),Bool.not_false,if_true]
   unfold Zfs
   cases h1:b.getD (lk t k).A.toNat false with
   | false=>cases h2:b.getD (lk t k).B.toNat false<;>simp
   | true=>cases h2:b.getD (lk t k).B.toNat false with
    | false=>simp
    | true=>simp [Zmh h1,Zmh h2])
  (fun k b hk hb=>by rw [ZkZ];exact hb)
  (fun b hb=>by show ZaV N t c t.Links.length b=_;unfold ZaV;rw [if_neg (by simp)]) hN (b0:=l) hl
 exact this
theorem ZnE {α:Type} {b:Nat} {n:Int} (z:α) (h0:0≤n) (h1:n≤1000) (hb:b≤1000):Zku b n n z=some (List.replicate n.toNat z):=by
 unfold Zku
 have:n * (b:Int)≤1000 * 1000:=Int.mul_le_mul h1 (by omega) (by omega) (by omega)
 rw [if_pos ⟨h0,Int.le_refl _,by omega,by omega⟩]
theorem Zj8 (hT:allB t.Links.length (fun k=>Zee t (lk t k)&&nojB t k)=true) (hL24:t.Links.length≤24) (h0:1≤t.Nodes) (h12:t.Nodes≤12) (hN:30≤N) (c:Zbm) (hc:∀ k:Nat,k<24→c.get (k:Int)=some false) {m:Int} (hm0:0≤m) (hm:m<t.Nodes) :
  ZeJ N t m c=some (ZhD t m)∧((ZhD t m).length:Int)=t.Nodes:=by
 unfold ZeJ
 rw [ZnE _ (by omega) (by omega) (by omega),Option.bind_some,ZcI false hm0 (by simp;omega),Option.bind_some]
 have:=Zc3 (n:=t.Nodes.toNat) (f:=fun b _=>ZhC t b) (body:=fun x:Int × (List Bool)=>Zbc N t c x.1 x.2) (fin:=fun b=>b) (fun _ b=>(b.length:Int)=t.Nodes)
  (fun k b hk hb=>by
   show Zbc N t c k b=_
   unfold Zbc
   rw [if_pos (by simp;omega),(Zii hT hL24 (by omega) c hc hb).1,Option.bind_some,Z1 (by omega)])
  (fun k b hk hb=>(Zii hT hL24 (N:=N) (by omega) c hc hb).2)
  (fun b hb=>by show Zbc N t c t.Nodes.toNat b=_;unfold Zbc;rw [if_neg (by simp;omega)]) (N:=N) (by omega) (b0:=(List.replicate t.Nodes.toNat false).set m.toNat true) (by simp;omega)
 rw [this.1]
 exact ⟨rfl,this.2⟩
theorem Zjx (l:List Bool):l.contains false = !(allB l.length fun n=>l.getD n false):=by
 rw [Bool.eq_iff_iff,List.contains_iff_mem,Bool.not_eq_true',← Bool.not_eq_true,ZaP]
 constructor
 ·intro h hh
  obtain ⟨k,hk,e⟩:=List.getElem_of_mem h
  have:=hh k hk
  simp [List.getD_eq_getElem?_getD,hk,e] at this
 ·intro h
  simp only [Classical.not_forall] at h
  obtain ⟨k,hk,e⟩:=h
  simp [List.getD_eq_getElem?_getD,hk] at e
  rw [← e]
  exact List.getElem_mem hk
theorem Zc7 (hN:40≤N):Zc1 N t=some (if ZeL t then 0 else 260):=by
 unfold Zc1 ZeL
 by_cases h1:2≤t.Nodes
 ·by_cases h2:t.Nodes≤12
  ·by_cases h3:(t.Station.length:Int)=t.Nodes
   ·rw [if_neg (by simp [h3];omega)]
    by_cases h4:t.Links.length≤24
    ·rw [if_neg (by simp;omega),Zj6 h3 (by omega) (by omega),Option.bind_some,Option.bind_some]
     have e:decide (2≤t.Nodes)=true∧decide (t.Nodes≤12)=true∧((t.Station.length:Int)==t.Nodes)=true∧decide (t.Links.length≤24)=true:=by simp [h1,h2,h3,h4]
     rw [e.1,e.2.1,e.2.2.1,e.2.2.2]
     simp only [Bool.true_and]
     cases hT:allB t.Links.length (fun k=>Zee t (lk t k)&&nojB t k) with
     | false=>rfl
     | true =>
      simp only [Bool.not_true,Bool.false_eq_true,if_false,Bool.true_and]
      rw [ZnE _ (by omega) (by omega) (by omega),Option.bind_some,(ZkQ hT (by omega) (by omega) (by omega)).1,Option.bind_some]
      have hd:=(ZkQ (N:=N) hT (by omega) (by omega) (by omega)).2
      have hr:=Zj8 (N:=N) hT h4 (by omega) h2 (by omega) ⟨false,false,false,false,false,false,false,false,false,false,false,false,false,false,false,false,false,false,false,false,false,false,false,false⟩ (by decide) (m:=0) (by omega) (by omega)
      have:=ZaU (n:=t.Station.length) (p:=fun n=>degB t n) (body:=fun x:Int=>ZbZ N t (degs t) x) (bad:=.inr 260) (fin:=.inl ()) (fun k hk=>by
       unfold ZbZ
       have j2:idx t.Station (k:Int)=some (stB t k):=ZcI false (by omega) (by omega)
       have j3:idx (degs t) (k:Int)=some ((degs t).getD k 0):=ZcI 0 (by omega) (by omega)
       rw [if_pos (by simp;omega),j2,j3,Z1 (by omega)]
       simp only [Option.bind_some]
       unfold degB
       cases stB t k with
       | false=>rfl
       | true =>
        simp only [if_true,Bool.not_true,Bool.false_or]
        generalize (degs t).getD k 0=d
        by_cases g1:d<1
        ·simp [g1,show ¬ (1≤d) by omega]
        ·by_cases g2:d > 2
         ·simp [g1,g2,show ¬ (d≤2) by omega]
         ·simp [g1,g2,show 1≤d by omega,show d≤2 by omega]) (by unfold ZbZ;rw [if_neg (by simp)]) (N:=N) (by omega)
      rw [this,Option.bind_some,ZoE]
      have hsl:t.Station.length=t.Nodes.toNat:=by omega
      rw [hsl]
      cases hD:allB t.Nodes.toNat (fun n=>degB t n) with
      | false=>simp
      | true =>
       simp only [if_true,Bool.and_true]
       rw [hr.1,Option.bind_some,ZdP (by omega) (by omega),Option.bind_some,Zjx,show (ZhD t 0).length=t.Nodes.toNat by omega]
       cases allB t.Nodes.toNat (fun n=>(ZhD t 0).getD n false)<;>rfl
    ·rw [if_pos (by simp;omega)];simp [h4]
   ·rw [if_pos (by simp [h3])];simp [h3]
  ·rw [if_pos (by simp;omega)];simp [h2]
 ·rw [if_pos (by simp;omega)];simp [h1]
end
end Go.Sh

