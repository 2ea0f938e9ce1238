/- Part of the proof; written by a program out of the texts in wip/. -/
import Derived.Test.YtmplmekdilmdgaaStreamChecksTop1
set_option linter.unusedVariables false
set_option linter.unusedSimpArgs false
namespace Go.Sh
open Go Go.Eng
def stB (t:Zg) (x:Int):Bool:=t.Station.getD x.toNat false
def ZdA (t:Zg) (x:Int):Bool:=decide (0≤x)&&decide (x<t.Nodes)
def dL:Zu:=⟨0,0,0,0⟩
def lk (t:Zg) (k:Nat):Zu:=t.Links.getD k dL
def ZdL (t:Zg) (l:Zu):Bool :=
 ZdA t l.A&&(ZdA t l.B&&(!(l.A==l.B)&&(!(stB t l.A&&stB t l.B)&&(decide (l.Per ≥ 1)&&(decide (l.Per≤1000)&&(decide (l.Delay ≥ 0)&&decide (l.Delay≤10000)))))))
def Ze0 (l:Zu) (a b:Int):Bool:=(l.A==a&&l.B==b)||(l.A==b&&l.B==a)
def nojB (t:Zg) (k:Nat):Bool:=allB k fun j => !Ze0 (lk t j) (lk t k).A (lk t k).B
def bump (b:List Int) (x:Int):List Int:=b.set x.toNat (w64 (b.getD x.toNat 0+1))
def ZjN (b:List Int) (l:Zu):List Int:=bump (bump b l.A) l.B
def degs (t:Zg):List Int:=(List.range t.Links.length).foldl (fun b k=>ZjN b (lk t k)) (List.replicate t.Nodes.toNat 0)
def degB (t:Zg) (n:Nat):Bool := !(stB t n)||(decide (1≤(degs t).getD n 0)&&decide ((degs t).getD n 0≤2))
def Zfy (l:List Bool) (k:Zu):List Bool:=if l.getD k.A.toNat false||l.getD k.B.toNat false then (l.set k.A.toNat true).set k.B.toNat true else l
def Zge (t:Zg) (l:List Bool):List Bool:=(List.range t.Links.length).foldl (fun b k=>Zfy b (lk t k)) l
def ZeX (t:Zg) (m:Int):List Bool:=(List.range t.Nodes.toNat).foldl (fun l _=>Zge t l) ((List.replicate t.Nodes.toNat false).set m.toNat true)
def ZeD (t:Zg):Bool :=
 decide (2≤t.Nodes)&&(decide (t.Nodes≤12)&&(((t.Station.length:Int)==t.Nodes)&&(decide (t.Links.length≤24) &&
  (allB t.Links.length (fun k=>ZdL t (lk t k)&&nojB t k)&&(allB t.Nodes.toNat (fun n=>(ZeX t 0).getD n false&&degB t n))))))
section
variable {N:Nat} {t:Zg}
theorem Zl1 {k:Nat} (h:k<t.Links.length):idx t.Links (k:Int)=some (lk t k):=by
 rw [ZcB h];simp [lk,List.getD_eq_getElem?_getD,h]
theorem Zeu (hS:(t.Station.length:Int)=t.Nodes) {x:Int} (h:ZdA t x=true):idx t.Station x=some (stB t x):=by
 simp only [ZdA,Bool.and_eq_true,decide_eq_true_eq] at h
 exact Zbk false h.1 (by omega)
theorem Zhn (x:Int):ZeI N t x=some (ZdA t x):=by simp [ZeI,ZdA]
theorem ZlA (x:Int):Zfu N t x=some (ZdA t x):=by simp [Zfu,ZdA]
theorem Zhp (hS:(t.Station.length:Int)=t.Nodes) (l:Zu):ZeJ N t l=some (ZdL t l):=by
 unfold ZeJ ZdL
 rw [Zhn,Zhn]
 simp only [Option.bind_some]
 cases hA:ZdA t l.A with
 | false=>rfl
 | true =>
  cases hB:ZdA t l.B with
  | false=>rfl
  | true =>
   rw [Zeu hS hA,Zeu hS hB]
   cases (l.A==l.B)<;>cases stB t l.A<;>cases stB t l.B<;>rfl
theorem Zg1 (l:Zu) (a b:Int):ZdV N l a b=some (Ze0 l a b):=by
 unfold ZdV Ze0
 cases l.A==a<;>cases l.B==b<;>cases l.A==b<;>cases l.B==a<;>rfl
theorem Zlp (a b:Int):(a==b)=(b==a):=by
 by_cases h:a=b
 ·subst h;rfl
 ·rw [beq_false_of_ne h,beq_false_of_ne (Ne.symm h)]
theorem Zod (hL:t.Links.length<100) (hN:t.Links.length<N) {k:Nat} (hk:k<t.Links.length) :
  Z2 (fun x:Int=>Zcd N t (k:Int) (lk t k) x) N 0=some (if nojB t k then .inl () else .inr false):=by
 refine Zau (n:=k) (fun j hj => ?_) ?_ (by omega)
 ·unfold Zcd
  rw [if_pos (by simp;omega),Zl1 (by omega),Option.bind_some,Zg1,Option.bind_some,ZS (by omega)]
  cases Ze0 (lk t j) (lk t k).A (lk t k).B<;>rfl
 ·unfold Zcd
  rw [if_neg (by simp)]
theorem ZoS (hL:t.Links.length<100) (hN:t.Links.length<N) {k:Nat} (hk:k<t.Links.length):Zeg N (k:Int) t=some (nojB t k):=by
 unfold Zeg
 rw [Zl1 hk,Option.bind_some]
 have hsub:subI t.Links 0 (k:Int)=some (t.Links.take k):=by
  unfold subI
  rw [if_pos ⟨by omega,by omega,by omega⟩]
  simp
 rw [hsub,Option.bind_some]
 have hlen:(t.Links.take k).length=k:=by simp;omega
 have:=Zau (n:=k) (p:=fun j => !Ze0 (lk t j) (lk t k).A (lk t k).B) (body:=fun x:Int=>ZbF N (lk t k) (t.Links.take k) x) (bad:=.inr false) (fin:=.inl ()) (fun j hj=>by
  unfold ZbF
  have hj':j<(t.Links.take k).length:=by omega
  rw [if_pos (by rw [hlen];simp;omega),ZcB hj',Option.bind_some,ZS (by omega)]
  have e:(t.Links.take k)[j]=lk t j:=by simp [lk,List.getD_eq_getElem?_getD,show j<t.Links.length by omega]
  rw [e]
  unfold Ze0
  rw [Zlp (lk t k).A (lk t j).A,Zlp (lk t k).B (lk t j).B,Zlp (lk t k).A (lk t j).B,Zlp (lk t k).B (lk t j).A]
  cases (lk t j).A==(lk t k).A<;>cases (lk t j).B==(lk t k).B<;>cases (lk t j).A==(lk t k).B<;>cases (lk t j).B==(lk t k).A<;>rfl) (by unfold ZbF;rw [if_neg (by rw [hlen];simp)]) (N:=N) (by omega)
 rw [this]
 unfold nojB
 cases allB k fun j => !Ze0 (lk t j) (lk t k).A (lk t k).B<;>rfl
theorem ZkV (hS:(t.Station.length:Int)=t.Nodes) (hL:t.Links.length<100) (hN:t.Links.length<N):Zfs N t=some (allB t.Links.length (fun k=>ZdL t (lk t k)&&nojB t k)):=by
 unfold Zfs
 have:=Zau (n:=t.Links.length) (p:=fun k=>ZdL t (lk t k)&&nojB t k) (body:=fun x:Int=>Zct N t x) (bad:=.inr false) (fin:=.inl ()) (fun k hk=>by
  unfold Zct
  rw [if_pos (by simp;omega),ZoS hL hN hk,ZS (by omega)]
  unfold Ze7 Ze6 Ze5
  rw [Zl1 hk]
  simp only [Option.bind_some,ZlA]
  unfold ZdL
  cases hA:ZdA t (lk t k).A with
  | false=>rfl
  | true =>
   cases hB:ZdA t (lk t k).B with
   | false=>rfl
   | true =>
    simp only [if_true,Option.bind_some]
    rw [Zeu hS hA,Zeu hS hB]
    simp only [bne,Option.bind_some]
    generalize (decide ((lk t k).Per ≥ 1)&&(decide ((lk t k).Per≤1000)&&(decide ((lk t k).Delay ≥ 0)&&decide ((lk t k).Delay≤10000))))=q
    cases ((lk t k).A==(lk t k).B)<;>cases stB t (lk t k).A<;>cases stB t (lk t k).B<;>cases nojB t k<;>cases q<;>rfl) (by unfold Zct;rw [if_neg (by simp)]) (N:=N) hN
 rw [this]
 cases allB t.Links.length (fun k=>ZdL t (lk t k)&&nojB t k)<;>rfl
theorem Zni (b:List Int) (x:Int):(bump b x).length=b.length:=by simp [bump]
theorem ZjM (b:List Int) (l:Zu):(ZjN b l).length=b.length:=by simp [ZjN,Zni]
theorem Zb2 {l:Zu} (h:ZdL t l=true):ZdA t l.A=true∧ZdA t l.B=true∧l.A ≠ l.B:=by
 simp only [ZdL,Bool.and_eq_true] at h
 refine ⟨h.1,h.2.1,?_⟩
 have:=h.2.2.1
 intro e
 simp [e] at this
theorem ZeY {x:Int}:ZdA t x=true↔0≤x∧x<t.Nodes:=by simp [ZdA]
theorem Znj {b:List Int} (hb:(b.length:Int)=t.Nodes) {l:Zu} (hA:ZdA t l.A=true) (hB:ZdA t l.B=true) :
  idx b l.A=some (b.getD l.A.toNat 0)∧idx (b.set l.A.toNat (w64 (b.getD l.A.toNat 0+1))) l.B=some ((bump b l.A).getD l.B.toNat 0):=by
 rw [ZeY] at hA hB
 exact ⟨Zbk 0 hA.1 (by omega),Zbk 0 hB.1 (by simp;omega)⟩
theorem ZiW (hT:allB t.Links.length (fun k=>ZdL t (lk t k)&&nojB t k)=true) (hn:0≤t.Nodes) (hL:t.Links.length<100) (hN:t.Links.length<N) :
  Z2 (fun x:Int × (List Int)=>Za8 N t x.1 x.2) N (0,List.replicate t.Nodes.toNat 0)=some (degs t)∧((degs t).length:Int)=t.Nodes:=by
 have:=ZcF (n:=t.Links.length) (f:=fun b k=>ZjN b (lk t k)) (body:=fun x:Int × (List Int)=>Za8 N t x.1 x.2) (fin:=fun b=>b) (fun _ b=>(b.length:Int)=t.Nodes)
  (fun k b hk hb=>by
   have hl:=ZaV.1 hT k hk
   simp only [Bool.and_eq_true] at hl
   obtain ⟨hA,hB,_⟩:=Zb2 hl.1
   obtain ⟨i1,i2⟩:=Znj hb hA hB
   show Za8 N t k b=_
   unfold Za8
   rw [if_pos (by simp;omega),Zl1 hk,Option.bind_some,i1]
   simp only [Option.bind_some,i2,ZS (show k<1000000 by omega)]
   rfl)
  (fun k b hk hb=>by rw [ZjM];exact hb)
  (fun b hb=>by show Za8 N t t.Links.length b=_;unfold Za8;rw [if_neg (by simp)]) hN (b0:=List.replicate t.Nodes.toNat 0) (by simp;omega)
 exact this
theorem Znx (hS:(t.Station.length:Int)=t.Nodes) (hn:0≤t.Nodes) (hL:t.Links.length<100) (hN:t.Links.length<N) :
  Z2 (fun x:Int × (List Int)=>ZaQ N t x.1 x.2) N (0,List.replicate t.Nodes.toNat 0)=some (if allB t.Links.length (fun k=>ZdL t (lk t k)&&nojB t k) then .inl (degs t) else .inr false):=by
 refine (Zjy (ρ:=List Int ⊕ Bool) (body:=fun x:Int × (List Int)=>ZaQ N t x.1 x.2) (n:=t.Links.length) (f:=fun b k=>ZjN b (lk t k)) (p:=fun k=>ZdL t (lk t k)&&nojB t k) (fin:=fun b=>.inl b) (bad:=.inr false) (fun _ b=>(b.length:Int)=t.Nodes)
  (fun k b hk hb => ?_) (fun k b hk hb _=>by rw [ZjM];exact hb) (fun b hb=>by show ZaQ N t t.Links.length b=_;unfold ZaQ;rw [if_neg (by simp)]) hN (b0:=List.replicate t.Nodes.toNat 0) (by simp;omega)).1
 show ZaQ N t k b=_
 unfold ZaQ
 rw [if_pos (by simp;omega),Zl1 hk,Option.bind_some,Zhp hS,Option.bind_some]
 cases hl:ZdL t (lk t k) with
 | false=>rfl
 | true =>
  obtain ⟨hA,hB,_⟩:=Zb2 hl
  obtain ⟨i1,i2⟩:=Znj hb hA hB
  rw [Zod hL hN hk]
  cases nojB t k with
  | false=>rfl
  | true =>
   simp only [Bool.not_true,Bool.false_eq_true,if_false,if_true,Option.bind_some,i1,i2,ZS (show k<1000000 by omega),Bool.and_self]
   rfl
theorem Zi8 (l:List Bool) (k:Zu):(Zfy l k).length=l.length:=by unfold Zfy;split<;>simp
theorem Zm0 {l:List Bool} {i:Nat} (h:l.getD i false=true):l.set i true=l:=by
 apply List.ext_getElem?
 intro j
 rw [List.getElem?_set]
 by_cases e:i=j
 ·subst e
  rw [if_pos rfl]
  split
  ·rename_i hl
   rw [List.getElem?_eq_getElem hl]
   simp [List.getD_eq_getElem?_getD,hl] at h
   rw [h]
  ·rename_i hl
   rw [List.getElem?_eq_none (by omega)]
 ·rw [if_neg e]
theorem ZfT {l:List Bool} {i j:Nat} (h:l.getD j false=true):(l.set i true).getD j false=true:=by
 rw [List.getD_eq_getElem?_getD] at h ⊢
 rw [List.getElem?_set]
 split
 ·split
  ·rfl
  ·rename_i e hl
   rw [List.getElem?_eq_none (by omega)] at h
   cases h
 ·exact h
theorem ZiV (hT:allB t.Links.length (fun k=>ZdL t (lk t k)&&nojB t k)=true) (hL24:t.Links.length≤24) (hN:t.Links.length<N) (c:ZbE) (hc:∀ k:Nat,k<24→c.get (k:Int)=some false) {l:List Bool} (hl:(l.length:Int)=t.Nodes) :
  Z2 (fun x:Int × (List Bool)=>Za7 N t c x.1 x.2) N (0,l)=some (Zge t l)∧((Zge t l).length:Int)=t.Nodes:=by
 have:=ZcF (n:=t.Links.length) (f:=fun b k=>Zfy b (lk t k)) (body:=fun x:Int × (List Bool)=>Za7 N t c x.1 x.2) (fin:=fun b=>b) (fun _ b=>(b.length:Int)=t.Nodes)
  (fun k b hk hb=>by
   have hl:=ZaV.1 hT k hk
   simp only [Bool.and_eq_true] at hl
   obtain ⟨hA,hB,_⟩:=Zb2 hl.1
   rw [ZeY] at hA hB
   have i1:idx b (lk t k).A=some (b.getD (lk t k).A.toNat false):=Zbk false hA.1 (by omega)
   have i2:idx b (lk t k).B=some (b.getD (lk t k).B.toNat false):=Zbk false hB.1 (by omega)
   have i3:idx (b.set (lk t k).A.toNat true) (lk t k).B=some ((b.set (lk t k).A.toNat true).getD (lk t k).B.toNat false):=Zbk false hB.1 (by simp;omega)
   show Za7 N t c k b=_
   unfold Za7
   rw [if_pos (by simp;omega),Zl1 hk,Option.bind_some,hc k (by omega)]
   simp only [Option.bind_some,i1,i2,i3,ZS (show k<1000000 by omega),Bool.not_false,if_true]
   unfold Zfy
   cases h1:b.getD (lk t k).A.toNat false with
   | false=>cases h2:b.getD (lk t k).B.toNat false<;>simp
   | true=>cases h2:b.getD (lk t k).B.toNat false with
    | false=>simp
    | true=>simp [Zm0 h1,Zm0 h2])
  (fun k b hk hb=>by rw [Zi8];exact hb)
  (fun b hb=>by show Za7 N t c t.Links.length b=_;unfold Za7;rw [if_neg (by simp)]) hN (b0:=l) hl
 exact this
theorem Zif (hT:allB t.Links.length (fun k=>ZdL t (lk t k)&&nojB t k)=true) (hL24:t.Links.length≤24) (hN:t.Links.length<N) {l:List Bool} (hl:(l.length:Int)=t.Nodes) :
  Z2 (fun x:Int × (List Bool)=>ZaR N t [] x.1 x.2) N (0,l)=some (Zge t l)∧((Zge t l).length:Int)=t.Nodes:=by
 have:=ZcF (n:=t.Links.length) (f:=fun b k=>Zfy b (lk t k)) (body:=fun x:Int × (List Bool)=>ZaR N t [] x.1 x.2) (fin:=fun b=>b) (fun _ b=>(b.length:Int)=t.Nodes)
  (fun k b hk hb=>by
   have hl:=ZaV.1 hT k hk
   simp only [Bool.and_eq_true] at hl
   obtain ⟨hA,hB,_⟩:=Zb2 hl.1
   rw [ZeY] at hA hB
   have i1:idx b (lk t k).A=some (b.getD (lk t k).A.toNat false):=Zbk false hA.1 (by omega)
   have i2:idx b (lk t k).B=some (b.getD (lk t k).B.toNat false):=Zbk false hB.1 (by omega)
   have i3:idx (b.set (lk t k).A.toNat true) (lk t k).B=some ((b.set (lk t k).A.toNat true).getD (lk t k).B.toNat false):=Zbk false hB.1 (by simp;omega)
   show ZaR N t [] k b=_
   unfold ZaR
   rw [if_pos (by simp;omega),Zl1 hk,Option.bind_some,ZfN (by simp;omega) (by simp)]
   simp only [Option.bind_some,i1,i2,i3,ZS (show k<1000000 by omega),List.contains_nil,Bool.not_false,if_true]
   unfold Zfy
   cases h1:b.getD (lk t k).A.toNat false<;>cases h2:b.getD (lk t k).B.toNat false<;>simp)
  (fun k b hk hb=>by rw [Zi8];exact hb)
  (fun b hb=>by show ZaR N t [] t.Links.length b=_;unfold ZaR;rw [if_neg (by simp)]) hN (b0:=l) hl
 exact this
theorem Zli {α:Type} {b:Nat} {n:Int} (z:α) (h0:0≤n) (h1:n≤1000) (hb:b≤1000):Zjv b n n z=some (List.replicate n.toNat z):=by
 unfold Zjv
 have:n * (b:Int)≤1000 * 1000:=Int.mul_le_mul h1 (by omega) (by omega) (by omega)
 rw [if_pos ⟨h0,Int.le_refl _,by omega,by omega⟩]
theorem Zhd (hT:allB t.Links.length (fun k=>ZdL t (lk t k)&&nojB t k)=true) (hL24:t.Links.length≤24) (h0:1≤t.Nodes) (h12:t.Nodes≤12) (hN:30≤N) (c:ZbE) (hc:∀ k:Nat,k<24→c.get (k:Int)=some false) {m:Int} (hm0:0≤m) (hm:m<t.Nodes) :
  Zft N t m c=some (ZeX t m)∧((ZeX t m).length:Int)=t.Nodes:=by
 unfold Zft
 rw [Zli _ (by omega) (by omega) (by omega),Option.bind_some,Zbk false hm0 (by simp;omega),Option.bind_some]
 have:=ZcF (n:=t.Nodes.toNat) (f:=fun b _=>Zge t b) (body:=fun x:Int × (List Bool)=>Zbu N t c x.1 x.2) (fin:=fun b=>b) (fun _ b=>(b.length:Int)=t.Nodes)
  (fun k b hk hb=>by
   show Zbu N t c k b=_
   unfold Zbu
   rw [if_pos (by simp;omega),(ZiV hT hL24 (by omega) c hc hb).1,Option.bind_some,ZS (by omega)])
  (fun k b hk hb=>(ZiV hT hL24 (N:=N) (by omega) c hc hb).2)
  (fun b hb=>by show Zbu N t c t.Nodes.toNat b=_;unfold Zbu;rw [if_neg (by simp;omega)]) (N:=N) (by omega) (b0:=(List.replicate t.Nodes.toNat false).set m.toNat true) (by simp;omega)
 rw [this.1]
 exact ⟨rfl,this.2⟩
theorem Zkc (hT:allB t.Links.length (fun k=>ZdL t (lk t k)&&nojB t k)=true) (hL24:t.Links.length≤24) (h0:1≤t.Nodes) (h12:t.Nodes≤12) (hN:30≤N) {m:Int} (hm0:0≤m) (hm:m<t.Nodes) :
  ZeW N t m []=some (ZeX t m):=by
 unfold ZeW
 rw [Zli _ (by omega) (by omega) (by omega),Option.bind_some,Zbk false hm0 (by simp;omega),Option.bind_some]
 have:=ZcF (n:=t.Nodes.toNat) (f:=fun b _=>Zge t b) (body:=fun x:Int × (List Bool)=>Zbb N t [] x.1 x.2) (fin:=fun b=>b) (fun _ b=>(b.length:Int)=t.Nodes)
  (fun k b hk hb=>by
   show Zbb N t [] k b=_
   unfold Zbb
   rw [if_pos (by simp;omega),(Zif hT hL24 (by omega) hb).1,Option.bind_some,ZS (by omega)])
  (fun k b hk hb=>(Zif hT hL24 (N:=N) (by omega) hb).2)
  (fun b hb=>by show Zbb N t [] t.Nodes.toNat b=_;unfold Zbb;rw [if_neg (by simp;omega)]) (N:=N) (by omega) (b0:=(List.replicate t.Nodes.toNat false).set m.toNat true) (by simp;omega)
 rw [this.1]
 rfl
theorem ZgZ (hN:40≤N):ZdT N t=some (ZeD t):=by
 unfold ZdT ZeD
 by_cases h1:2≤t.Nodes
 ·by_cases h2:t.Nodes≤12
  ·by_cases h3:(t.Station.length:Int)=t.Nodes
   ·by_cases h4:t.Links.length≤24
    ·rw [if_neg (by simp;omega),Zli _ (by omega) (by omega) (by omega),Option.bind_some,Znx h3 (by omega) (by omega) (by omega),Option.bind_some]
     have e:decide (2≤t.Nodes)=true∧decide (t.Nodes≤12)=true∧((t.Station.length:Int)==t.Nodes)=true∧decide (t.Links.length≤24)=true:=by simp [h1,h2,h3,h4]
     rw [e.1,e.2.1,e.2.2.1,e.2.2.2]
     simp only [Bool.true_and]
     cases hT:allB t.Links.length (fun k=>ZdL t (lk t k)&&nojB t k) with
     | false=>rfl
     | true =>
      simp only [if_true,Bool.true_and]
      rw [Zkc hT h4 (by omega) h2 (by omega) (by omega) (by omega),Option.bind_some]
      have hd:=(ZiW (N:=N) hT (by omega) (by omega) (by omega)).2
      have hr:=(Zhd (N:=N) hT h4 (by omega) h2 (by omega) ⟨false,false,false,false,false,false,false,false,false,false,false,false,false,false,false,false,false,false,false,false,false,false,false,false⟩ (by decide) (m:=0) (by omega) (by omega)).2
      have:=Zau (n:=t.Nodes.toNat) (p:=fun n=>(ZeX t 0).getD n false&&degB t n) (body:=fun x:Int=>Zcc N t (degs t) (ZeX t 0) x) (bad:=.inr false) (fin:=.inl ()) (fun k hk=>by
       unfold Zcc
       have j1:idx (ZeX t 0) (k:Int)=some ((ZeX t 0).getD k false):=Zbk false (by omega) (by omega)
       have j2:idx t.Station (k:Int)=some (stB t k):=Zbk false (by omega) (by omega)
       have j3:idx (degs t) (k:Int)=some ((degs t).getD k 0):=Zbk 0 (by omega) (by omega)
       rw [if_pos (by simp;omega),j1,j2,j3,ZS (by omega)]
       simp only [Option.bind_some]
       unfold degB
       cases (ZeX t 0).getD k false with
       | false=>rfl
       | true =>
        cases stB t k with
        | false=>rfl
        | true =>
         simp only [Bool.not_true,Bool.false_eq_true,if_false,if_true,Bool.true_and,Bool.false_or]
         generalize (degs t).getD k 0=d
         by_cases g1:d<1
         ·simp [g1,show ¬ (1≤d) by omega]
         ·by_cases g2:d > 2
          ·simp [g1,g2,show ¬ (d≤2) by omega]
          ·simp [g1,g2,show 1≤d by omega,show d≤2 by omega]) (by unfold Zcc;rw [if_neg (by simp;omega)]) (N:=N) (by omega)
      rw [this]
      cases allB t.Nodes.toNat (fun n=>(ZeX t 0).getD n false&&degB t n)<;>rfl
    ·rw [if_pos (by simp;omega)];simp [h4]
   ·rw [if_pos (by simp [h3])];simp [h3]
  ·rw [if_pos (by simp;omega)];simp [h2]
 ·rw [if_pos (by simp;omega)];simp [h1]
theorem Zkk (l:List Bool):l.contains false = !(allB l.length fun n=>l.getD n false):=by
 rw [Bool.eq_iff_iff,List.contains_iff_mem,Bool.not_eq_true',← Bool.not_eq_true,ZaV]
 constructor
 ·intro h hh
  obtain ⟨k,hk,e⟩:=List.getElem_of_mem h
  have:=hh k hk
  simp [List.getD_eq_getElem?_getD,hk,e] at this
 ·intro h
  simp only [Classical.not_forall] at h
  obtain ⟨k,hk,e⟩:=h
  simp [List.getD_eq_getElem?_getD,hk] at e
  rw [← e]
  exact List.getElem_mem hk
theorem ZdD (hN:40≤N):Zdz N t=some (if ZeD t then 0 else 260):=by
 unfold Zdz ZeD
 by_cases h1:2≤t.Nodes
 ·by_cases h2:t.Nodes≤12
  ·by_cases h3:(t.Station.length:Int)=t.Nodes
   ·rw [if_neg (by simp [h3];omega)]
    by_cases h4:t.Links.length≤24
    ·rw [if_neg (by simp;omega),ZkV h3 (by omega) (by omega),Option.bind_some,Option.bind_some]
     have e:decide (2≤t.Nodes)=true∧decide (t.Nodes≤12)=true∧((t.Station.length:Int)==t.Nodes)=true∧decide (t.Links.length≤24)=true:=by simp [h1,h2,h3,h4]
     rw [e.1,e.2.1,e.2.2.1,e.2.2.2]
     simp only [Bool.true_and]
     cases hT:allB t.Links.length (fun k=>ZdL t (lk t k)&&nojB t k) with
     | false=>rfl
     | true =>
      simp only [Bool.not_true,Bool.false_eq_true,if_false,Bool.true_and]
      rw [Zli _ (by omega) (by omega) (by omega),Option.bind_some,(ZiW hT (by omega) (by omega) (by omega)).1,Option.bind_some]
      have hd:=(ZiW (N:=N) hT (by omega) (by omega) (by omega)).2
      have hr:=Zhd (N:=N) hT h4 (by omega) h2 (by omega) ⟨false,false,false,false,false,false,false,false,false,false,false,false,false,false,false,false,false,false,false,false,false,false,false,false⟩ (by decide) (m:=0) (by omega) (by omega)
      have:=Zau (n:=t.Station.length) (p:=fun n=>degB t n) (body:=fun x:Int=>Zcu N t (degs t) x) (bad:=.inr 260) (fin:=.inl ()) (fun k hk=>by
       unfold Zcu
       have j2:idx t.Station (k:Int)=some (stB t k):=Zbk false (by omega) (by omega)
       have j3:idx (degs t) (k:Int)=some ((degs t).getD k 0):=Zbk 0 (by omega) (by omega)
       rw [if_pos (by simp;omega),j2,j3,ZS (by omega)]
       simp only [Option.bind_some]
       unfold degB
       cases stB t k with
       | false=>rfl
       | true =>
        simp only [if_true,Bool.not_true,Bool.false_or]
        generalize (degs t).getD k 0=d
        by_cases g1:d<1
        ·simp [g1,show ¬ (1≤d) by omega]
        ·by_cases g2:d > 2
         ·simp [g1,g2,show ¬ (d≤2) by omega]
         ·simp [g1,g2,show 1≤d by omega,show d≤2 by omega]) (by unfold Zcu;rw [if_neg (by simp)]) (N:=N) (by omega)
      rw [this,Option.bind_some,Zpi]
      have hsl:t.Station.length=t.Nodes.toNat:=by omega
      rw [hsl]
      cases hD:allB t.Nodes.toNat (fun n=>degB t n) with
      | false=>simp
      | true =>
       simp only [if_true,Bool.and_true]
       rw [hr.1,Option.bind_some,Zes (by omega) (by omega),Option.bind_some,Zkk,show (ZeX t 0).length=t.Nodes.toNat by omega]
       cases allB t.Nodes.toNat (fun n=>(ZeX t 0).getD n false)<;>rfl
    ·rw [if_pos (by simp;omega)];simp [h4]
   ·rw [if_pos (by simp [h3])];simp [h3]
  ·rw [if_pos (by simp;omega)];simp [h2]
 ·rw [if_pos (by simp;omega)];simp [h1]
end
end Go.Sh

