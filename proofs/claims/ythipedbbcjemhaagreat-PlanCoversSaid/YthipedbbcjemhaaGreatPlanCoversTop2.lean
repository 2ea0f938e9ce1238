/- Part of the proof; written by a program out of the texts in wip/. -/
import Derived.Test.YthipedbbcjemhaaGreatPlanCoversRes3
import Derived.KernelRfl
set_option linter.unusedVariables false
set_option linter.unusedSimpArgs false
namespace Go.Sh
open Go Go.Eng
def stB (t:Zh) (x:Int):Bool:=t.Station.getD x.toNat false
def ZdK (t:Zh) (x:Int):Bool:=decide (0≤x)&&decide (x<t.Nodes)
def dL:Zy:=⟨0,0,0,0⟩
def lk (t:Zh) (k:Nat):Zy:=t.Links.getD k dL
def Zfa (t:Zh) (l:Zy):Bool :=
 ZdK t l.A&&(ZdK t l.B&&(!(l.A==l.B)&&(!(stB t l.A&&stB t l.B)&&(decide (l.Per ≥ 1)&&(decide (l.Per≤1000)&&(decide (l.Delay ≥ 0)&&decide (l.Delay≤10000)))))))
def Zfw (l:Zy) (a b:Int):Bool:=(l.A==a&&l.B==b)||(l.A==b&&l.B==a)
def nojB (t:Zh) (k:Nat):Bool:=allB k fun j => !Zfw (lk t j) (lk t k).A (lk t k).B
def bump (b:List Int) (x:Int):List Int:=b.set x.toNat (w64 (b.getD x.toNat 0+1))
def Zlz (b:List Int) (l:Zy):List Int:=bump (bump b l.A) l.B
def degs (t:Zh):List Int:=(List.range t.Links.length).foldl (fun b k=>Zlz b (lk t k)) (List.replicate t.Nodes.toNat 0)
def degB (t:Zh) (n:Nat):Bool := !(stB t n)||(decide (1≤(degs t).getD n 0)&&decide ((degs t).getD n 0≤2))
def ZgG (l:List Bool) (k:Zy):List Bool:=if l.getD k.A.toNat false||l.getD k.B.toNat false then (l.set k.A.toNat true).set k.B.toNat true else l
def Zjj (t:Zh) (l:List Bool):List Bool:=(List.range t.Links.length).foldl (fun b k=>ZgG b (lk t k)) l
def Zjk (t:Zh) (m:Int):List Bool:=(List.range t.Nodes.toNat).foldl (fun l _=>Zjj t l) ((List.replicate t.Nodes.toNat false).set m.toNat true)
def Zeo (t:Zh):Bool :=
 decide (2≤t.Nodes)&&(decide (t.Nodes≤12)&&(((t.Station.length:Int)==t.Nodes)&&(decide (t.Links.length≤24) &&
  (allB t.Links.length (fun k=>Zfa t (lk t k)&&nojB t k)&&(allB t.Nodes.toNat (fun n=>(Zjk t 0).getD n false&&degB t n))))))
section
variable {N:Nat} {t:Zh}
theorem Zqd {k:Nat} (h:k<t.Links.length):idx t.Links (k:Int)=some (lk t k):=by
 rw [Zcz h];simp [lk,List.getD_eq_getElem?_getD,h]
theorem ZeF (hS:(t.Station.length:Int)=t.Nodes) {x:Int} (h:ZdK t x=true):idx t.Station x=some (stB t x):=by
 simp only [ZdK,Bool.and_eq_true,decide_eq_true_eq] at h
 exact ZcR false h.1 (by omega)
theorem Zij (x:Int):ZeY N t x=some (ZdK t x):=by simp [ZeY,ZdK]
theorem Zm2 (x:Int):ZfO N t x=some (ZdK t x):=by simp [ZfO,ZdK]
theorem Zmt (hS:(t.Station.length:Int)=t.Nodes) (l:Zy):ZfW N t l=some (Zfa t l):=by
 unfold ZfW Zfa
 rw [Zij,Zij]
 simp only [Option.bind_some]
 cases hA:ZdK t l.A with
 | false=>rfl
 | true =>
  cases hB:ZdK t l.B with
  | false=>rfl
  | true =>
   rw [ZeF hS hA,ZeF hS hB]
   cases (l.A==l.B)<;>cases stB t l.A<;>cases stB t l.B<;>rfl
theorem Zlu (l:Zy) (a b:Int):Ze8 N l a b=some (Zfw l a b):=by
 unfold Ze8 Zfw
 cases l.A==a<;>cases l.B==b<;>cases l.A==b<;>cases l.B==a<;>rfl
theorem ZmQ (a b:Int):(a==b)=(b==a):=by
 by_cases h:a=b
 ·subst h;rfl
 ·rw [beq_false_of_ne h,beq_false_of_ne (Ne.symm h)]
theorem ZqN (hL:t.Links.length<100) (hN:t.Links.length<N) {k:Nat} (hk:k<t.Links.length):Zen N (k:Int) t=some (nojB t k):=by
 unfold Zen
 rw [Zqd hk,Option.bind_some]
 have hsub:subI t.Links 0 (k:Int)=some (t.Links.take k):=by
  unfold subI
  rw [if_pos ⟨by omega,by omega,by omega⟩]
  simp
 rw [hsub,Option.bind_some]
 have hlen:(t.Links.take k).length=k:=by simp;omega
 have:=Zbl (n:=k) (p:=fun j => !Zfw (lk t j) (lk t k).A (lk t k).B) (body:=fun x:Int=>ZbN N (lk t k) (t.Links.take k) x) (bad:=.inr false) (fin:=.inl ()) (fun j hj=>by
  unfold ZbN
  have hj':j<(t.Links.take k).length:=by omega
  rw [if_pos (by rw [hlen];simp;omega),Zcz hj',Option.bind_some,ZT (by omega)]
  have e:(t.Links.take k)[j]=lk t j:=by simp [lk,List.getD_eq_getElem?_getD,show j<t.Links.length by omega]
  rw [e]
  unfold Zfw
  rw [ZmQ (lk t k).A (lk t j).A,ZmQ (lk t k).B (lk t j).B,ZmQ (lk t k).A (lk t j).B,ZmQ (lk t k).B (lk t j).A]
  cases (lk t j).A==(lk t k).A<;>cases (lk t j).B==(lk t k).B<;>cases (lk t j).A==(lk t k).B<;>cases (lk t j).B==(lk t k).A<;>rfl) (by unfold ZbN;rw [if_neg (by rw [hlen];simp)]) (N:=N) (by omega)
 rw [this]
 unfold nojB
 cases allB k fun j => !Zfw (lk t j) (lk t k).A (lk t k).B<;>rfl
theorem Zmd (hS:(t.Station.length:Int)=t.Nodes) (hL:t.Links.length<100) (hN:t.Links.length<N):ZfM N t=some (allB t.Links.length (fun k=>Zfa t (lk t k)&&nojB t k)):=by
 unfold ZfM
 have:=Zbl (n:=t.Links.length) (p:=fun k=>Zfa t (lk t k)&&nojB t k) (body:=fun x:Int=>Zcq N t x) (bad:=.inr false) (fin:=.inl ()) (fun k hk=>by
  unfold Zcq
  rw [if_pos (by simp;omega),ZqN hL hN hk,ZT (by omega)]
  unfold Zfh Zfg Zff
  rw [Zqd hk]
  simp only [Option.bind_some,Zm2]
  unfold Zfa
  cases hA:ZdK t (lk t k).A with
  | false=>rfl
  | true =>
   cases hB:ZdK t (lk t k).B with
   | false=>rfl
   | true =>
    simp only [if_true,Option.bind_some]
    rw [ZeF hS hA,ZeF hS hB]
    simp only [bne,Option.bind_some]
    generalize (decide ((lk t k).Per ≥ 1)&&(decide ((lk t k).Per≤1000)&&(decide ((lk t k).Delay ≥ 0)&&decide ((lk t k).Delay≤10000))))=q
    cases ((lk t k).A==(lk t k).B)<;>cases stB t (lk t k).A<;>cases stB t (lk t k).B<;>cases nojB t k<;>cases q<;>rfl) (by unfold Zcq;rw [if_neg (by simp)]) (N:=N) hN
 rw [this]
 cases allB t.Links.length (fun k=>Zfa t (lk t k)&&nojB t k)<;>rfl
theorem ZoX (b:List Int) (x:Int):(bump b x).length=b.length:=by simp [bump]
theorem ZnQ (b:List Int) (l:Zy):(Zlz b l).length=b.length:=by simp [Zlz,ZoX]
theorem Zc0 {l:Zy} (h:Zfa t l=true):ZdK t l.A=true∧ZdK t l.B=true∧l.A ≠ l.B:=by
 simp only [Zfa,Bool.and_eq_true] at h
 refine ⟨h.1,h.2.1,?_⟩
 have:=h.2.2.1
 intro e
 simp [e] at this
theorem Zf0 {x:Int}:ZdK t x=true↔0≤x∧x<t.Nodes:=by simp [ZdK]
theorem Zrj {b:List Int} (hb:(b.length:Int)=t.Nodes) {l:Zy} (hA:ZdK t l.A=true) (hB:ZdK t l.B=true) :
  idx b l.A=some (b.getD l.A.toNat 0)∧idx (b.set l.A.toNat (w64 (b.getD l.A.toNat 0+1))) l.B=some ((bump b l.A).getD l.B.toNat 0):=by
 rw [Zf0] at hA hB
 exact ⟨ZcR 0 hA.1 (by omega),ZcR 0 hB.1 (by simp;omega)⟩
theorem Zm3 (hT:allB t.Links.length (fun k=>Zfa t (lk t k)&&nojB t k)=true) (hn:0≤t.Nodes) (hL:t.Links.length<100) (hN:t.Links.length<N) :
  Z2 (fun x:Int × (List Int)=>Zbn N t x.1 x.2) N (0,List.replicate t.Nodes.toNat 0)=some (degs t)∧((degs t).length:Int)=t.Nodes:=by
 have:=ZdJ (n:=t.Links.length) (f:=fun b k=>Zlz b (lk t k)) (body:=fun x:Int × (List Int)=>Zbn N t x.1 x.2) (fin:=fun b=>b) (fun _ b=>(b.length:Int)=t.Nodes)
  (fun k b hk hb=>by
   have hl:=Zba.1 hT k hk
   simp only [Bool.and_eq_true] at hl
   obtain ⟨hA,hB,_⟩:=Zc0 hl.1
   obtain ⟨i1,i2⟩:=Zrj hb hA hB
   show Zbn N t k b=_
   unfold Zbn
   rw [if_pos (by simp;omega),Zqd hk,Option.bind_some,i1]
   simp only [Option.bind_some,i2,ZT (show k<1000000 by omega)]
   rfl)
  (fun k b hk hb=>by rw [ZnQ];exact hb)
  (fun b hb=>by show Zbn N t t.Links.length b=_;unfold Zbn;rw [if_neg (by simp)]) hN (b0:=List.replicate t.Nodes.toNat 0) (by simp;omega)
 exact this
theorem Zng (l:List Bool) (k:Zy):(ZgG l k).length=l.length:=by unfold ZgG;split<;>simp
theorem Zox {l:List Bool} {i:Nat} (h:l.getD i false=true):l.set i true=l:=by
 apply List.ext_getElem?
 intro j
 rw [List.getElem?_set]
 by_cases e:i=j
 ·subst e
  rw [if_pos rfl]
  split
  ·rename_i hl
   rw [List.getElem?_eq_getElem hl]
   simp [List.getD_eq_getElem?_getD,hl] at h
   rw [h]
  ·rename_i hl
   rw [List.getElem?_eq_none (by omega)]
 ·rw [if_neg e]
theorem Zgo {l:List Bool} {i j:Nat} (h:l.getD j false=true):(l.set i true).getD j false=true:=by
 rw [List.getD_eq_getElem?_getD] at h ⊢
 rw [List.getElem?_set]
 split
 ·split
  ·rfl
  ·rename_i e hl
   rw [List.getElem?_eq_none (by omega)] at h
   cases h
 ·exact h
theorem Zj7 (hT:allB t.Links.length (fun k=>Zfa t (lk t k)&&nojB t k)=true) (hL24:t.Links.length≤24) (hN:t.Links.length<N) (c:ZbM) (hc:∀ k:Nat,k<24→c.get (k:Int)=some false) {l:List Bool} (hl:(l.length:Int)=t.Nodes) :
  Z2 (fun x:Int × (List Bool)=>Zbm N t c x.1 x.2) N (0,l)=some (Zjj t l)∧((Zjj t l).length:Int)=t.Nodes:=by
 have:=ZdJ (n:=t.Links.length) (f:=fun b k=>ZgG b (lk t k)) (body:=fun x:Int × (List Bool)=>Zbm N t c x.1 x.2) (fin:=fun b=>b) (fun _ b=>(b.length:Int)=t.Nodes)
  (fun k b hk hb=>by
   have hl:=Zba.1 hT k hk
   simp only [Bool.and_eq_true] at hl
   obtain ⟨hA,hB,_⟩:=Zc0 hl.1
   rw [Zf0] at hA hB
   have i1:idx b (lk t k).A=some (b.getD (lk t k).A.toNat false):=ZcR false hA.1 (by omega)
   have i2:idx b (lk t k).B=some (b.getD (lk t k).B.toNat false):=ZcR false hB.1 (by omega)
   have i3:idx (b.set (lk t k).A.toNat true) (lk t k).B=some ((b.set (lk t k).A.toNat true).getD (lk t k).B.toNat false):=ZcR false hB.1 (by simp;omega)
   show Zbm N t c k b=_
   unfold Zbm
   rw [if_pos (by simp;omega),Zqd hk,Option.bind_some,hc k (by omega)]
   simp only [Option.bind_some,i1,i2,i3,ZT (show k<1000000 by omega),Bool.not_false,if_true]
   unfold ZgG
   cases h1:b.getD (lk t k).A.toNat false with
   | false=>cases h2:b.getD (lk t k).B.toNat false<;>simp
   | true=>cases h2:b.getD (lk t k).B.toNat false with
    | false=>simp
    | true=>simp [Zox h1,Zox h2])
  (fun k b hk hb=>by rw [Zng];exact hb)
  (fun b hb=>by show Zbm N t c t.Links.length b=_;unfold Zbm;rw [if_neg (by simp)]) hN (b0:=l) hl
 exact this
theorem Zqc {α:Type} {b:Nat} {n:Int} (z:α) (h0:0≤n) (h1:n≤1000) (hb:b≤1000):Zh2 b n n z=some (List.replicate n.toNat z):=by
 unfold Zh2
 have:n * (b:Int)≤1000 * 1000:=Int.mul_le_mul h1 (by omega) (by omega) (by omega)
 rw [if_pos ⟨h0,Int.le_refl _,by omega,by omega⟩]
theorem Zmf (hT:allB t.Links.length (fun k=>Zfa t (lk t k)&&nojB t k)=true) (hL24:t.Links.length≤24) (h0:1≤t.Nodes) (h12:t.Nodes≤12) (hN:30≤N) (c:ZbM) (hc:∀ k:Nat,k<24→c.get (k:Int)=some false) {m:Int} (hm0:0≤m) (hm:m<t.Nodes) :
  ZfN N t m c=some (Zjk t m)∧((Zjk t m).length:Int)=t.Nodes:=by
 unfold ZfN
 rw [Zqc _ (by omega) (by omega) (by omega),Option.bind_some,ZcR false hm0 (by simp;omega),Option.bind_some]
 have:=ZdJ (n:=t.Nodes.toNat) (f:=fun b _=>Zjj t b) (body:=fun x:Int × (List Bool)=>ZbA N t c x.1 x.2) (fin:=fun b=>b) (fun _ b=>(b.length:Int)=t.Nodes)
  (fun k b hk hb=>by
   show ZbA N t c k b=_
   unfold ZbA
   rw [if_pos (by simp;omega),(Zj7 hT hL24 (by omega) c hc hb).1,Option.bind_some,ZT (by omega)])
  (fun k b hk hb=>(Zj7 hT hL24 (N:=N) (by omega) c hc hb).2)
  (fun b hb=>by show ZbA N t c t.Nodes.toNat b=_;unfold ZbA;rw [if_neg (by simp;omega)]) (N:=N) (by omega) (b0:=(List.replicate t.Nodes.toNat false).set m.toNat true) (by simp;omega)
 rw [this.1]
 exact ⟨rfl,this.2⟩
theorem Zly (l:List Bool):l.contains false = !(allB l.length fun n=>l.getD n false):=by
 rw [Bool.eq_iff_iff,List.contains_iff_mem,Bool.not_eq_true',← Bool.not_eq_true,Zba]
 constructor
 ·intro h hh
  obtain ⟨k,hk,e⟩:=List.getElem_of_mem h
  have:=hh k hk
  simp [List.getD_eq_getElem?_getD,hk,e] at this
 ·intro h
  simp only [Classical.not_forall] at h
  obtain ⟨k,hk,e⟩:=h
  simp [List.getD_eq_getElem?_getD,hk] at e
  rw [← e]
  exact List.getElem_mem hk
theorem ZeN (hN:40≤N):Zd2 N t=some (if Zeo t then 0 else 260):=by
 unfold Zd2 Zeo
 by_cases h1:2≤t.Nodes
 ·by_cases h2:t.Nodes≤12
  ·by_cases h3:(t.Station.length:Int)=t.Nodes
   ·rw [if_neg (by simp [h3];omega)]
    by_cases h4:t.Links.length≤24
    ·rw [if_neg (by simp;omega),Zmd h3 (by omega) (by omega),Option.bind_some,Option.bind_some]
     have e:decide (2≤t.Nodes)=true∧decide (t.Nodes≤12)=true∧((t.Station.length:Int)==t.Nodes)=true∧decide (t.Links.length≤24)=true:=by simp [h1,h2,h3,h4]
     rw [e.1,e.2.1,e.2.2.1,e.2.2.2]
     simp only [Bool.true_and]
     cases hT:allB t.Links.length (fun k=>Zfa t (lk t k)&&nojB t k) with
     | false=>rfl
     | true =>
      simp only [Bool.not_true,Bool.false_eq_true,if_false,Bool.true_and]
      rw [Zqc _ (by omega) (by omega) (by omega),Option.bind_some,(Zm3 hT (by omega) (by omega) (by omega)).1,Option.bind_some]
      have hd:=(Zm3 (N:=N) hT (by omega) (by omega) (by omega)).2
      have hr:=Zmf (N:=N) hT h4 (by omega) h2 (by omega) ⟨false,false,false,false,false,false,false,false,false,false,false,false,false,false,false,false,false,false,false,false,false,false,false,false⟩ (by decide) (m:=0) (by omega) (by omega)
      have:=Zbl (n:=t.Station.length) (p:=fun n=>degB t n) (body:=fun x:Int=>Zcr N t (degs t) x) (bad:=.inr 260) (fin:=.inl ()) (fun k hk=>by
       unfold Zcr
       have j2:idx t.Station (k:Int)=some (stB t k):=ZcR false (by omega) (by omega)
       have j3:idx (degs t) (k:Int)=some ((degs t).getD k 0):=ZcR 0 (by omega) (by omega)
       rw [if_pos (by simp;omega),j2,j3,ZT (by omega)]
       simp only [Option.bind_some]
       unfold degB
       cases stB t k with
       | false=>rfl
       | true =>
        simp only [if_true,Bool.not_true,Bool.false_or]
        generalize (degs t).getD k 0=d
        by_cases g1:d<1
        ·simp [g1,show ¬ (1≤d) by omega]
        ·by_cases g2:d > 2
         ·simp [g1,g2,show ¬ (d≤2) by omega]
         ·simp [g1,g2,show 1≤d by omega,show d≤2 by omega]) (by unfold Zcr;rw [if_neg (by simp)]) (N:=N) (by omega)
      rw [this,Option.bind_some,Zrp]
      have hsl:t.Station.length=t.Nodes.toNat:=by omega
      rw [hsl]
      cases hD:allB t.Nodes.toNat (fun n=>degB t n) with
      | false=>simp
      | true =>
       simp only [if_true,Bool.and_true]
       rw [hr.1,Option.bind_some,ZeD (by omega) (by omega),Option.bind_some,Zly,show (Zjk t 0).length=t.Nodes.toNat by omega]
       cases allB t.Nodes.toNat (fun n=>(Zjk t 0).getD n false)<;>rfl
    ·rw [if_pos (by simp;omega)];simp [h4]
   ·rw [if_pos (by simp [h3])];simp [h3]
  ·rw [if_pos (by simp;omega)];simp [h2]
 ·rw [if_pos (by simp;omega)];simp [h1]
end
end Go.Sh

set_option linter.unusedVariables false
set_option linter.unusedSimpArgs false
namespace Go.Sh
open Go Go.Eng
theorem Zf2 {α:Type} {b:Nat} {l m:List α} (h:l.length+m.length≤1000) (hb:b≤1000):appI b l m=some (l++m):=by
 unfold appI
 have:(l.length+m.length) * b≤1000 * 1000:=Nat.mul_le_mul h hb
 rw [if_pos ⟨by omega,by omega⟩]
def at0 (r:List Int) (k:Nat):Int:=r.getD k 0
def ZbS (t:Zh) (p:Int):Bool:=decide (0≤p)&&decide (p<2 * (t.Links.length:Int))
def plk (t:Zh) (p:Int):Zy:=t.Links.getD (Int.tdiv p 2).toNat dL
def frm (t:Zh) (p:Int):Int:=if (Int.tmod p 2==1)=true then (plk t p).B else (plk t p).A
def too (t:Zh) (p:Int):Int:=if (Int.tmod p 2==1)=true then (plk t p).A else (plk t p).B
def Zah (t:Zh) (r:List Int):List Int:=frm t (at0 r 0)::r.map (too t)
def nd (t:Zh) (r:List Int) (k:Nat):Int:=(Zah t r).getD k 0
def okAt (t:Zh) (r:List Int) (k:Nat):Bool :=
 ZbS t (at0 r k)&&(((k==0)||((frm t (at0 r k)==nd t r k) && !stB t (nd t r k))) && !((Zah t r).take (k+1)).contains (nd t r (k+1)))
def ZaE (t:Zh) (r:List Int):Bool:=decide (1≤r.length)&&(decide (r.length≤8)&&allB r.length (okAt t r))
section
variable {N:Nat} {t:Zh}
structure Good (t:Zh):Prop where
 n2:2≤t.Nodes
 n12:t.Nodes≤12
 st:(t.Station.length:Int)=t.Nodes
 l24:t.Links.length≤24
 links:∀ k,k<t.Links.length→Zfa t (lk t k)=true∧nojB t k=true
 nodes:∀ n,n<t.Nodes.toNat→(Zjk t 0).getD n false=true∧degB t n=true
theorem ZaX:Zeo t=true↔Good t:=by
 unfold Zeo
 simp only [Bool.and_eq_true,decide_eq_true_eq,beq_iff_eq,Zba]
 exact ⟨fun ⟨a,b,c,d,e,f⟩=>⟨a,b,c,d,e,f⟩,fun h=>⟨h.n2,h.n12,h.st,h.l24,h.links,h.nodes⟩⟩
theorem Zp4 {p:Int} (hp:ZbS t p=true):0≤Int.tdiv p 2∧Int.tdiv p 2<t.Links.length:=by
 simp only [ZbS,Bool.and_eq_true,decide_eq_true_eq] at hp
 rw [Int.tdiv_eq_ediv_of_nonneg hp.1]
 omega
theorem ZlG (hL:t.Links.length≤1000) {p:Int} (hp:ZbS t p=true):idx t.Links (w64 (Int.tdiv p 2))=some (plk t p):=by
 obtain ⟨h1,h2⟩:=Zp4 hp
 rw [ZP (by omega) (by omega)]
 exact ZcR dL h1 h2
theorem Zdf (hL:t.Links.length≤1000) {p:Int} (hp:ZbS t p=true):ZbV N t p=some (frm t p):=by
 unfold ZbV frm;rw [ZlG hL hp];simp only [Option.bind_some];split<;>rfl
theorem ZdC (hL:t.Links.length≤1000) {p:Int} (hp:ZbS t p=true):ZcP N t p=some (too t p):=by
 unfold ZcP too;rw [ZlG hL hp];simp only [Option.bind_some];split<;>rfl
theorem Zmv (hL:t.Links.length≤1000) (p:Int):ZfX N t p=some (ZbS t p):=by
 unfold ZfX ZbS;rw [ZP (by omega) (by omega)]
theorem Zfc (g:Good t) {p:Int} (hp:ZbS t p=true):ZdK t (frm t p)=true∧ZdK t (too t p)=true∧frm t p ≠ too t p:=by
 obtain ⟨h1,h2⟩:=Zp4 hp
 have:=Zc0 (g.links (Int.tdiv p 2).toNat (by omega)).1
 unfold frm too
 split
 ·exact ⟨this.2.1,this.1,Ne.symm this.2.2⟩
 ·exact this
theorem Zc4 {α:Type} {l:List α} {k:Nat} (h:k<l.length) (d:α):l.getD k d=l[k]:=by simp [List.getD_eq_getElem?_getD,h]
theorem Zix {r:List Int} {k:Nat} (h:k<r.length):at0 r k=r[k]:=Zc4 h 0
theorem Zdi (r:List Int):(Zah t r).length=r.length+1:=by simp [Zah]
theorem ZfI {r:List Int} {k:Nat} (h:k<r.length):nd t r (k+1)=too t (at0 r k):=by
 unfold nd Zah
 rw [List.getD_cons_succ,Zc4 (by simpa using h),Zix h,List.getElem_map]
theorem nd_zero (r:List Int):nd t r 0=frm t (at0 r 0):=rfl
theorem Znz {r:List Int} {k:Nat} (h:k<(Zah t r).length):(Zah t r)[k]=nd t r k:=by unfold nd;rw [Zc4 h]
theorem nd_node (g:Good t) {r:List Int} (hp:∀ k,k<r.length→ZbS t (at0 r k)=true) (h1:1≤r.length) {k:Nat} (hk:k≤r.length):ZdK t (nd t r k)=true:=by
 cases k with
 | zero=>exact (Zfc g (hp 0 (by omega))).1
 | succ k=>rw [ZfI (by omega)];exact (Zfc g (hp k (by omega))).2.1
theorem ZfF (hL:t.Links.length≤1000) {r:List Int} (h1:1≤r.length) (h12:r.length≤100) (hp:∀ k,k<r.length→ZbS t (at0 r k)=true) (hN:200≤N):Zct N t r=some (Zah t r):=by
 unfold Zct
 have e0:idx r 0=some (at0 r 0):=by unfold at0;exact ZcR 0 (Int.le_refl _) (by omega)
 rw [e0,Option.bind_some,Zdf hL (hp 0 (by omega)),Option.bind_some]
 have hlen:=Zdi (t:=t) r
 have:=ZdJ (n:=r.length) (f:=fun b k=>(Zah t r).take (k+2)) (body:=fun x:Int × (List Int)=>Zbp N t r x.1 x.2) (fin:=fun b=>b) (fun k b=>b=(Zah t r).take (k+1))
  (fun k b hk hb=>by
   show Zbp N t r k b=_
   unfold Zbp
   subst hb
   rw [if_pos (by simp;omega),Zcz hk,Option.bind_some]
   have e:r[k]=at0 r k:=(Zix hk).symm
   rw [e,ZdC hL (hp k hk),Option.bind_some,Zf2 (by simp;omega) (by omega),Option.bind_some,ZT (by omega)]
   rw [← ZfI hk,← Znz (by omega),List.take_append_getElem])
  (fun k b hk hb=>rfl)
  (fun b hb=>by show Zbp N t r r.length b=_;unfold Zbp;rw [if_neg (by simp)]) (N:=N) (by omega) (b0:=[frm t (at0 r 0)]) (by simp [Zah])
 rw [this.1,Option.bind_some,this.2,List.take_of_length_le (by omega)]
theorem Zlq (g:Good t) {r:List Int} (h12:r.length≤100) (hN:200≤N):Zca N t r=some (ZaE t r):=by
 have hL:t.Links.length≤1000:=by have:=g.l24;omega
 unfold Zca ZaE
 by_cases h1:1≤r.length
 ·by_cases h8:r.length≤8
  ·rw [if_neg (by simp;omega)]
   have a1:=Zbl (n:=r.length) (p:=fun k=>ZbS t (at0 r k)) (body:=fun x:Int=>Zb9 N t r x) (bad:=.inr false) (fin:=.inl ()) (fun k hk=>by
    unfold Zb9
    rw [if_pos (by simp;omega),Zcz hk,Option.bind_some,Zmv hL,Option.bind_some,ZT (by omega),Zix hk]
    cases ZbS t r[k]<;>rfl) (by unfold Zb9;rw [if_neg (by simp)]) (N:=N) (by omega)
   rw [a1,Option.bind_some]
   simp only [h1,h8,decide_true,Bool.true_and]
   cases hp:allB r.length (fun k=>ZbS t (at0 r k)) with
   | false =>
    have:allB r.length (okAt t r)=false:=by
     rw [← Bool.not_eq_true,Zba]
     rw [← Bool.not_eq_true,Zba] at hp
     intro h
     exact hp fun k hk=>by have:=h k hk;simp only [okAt,Bool.and_eq_true] at this;exact this.1
    rw [this];rfl
   | true =>
    rw [Zba] at hp
    simp only [if_true]
    rw [ZfF hL h1 h12 hp hN,Option.bind_some]
    have hlen:=Zdi (t:=t) r
    have a2:=Zbl (n:=r.length+1) (p:=fun i => !((Zah t r).take i).contains (nd t r i) && !(decide (0<i)&&(decide (i<r.length)&&(stB t (nd t r i) || !(frm t (at0 r i)==nd t r i)))))
     (body:=fun x:Int=>Zb8 N t r (Zah t r) x) (bad:=.inr false) (fin:=.inl ()) (fun i hi=>by
     unfold Zb8
     have hi':i<(Zah t r).length:=by omega
     have hsub:subI (Zah t r) 0 (i:Int)=some ((Zah t r).take i):=by
      unfold subI
      rw [if_pos ⟨by omega,by omega,by omega⟩]
      simp
     rw [if_pos (by simp;omega),hsub,Option.bind_some,Zcz hi',Option.bind_some,Znz hi',ZhW (by simp;omega) (by simp;omega),Option.bind_some,ZT (by omega)]
     cases hc:((Zah t r).take i).contains (nd t r i) with
     | true=>rfl
     | false =>
      by_cases hi0:0<i
      ·by_cases hil:i<r.length
       ·have e1:decide ((i:Int) > 0)=true:=by simp;omega
        have e2:decide ((i:Int)<(r.length:Int))=true:=by simp;omega
        rw [e1,e2,Zcz hil]
        have e3:r[i]=at0 r i:=(Zix hil).symm
        rw [e3]
        simp only [Bool.false_eq_true,if_false,if_true,Option.bind_some]
        rw [ZeF g.st (nd_node g hp h1 (by omega)),Zdf hL (hp i hil)]
        simp only [hi0,hil,decide_true,Bool.true_and,Bool.not_false,bne,Option.bind_some]
        cases stB t (nd t r i)<;>cases (frm t (at0 r i)==nd t r i)<;>rfl
       ·have e1:decide ((i:Int) > 0)=true:=by simp;omega
        have e2:decide ((i:Int)<(r.length:Int))=false:=by simp;omega
        rw [e1,e2];simp [hil]
      ·have e1:decide ((i:Int) > 0)=false:=by simp;omega
       rw [e1];simp [hi0]) (by unfold Zb8;rw [if_neg (by simp;omega)]) (N:=N) (by omega)
    rw [a2,Option.bind_some]
    have:allB (r.length+1) (fun i => !((Zah t r).take i).contains (nd t r i) && !(decide (0<i)&&(decide (i<r.length)&&(stB t (nd t r i) || !(frm t (at0 r i)==nd t r i)))))=allB r.length (okAt t r):=by
     rw [Bool.eq_iff_iff,Zba,Zba]
     constructor
     ·intro h k hk
      have q1:=h k (by omega)
      have q2:=h (k+1) (by omega)
      simp only [Bool.and_eq_true] at q1 q2
      simp only [okAt,Bool.and_eq_true]
      refine ⟨hp k hk,?_,q2.1⟩
      by_cases hk0:k=0
      ·simp [hk0]
      ·have:=q1.2
       simp only [show 0<k by omega,hk,decide_true,Bool.true_and,Bool.not_eq_true',Bool.or_eq_false_iff] at this
       simp only [Bool.or_eq_true,Bool.and_eq_true,Bool.not_eq_true']
       right
       exact ⟨by simpa using this.2,this.1⟩
     ·intro h i hi
      simp only [Bool.and_eq_true]
      constructor
      ·cases i with
       | zero=>simp
       | succ i =>
        have:=h i (by omega)
        simp only [okAt,Bool.and_eq_true] at this
        exact this.2.2
      ·by_cases hi0:0<i
       ·by_cases hil:i<r.length
        ·have:=h i hil
         simp only [okAt,Bool.and_eq_true,Bool.or_eq_true,Bool.not_eq_true'] at this
         have h2:=this.2.1
         rcases h2 with h2 | ⟨h2,h3⟩
         ·simp at h2;omega
         ·simp [h2,h3]
        ·simp [hil]
       ·simp [hi0]
    rw [this]
    cases allB r.length (okAt t r)<;>rfl
  ·rw [if_pos (by simp;omega)];simp [h8]
 ·rw [if_pos (by simp;omega)];simp [h1]
theorem ZkQ {σ:Type} (hL:t.Links.length≤1000) (y:σ→Int→ZaG→Option (σ × Bool)) {r:List Int} (g:σ) {k:Nat} (hk:k<r.length) (hk':k<1000):Z0 N y r ⟨t⟩ (k:Int) g =
  if ZbS t (at0 r k)=true then (y g k ⟨at0 r k,frm t (at0 r k),too t (at0 r k)⟩).bind fun q=>if (!q.2)=true then some (.inr q.1) else some (.inl (((k+1:Nat):Int),q.1)) else some (.inr g):=by
 unfold Z0
 rw [if_pos (by simp;omega),Zcz hk,Option.bind_some,← Zix hk,ZT (by omega)]
 simp only
 have hpo:(if decide (at0 r k<0)=true then some true else some (decide (at0 r k ≥ w64 (2 * (t.Links.length:Int)))))=some (!ZbS t (at0 r k)):=by
  rw [ZP (by omega) (by omega)]
  unfold ZbS
  by_cases h1:at0 r k<0
  ·rw [if_pos (by simpa using h1)];simp [show ¬ (0≤at0 r k) by omega]
  ·rw [if_neg (by simpa using h1)]
   by_cases h2:at0 r k<2 * (t.Links.length:Int)
   ·rw [decide_eq_false (by omega),decide_eq_true (show 0≤at0 r k by omega),decide_eq_true h2];rfl
   ·rw [decide_eq_true (by omega),decide_eq_true (show 0≤at0 r k by omega),decide_eq_false h2];rfl
 rw [hpo,Option.bind_some]
 cases hp:ZbS t (at0 r k) with
 | false=>rfl
 | true =>
  rw [ZlG hL hp]
  simp only [Bool.not_true,Bool.false_eq_true,if_false,Option.bind_some,if_true]
  unfold frm too
  split<;>rfl
theorem ZoO {σ:Type} (y:σ→Int→ZaG→Option (σ × Bool)) {r:List Int} (g:σ):Z0 N y r ⟨t⟩ (r.length:Int) g=some (.inr g):=by
 unfold Z0
 rw [if_neg (by simp)]
theorem Zk6 {a:Zo} {x:Int} (h0:0≤x) (h:x<12):a.get x=some (a.l.getD x.toNat false):=by
 unfold Zo.get
 exact ZcR false h0 (by show x<((12:Nat):Int);omega)
theorem ZnT {a:Zo} {x:Int} {v:Bool} {y:Nat} (h0:0≤x) (h:x<12):(a.set x v).l.getD y false=if y=x.toNat then v else a.l.getD y false:=by
 rw [Zo.l_set]
 have hlen:a.l.length=12:=rfl
 rw [List.getD_eq_getElem?_getD,List.getD_eq_getElem?_getD,List.getElem?_set]
 by_cases e:y=x.toNat
 ·subst e
  rw [if_pos rfl,if_pos (by omega),if_pos rfl]
  rfl
 ·rw [if_neg (Ne.symm e),if_neg e]
def VInv (t:Zh) (r:List Int) (k:Nat) (v:Int × Int × Zo):Prop :=
 v.1=k∧(0<k→v.2.1=nd t r k)∧∀ x:Nat,x<12→v.2.2.l.getD x false=(decide (0<k)&&((Zah t r).take (k+1)).contains (x:Int))
theorem ZgM {r:List Int} {k:Nat} (h:k<(Zah t r).length):(Zah t r).take (k+1)=(Zah t r).take k++[nd t r k]:=by
 rw [← Znz h,List.take_append_getElem]
theorem Zo6 (g:Good t) {r:List Int} {k:Nat} (hk:k<r.length) (h12:r.length≤100) (hpre:∀ j,j<k→ZbS t (at0 r j)=true) (hp:ZbS t (at0 r k)=true) {v:Int × Int × Zo} (hv:VInv t r k v) :
  ∃ v' e,Zaq N ⟨t⟩ v.1 v.2.1 v.2.2 (k:Int) ⟨at0 r k,frm t (at0 r k),too t (at0 r k)⟩=some (v',e)∧((e=0∧okAt t r k=true∧VInv t r (k+1) v')∨(e=1∧okAt t r k=false∧v'.1=k)):=by
 obtain ⟨good,at_,seen⟩:=v
 obtain ⟨e1,e2,e3⟩:=hv
 simp only at e1 e2 e3
 subst e1
 obtain ⟨f1,f2,f3⟩:=Zfc g hp
 rw [Zf0] at f1 f2
 have hn:=g.n12
 have hlen:=Zdi (t:=t) r
 have hpk:∀ j,j<k+1→ZbS t (at0 r j)=true:=fun j hj=>by
  by_cases e:j=k
  ·subst e;exact hp
  ·exact hpre j (by omega)
 have hmem:∀ (s:Zo),(∀ x:Nat,x<12→s.l.getD x false=((Zah t r).take (k+1)).contains (x:Int)) →
   s.l.getD (too t (at0 r k)).toNat false=((Zah t r).take (k+1)).contains (nd t r (k+1)) ∧
   (((Zah t r).take (k+1)).contains (nd t r (k+1))=false→VInv t r (k+1) (w64 ((k:Int)+1),too t (at0 r k),s.set (too t (at0 r k)) true)):=by
  intro s hs
  constructor
  ·rw [hs _ (by omega),ZfI hk,Int.toNat_of_nonneg f2.1]
  ·intro hc
   refine ⟨by simp only;rw [ZT (by omega)],fun _=>(ZfI hk).symm,fun x hx => ?_⟩
   simp only
   rw [ZnT f2.1 (by omega),ZgM (by omega),List.contains_append,ZfI hk]
   simp only [show 0<k+1 by omega,decide_true,Bool.true_and,List.contains_cons,List.contains_nil,Bool.or_false]
   by_cases e:x=(too t (at0 r k)).toNat
   ·rw [if_pos e]
    have:((x:Int)==too t (at0 r k))=true:=by simp;omega
    rw [this,Bool.or_true]
   ·rw [if_neg e,hs x hx]
    have:((x:Int)==too t (at0 r k))=false:=by simp;omega
    rw [this,Bool.or_false]
 unfold Zaq okAt
 by_cases hk0:k=0
 ·subst hk0
  rw [if_pos (by simp)]
  simp only
  rw [Zk6 f1.1 (by omega),Option.bind_some,Zk6 f2.1 (by omega),Option.bind_some]
  have hs0:∀ x:Nat,x<12→(seen.set (frm t (at0 r 0)) true).l.getD x false=((Zah t r).take (0+1)).contains (x:Int):=fun x hx=>by
   rw [ZnT f1.1 (by omega)]
   have he:seen.l.getD x false=false:=by rw [e3 x hx];simp
   rw [he]
   show _=[frm t (at0 r 0)].contains (x:Int)
   simp only [List.contains_cons,List.contains_nil,Bool.or_false]
   by_cases e:x=(frm t (at0 r 0)).toNat
   ·rw [if_pos e];symm;simp;omega
   ·rw [if_neg e];symm;simp;omega
  obtain ⟨m1,m2⟩:=hmem _ hs0
  rw [m1]
  have hc:((Zah t r).take (0+1)).contains (nd t r (0+1))=false:=by
   show [frm t (at0 r 0)].contains _=false
   rw [ZfI hk]
   simp only [List.contains_cons,List.contains_nil,Bool.or_false]
   simp [Ne.symm f3]
  rw [hc]
  refine ⟨_,0,rfl,.inl ⟨rfl,?_,m2 hc⟩⟩
  rw [hp];rfl
 ·rw [if_neg (by simp;omega)]
  simp only
  have ha:=e2 (by omega)
  subst ha
  have hst:idx t.Station (nd t r k)=some (stB t (nd t r k)):=by
   apply ZeF g.st
   obtain ⟨j,rfl⟩:∃ j,k=j+1:=⟨k - 1,by omega⟩
   rw [ZfI (by omega)]
   exact (Zfc g (hpre j (by omega))).2.1
  have hs1:∀ x:Nat,x<12→seen.l.getD x false=((Zah t r).take (k+1)).contains (x:Int):=fun x hx=>by rw [e3 x hx];simp [show 0<k by omega]
  obtain ⟨m1,m2⟩:=hmem _ hs1
  rw [hst,hp,show (k==0)=false by simp [hk0]]
  simp only [Option.bind_some,bne,Bool.false_or,Bool.true_and]
  cases hf:(frm t (at0 r k)==nd t r k) with
  | false=>exact ⟨_,1,rfl,.inr ⟨rfl,rfl,rfl⟩⟩
  | true =>
   cases hs:stB t (nd t r k) with
   | true=>exact ⟨_,1,rfl,.inr ⟨rfl,rfl,rfl⟩⟩
   | false =>
    simp only [Bool.not_true,Bool.false_eq_true,if_false,Option.bind_some]
    rw [Zk6 f2.1 (by omega),Option.bind_some,Option.bind_some,m1]
    cases hc:((Zah t r).take (k+1)).contains (nd t r (k+1)) with
    | true=>exact ⟨_,1,rfl,.inr ⟨rfl,rfl,rfl⟩⟩
    | false=>exact ⟨_,0,rfl,.inl ⟨rfl,rfl,m2 hc⟩⟩
theorem Zo7 (g:Good t) {r:List Int} (h12:r.length≤100):∀ (n N k:Nat) (v:Int × Int × Zo),r.length - k=n→k≤r.length→n<N→(∀ j,j<k→okAt t r j=true)→VInv t r k v→∀ M:Nat,
  ∃ s:(Int × Int × Zo) × Nat,Z2 (fun x:Int × ((Int × Int × Zo) × Nat)=>Z0 M (fun (s:(Int × Int × Zo) × Nat) (x522:Int) (x523:ZaG)=>ZgK (fun v:Int × Int × Zo=>Zaq M ⟨t⟩ v.1 v.2.1 v.2.2 x522 x523) s) r ⟨t⟩ x.1 x.2) N ((k:Int),(v,0))=some s ∧
   (s.2=0∨s.2=1)∧(s.1.1==(r.length:Int))=allB r.length (okAt t r):=by
 have hL:t.Links.length≤1000:=by have:=g.l24;omega
 intro n
 induction n with
 | zero =>
  intro N k v h1 h2 h3 hpre hv M
  obtain rfl:k=r.length:=by omega
  cases N with
  | zero=>omega
  | succ N =>
   refine ⟨(v,0),by rw [ZaH (ZoO _ _)],.inl rfl,?_⟩
   rw [hv.1,Zba.2 hpre]
   simp
 | succ n ih =>
  intro N k v h1 h2 h3 hpre hv M
  have hk:k<r.length:=by omega
  cases N with
  | zero=>omega
  | succ N =>
   have hbad:okAt t r k=false→(((k:Nat):Int)==(r.length:Int))=allB r.length (okAt t r):=fun hb=>by
    have e1:(((k:Nat):Int)==(r.length:Int))=false:=by simp;omega
    rw [e1];symm
    rw [← Bool.not_eq_true,Zba]
    intro h;rw [h k hk] at hb;cases hb
   cases hp:ZbS t (at0 r k) with
   | false =>
    refine ⟨(v,0),?_,.inl rfl,?_⟩
    ·rw [ZaH]
     show Z0 M _ r ⟨t⟩ (k:Int) (v,0)=_
     rw [ZkQ hL _ _ hk (by omega),if_neg (by rw [hp];simp)]
    ·simp only [hv.1]
     exact hbad (by unfold okAt;rw [hp];rfl)
   | true =>
    obtain ⟨v',e,s1,s2⟩:=Zo6 (N:=M) g hk h12 (fun j hj=>by have:=hpre j hj;simp only [okAt,Bool.and_eq_true] at this;exact this.1) hp hv
    have hy:Z0 M (fun (s:(Int × Int × Zo) × Nat) (x522:Int) (x523:ZaG)=>ZgK (fun v:Int × Int × Zo=>Zaq M ⟨t⟩ v.1 v.2.1 v.2.2 x522 x523) s) r ⟨t⟩ (k:Int) (v,0) =
      if (!(e==0))=true then some (.inr (v',e)) else some (.inl (((k+1:Nat):Int),(v',e))):=by
     rw [ZkQ hL _ _ hk (by omega),if_pos hp]
     simp only [ZgK,if_true,s1,Option.map_some,Option.bind_some]
    rcases s2 with ⟨rfl,s3,s4⟩ | ⟨rfl,s3,s4⟩
    ·rw [Zb5 (y:=(((k+1:Nat):Int),(v',0))) hy]
     exact ih N (k+1) v' (by omega) (by omega) (by omega) (fun j hj=>by
      by_cases e:j=k
      ·subst e;exact s3
      ·exact hpre j (by omega)) s4 M
    ·refine ⟨(v',1),by rw [ZaH (r:=(v',1)) hy],.inr rfl,?_⟩
     rw [s4];exact hbad s3
theorem ZfD (g:Good t) {r:List Int} (h12:r.length≤100) (hN:200≤N):Zbc N ⟨t⟩ r=some (ZaE t r):=by
 unfold Zbc ZaE
 by_cases h1:1≤r.length
 ·by_cases h8:r.length≤8
  ·rw [if_neg (by simp;omega)]
   simp only [h1,h8,decide_true,Bool.true_and]
   obtain ⟨s,s1,s2,s3⟩:=Zo7 g h12 r.length N 0 (0,0,⟨false,false,false,false,false,false,false,false,false,false,false,false⟩) (by omega) (by omega) (by omega) (fun j hj=>by omega) ⟨rfl,fun h=>by omega,fun x hx=>by
    simp only [Nat.lt_irrefl,decide_false,Bool.false_and]
    revert x
    decide⟩ N
   unfold Zcj ZbI
   simp only [Option.bind_some]
   rw [show ((0:Nat):Int)=0 from rfl] at s1
   rw [s1]
   simp only [Option.bind_some]
   rcases s2 with e | e
   ·rw [e];simp only [beq_self_eq_true,if_true,Option.bind_some];rw [s3]
   ·rw [e];simp only [show ((1:Nat)==0)=false from rfl,beq_self_eq_true,Bool.false_eq_true,if_false,if_true,Option.bind_some];rw [s3]
  ·rw [if_pos (by simp;omega)];simp [h8]
 ·rw [if_pos (by simp;omega)];simp [h1]
end
end Go.Sh

set_option linter.unusedVariables false
set_option linter.unusedSimpArgs false
namespace Go.Sh
open Go Go.Eng
def mkS (p:Int):ZF:=⟨p,0,1⟩
def perB (p:Int):Bool:=decide (1≤p)&&decide (p≤240)
def lcmL (P:List Int):Nat:=lcmP (P.map mkS)
def perU (P:List Int) (u:ZB):Int:=P.getD u.Stream.toNat 0
def useB (P:List Int) (u:ZB):Bool:=decide (0≤u.Stream∧u.Stream<(P.length:Int)∧0≤u.Port∧u.Port<48∧0≤u.From∧u.From<perU P u∧1≤u.Long∧u.Long≤perU P u)
def Zp3 (p:Zs):Bool:=decide (p.Periods.length≤12)&&decide (p.Uses.length≤192)&&p.Periods.all perB&&p.Uses.all (useB p.Periods)&&decide (lcmL p.Periods≤960)
theorem ZjR {p:Int}:perB p=true↔1≤p∧p≤240:=by simp [perB]
theorem Zrm {P:List Int} (h:P.all perB=true):allV (P.map mkS)=true:=by
 unfold allV
 rw [List.all_eq_true] at h ⊢
 intro s hs
 obtain ⟨p,hp,rfl⟩:=List.mem_map.1 hs
 have:=ZjR.1 (h p hp)
 rw [decide_eq_true_eq]
 show 1≤p∧p≤960∧(0:Int)≤0∧(0:Int)<p∧(1:Int)≤1∧(1:Int)≤p
 omega
theorem Zmx {N:Nat} (hN:2000≤N) {P:List Int} (hl:P.length≤1000):ZdG N P=some (ZoV (P.map mkS)):=by
 unfold ZdG
 have hmk:Zh2 24 (P.length:Int) (P.length:Int) (ZF.mk 0 0 0)=some (List.replicate P.length (ZF.mk 0 0 0)):=by
  unfold Zh2;rw [if_pos (by omega)];simp
 rw [hmk,Option.bind_some]
 have hloop:∀ (n M k:Nat),P.length - k=n→k≤P.length→n<M→Z2 (fun x:Int × List ZF=>Zcy N P x.1 x.2) M ((k:Int),(P.map mkS).take k++List.replicate (P.length - k) (ZF.mk 0 0 0))=some (P.map mkS):=by
  intro n
  induction n with
  | zero =>
   intro M k hn hk hM
   have:k=P.length:=by omega
   subst this
   cases M with
   | zero=>omega
   | succ M =>
    refine ZaH ?_
    simp only [Zcy]
    rw [if_neg (by simp)]
    simp [List.take_of_length_le]
  | succ n ih =>
   intro M k hn hk hM
   cases M with
   | zero=>omega
   | succ M =>
    have hlt:k<P.length:=by omega
    have hc:=ih M (k+1) (by omega) (by omega) (by omega)
    rw [Zb5 (y:=(((k+1:Nat):Int),(P.map mkS).take (k+1)++List.replicate (P.length - (k+1)) (ZF.mk 0 0 0))),hc]
    simp only [Zcy]
    have hlen:((P.map mkS).take k++List.replicate (P.length - k) (ZF.mk 0 0 0)).length=P.length:=by simp;omega
    rw [if_pos (by simpa using hlt),Zhc,List.getElem?_eq_getElem hlt,Option.bind_some,Zhc,List.getElem?_eq_getElem (by omega),Option.bind_some,ZP (by omega) (by omega)]
    have hset:List.set ((P.map mkS).take k++List.replicate (P.length - k) (ZF.mk 0 0 0)) k (mkS P[k])=(P.map mkS).take (k+1)++List.replicate (P.length - (k+1)) (ZF.mk 0 0 0):=by
     rw [List.set_append_right _ _ (by simp;omega)]
     have e1:k - ((P.map mkS).take k).length=0:=by simp;omega
     rw [e1,show P.length - k=(P.length - (k+1))+1 by omega,List.replicate_succ,List.set_cons_zero,List.take_succ_eq_append_getElem (by simpa using hlt)]
     simp
    simp only [Int.toNat_natCast]
    rw [show (ZF.mk P[k] 0 1)=mkS P[k] from rfl,hset]
    rfl
 have hc:=hloop P.length N 0 (by omega) (by omega) (by omega)
 simp only [List.take_zero,List.nil_append,Nat.sub_zero] at hc
 rw [show ((0:Nat):Int)=0 from rfl] at hc
 rw [hc,Option.bind_some,ZjF hN,Option.bind_some]
theorem Zg1 {N:Nat} (hN:2000≤N) {P:List Int} (hl:P.length≤12) (h:P.all perB=true):ZdG N P=some (if lcmL P≤960 then ((lcmL P:Int),0) else (0,6)):=by
 rw [Zmx hN (by omega)]
 unfold ZoV
 rw [if_neg (by simp;omega),if_pos (Zrm h)]
 rfl
theorem Zi5 {α ρ:Type} {l:List α} {p:α→Bool} {body:Int→Option (Int ⊕ ρ)} {bad fin:ρ} (hstep:∀ (k:Nat) (h:k<l.length),body (k:Int)=if p l[k]=true then some (.inl ((k+1:Nat):Int)) else some (.inr bad))
  (hend:body (l.length:Int)=some (.inr fin)) {N:Nat} (hN:l.length<N):Z2 body N 0=some (if l.all p=true then fin else bad):=by
 have:=ZnF hstep hend l.length N 0 (by omega) (by omega) hN
 rw [show ((0:Nat):Int)=0 from rfl] at this
 rw [this,List.drop_zero]
theorem Zoj {P:List Int} {u:ZB} (h0:0≤u.Stream) (h1:u.Stream<(P.length:Int)):idx P u.Stream=some (perU P u):=ZcR 0 h0 h1
theorem ZjO {P:List Int} {u:ZB}:useB P u=true↔0≤u.Stream∧u.Stream<(P.length:Int)∧0≤u.Port∧u.Port<48∧0≤u.From∧u.From<perU P u∧1≤u.Long∧u.Long≤perU P u:=by simp [useB]
theorem Zmy {N:Nat} (hN:2000≤N) (p:Zs):ZdH N p=some (if Zp3 p=true then 0 else 340):=by
 unfold ZdH Zp3
 by_cases h1:p.Periods.length≤12
 ·by_cases h2:p.Uses.length≤192
  ·rw [if_neg (by simp;omega)]
   simp only [h1,h2,decide_true,Bool.true_and]
   rw [Zi5 (l:=p.Periods) (p:=perB) (bad:=.inr 340) (fin:=.inl ()) (fun k hk => ?_) (by simp [Zdh]) (by omega)]
   ·cases hP:p.Periods.all perB with
    | false=>simp
    | true =>
     simp only [if_true,Option.bind_some,Bool.true_and]
     rw [Zg1 hN h1 hP,Option.bind_some]
     by_cases hc:lcmL p.Periods≤960
     ·rw [if_pos hc]
      simp only [bne_self_eq_false,Bool.false_eq_true,if_false]
      rw [Zi5 (l:=p.Uses) (p:=useB p.Periods) (bad:=.inr 340) (fin:=.inl ()) (fun k hk => ?_) (by simp [Zdg]) (by omega)]
      ·cases hU:p.Uses.all (useB p.Periods) with
       | false=>simp
       | true=>simp [hc]
      ·simp only [Zdg]
       rw [if_pos (by simpa using hk),Zcz hk,Option.bind_some]
       have hw:w64 ((k:Int)+1)=((k+1:Nat):Int):=ZT (by omega)
       rw [hw]
       by_cases hc:0≤p.Uses[k].Stream∧p.Uses[k].Stream<(p.Periods.length:Int)∧0≤p.Uses[k].Port∧p.Uses[k].Port<48
       ·obtain ⟨c1,c2,c3,c4⟩:=hc
        rw [if_neg (by simp;omega),Zoj c1 c2]
        simp only [Option.bind_some]
        by_cases hu:useB p.Periods p.Uses[k]=true
        ·obtain ⟨_,_,_,_,u1,u2,u3,u4⟩:=ZjO.1 hu
         rw [if_neg (by simp;omega),if_pos hu]
        ·have hn:¬ (0≤p.Uses[k].From∧p.Uses[k].From<perU p.Periods p.Uses[k]∧1≤p.Uses[k].Long∧p.Uses[k].Long≤perU p.Periods p.Uses[k]):=fun q=>hu (ZjO.2 ⟨c1,c2,c3,c4,q⟩)
         rw [if_neg hu,if_pos (by simp;omega)]
       ·have hu:¬ useB p.Periods p.Uses[k]=true:=fun q=>hc (by obtain ⟨a,b,c,d,_⟩:=ZjO.1 q;exact ⟨a,b,c,d⟩)
        rw [if_pos (by simp;omega),if_neg hu]
     ·rw [if_neg hc];simp [hc]
   ·simp only [Zdh]
    rw [if_pos (by simpa using hk),Zcz hk]
    simp only [Option.bind_some]
    rw [ZT (by omega)]
    by_cases c:perB p.Periods[k]=true
    ·have:=ZjR.1 c
     rw [if_neg (by simp;omega),if_pos c]
    ·rw [if_pos,if_neg c]
     simp [perB] at c ⊢;omega
  ·rw [if_pos (by simp;omega)];simp [h2]
 ·rw [if_pos (by simp;omega)];simp [h1]
theorem Zp1 {p:Zs}:Zp3 p=true↔p.Periods.length≤12∧p.Uses.length≤192∧p.Periods.all perB=true∧p.Uses.all (useB p.Periods)=true∧lcmL p.Periods≤960:=by
 unfold Zp3
 simp only [Bool.and_eq_true,decide_eq_true_eq]
 constructor
 ·rintro ⟨⟨⟨⟨a,b⟩,c⟩,d⟩,e⟩;exact ⟨a,b,c,d,e⟩
 ·rintro ⟨a,b,c,d,e⟩;exact ⟨⟨⟨⟨a,b⟩,c⟩,d⟩,e⟩
end Go.Sh
