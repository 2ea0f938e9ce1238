/- Part of the proof; written by a program out of the texts in wip/. -/
import Derived.Test.YtmplmekdilmdgaaStreamHopsStr1
set_option linter.unusedVariables false
set_option linter.unusedSimpArgs false
namespace Go.Sh
open Go Go.Eng
def Byte (v:Int):Prop:=0≤v∧v≤255
theorem Zdm {v:Int} (h:InK .u8 v):Byte v:=by
 exact h.u8
section
variable {N:Nat}
theorem Zet {l:List Int} (hl:∀ x ∈ l,Byte x) (hlen:l.length≤maxLen) {i:Int} (h0:0≤i):∃ v,Zc2 N l i=some v∧Byte v:=by
 unfold Zc2
 by_cases h:i<(l.length:Int)
 ·rw [if_pos (by simpa using h),Zkv h0 (by omega),Option.bind_some]
  have hb:=hl _ (List.getElem_mem (show i.toNat<l.length by omega))
  refine ⟨_,rfl,?_⟩
  obtain ⟨b1,b2⟩:=hb
  rw [ZV (by omega) (by omega)]
  exact ⟨b1,b2⟩
 ·rw [if_neg (by simpa using h)]
  exact ⟨0,rfl,by omega,by omega⟩
theorem ZdB {v b:Int} (hv:0≤v) (hb:0<b):∃ m,remI v b=some m∧0≤m∧m<b:=by
 refine ⟨v.tmod b,ZoY (by omega),?_⟩
 rw [Int.tmod_eq_emod_of_nonneg hv]
 exact ⟨Int.emod_nonneg _ (by omega),Int.emod_lt_of_pos _ hb⟩
theorem with_eq {d:Zau} (hp:∀ x ∈ d.Pers,Byte x) (hpl:d.Pers.length≤maxLen) (hd:∀ x ∈ d.Delays,Byte x) (hdl:d.Delays.length≤maxLen) {t:Zi} (hS:(t.Station.length:Int)=t.Nodes) (hL:t.Links.length≤24) (a b:Int) (hN:200≤N) :
  ∃ l:Zy,l.A=a∧l.B=b∧(Zdr t a=true→Zdr t b=true→a ≠ b→(stB t a&&stB t b)=false→ZdE t l=true) ∧
   Zaf N d t a b=some (if t.Links.length<24∧ZdE t l=true∧(allB t.Links.length fun k => !ZeR (lk t k) a b)=true then ⟨t.Nodes,t.Station,t.Links++[l]⟩ else t):=by
 obtain ⟨v1,p1,b1⟩:=Zet (N:=N) hp hpl (i:=(t.Links.length:Int)) (by omega)
 obtain ⟨v2,p2,b2⟩:=Zet (N:=N) hd hdl (i:=(t.Links.length:Int)) (by omega)
 obtain ⟨b11,b12⟩:=b1
 obtain ⟨b21,b22⟩:=b2
 have e1:Int.tmod v1 20=v1 % 20:=Int.tmod_eq_emod_of_nonneg b11
 have e2:Int.tmod v2 50=v2 % 50:=Int.tmod_eq_emod_of_nonneg b21
 have e3:w64 (1+Int.tmod v1 20)=1+v1 % 20:=by rw [e1,ZV (by omega) (by omega)]
 refine ⟨⟨a,b,1+v1 % 20,v2 % 50⟩,rfl,rfl,fun h1 h2 h3 h4 => ?_,?_⟩
 ·simp only [ZdE,h1,h2,h4,Bool.true_and,Bool.not_false,Bool.and_eq_true,decide_eq_true_eq]
  refine ⟨by simp [h3],by omega,by omega,by omega,by omega⟩
 ·unfold Zaf
  rw [p1,Option.bind_some,p2,Option.bind_some,e3,e2]
  by_cases h24:t.Links.length<24
  ·have:(((t.Links.length:Nat):Int)==24)=false:=by simp;omega
   rw [this]
   simp only [Bool.false_eq_true,if_false]
   rw [Zhr hS,Option.bind_some,Option.bind_some]
   cases hlb:ZdE t ⟨a,b,1+v1 % 20,v2 % 50⟩ with
   | false=>simp
   | true =>
    simp only [Bool.not_true,Bool.false_eq_true,if_false]
    have:=Za0 (n:=t.Links.length) (p:=fun k => !ZeR (lk t k) a b) (body:=fun x:Int=>ZaT N t a b x) (bad:=.inr t) (fin:=.inl ()) (fun k hk=>by
     unfold ZaT
     rw [if_pos (by simp;omega),Zl4 hk,Option.bind_some,ZgV,Option.bind_some,ZW (by omega)]
     cases ZeR (lk t k) a b<;>rfl) (by unfold ZaT;rw [if_neg (by simp)]) (N:=N) (by omega)
    rw [this]
    cases hj:allB t.Links.length (fun k => !ZeR (lk t k) a b) with
    | false=>simp
    | true =>
     simp only [if_true,Option.bind_some]
     rw [ZdM (by simp;omega) (by omega)]
     simp [h24]
  ·have:(((t.Links.length:Nat):Int)==24)=true:=by simp;omega
   rw [this]
   simp [h24]
end
structure Mk (b n:Nat) (t:Zi):Prop where
 nodes:t.Nodes=n
 st:t.Station=(List.range n).map (fun k=>decide (b≤k))
 l24:t.Links.length≤24
 links:∀ k,k<t.Links.length→ZdE t (lk t k)=true∧nojB t k=true
 ends:∀ k,k<t.Links.length→(lk t k).B<b
def cntA (t:Zi) (x:Int):Nat:=t.Links.countP (fun l=>l.A==x)
section
variable {N b n:Nat} {t:Zi}
theorem Mk.stl (h:Mk b n t):(t.Station.length:Int)=t.Nodes:=by rw [h.st,h.nodes];simp
theorem Mk.stB (h:Mk b n t) {x:Int} (h0:0≤x) (hx:x<n):stB t x=decide ((b:Int)≤x):=by
 unfold Go.Sh.stB
 rw [h.st,List.getD_eq_getElem?_getD,List.getElem?_map,List.getElem?_range (by omega)]
 simp only [Option.map_some,Option.getD_some]
 rw [Bool.eq_iff_iff,decide_eq_true_iff,decide_eq_true_iff]
 omega
theorem Mk.node (h:Mk b n t) {x:Int}:Zdr t x=true↔0≤x∧x<n:=by rw [ZeP,h.nodes]
theorem ZcR {l:Zy} {k:Nat}:lk ⟨t.Nodes,t.Station,t.Links++[l]⟩ k=if k<t.Links.length then lk t k else if k=t.Links.length then l else dL:=by
 unfold lk
 simp only [List.getD_eq_getElem?_getD]
 by_cases h:k<t.Links.length
 ·rw [if_pos h,List.getElem?_append_left h]
 ·rw [if_neg h,List.getElem?_append_right (by omega)]
  by_cases e:k=t.Links.length
  ·subst e;simp
  ·rw [if_neg e]
   have:k - t.Links.length ≠ 0:=by omega
   cases hh:k - t.Links.length with
   | zero=>omega
   | succ m=>simp
theorem Zl5 {l x:Zy}:ZdE ⟨t.Nodes,t.Station,t.Links++[l]⟩ x=ZdE t x:=rfl
theorem Mk.add (h:Mk b n t) {l:Zy} (h24:t.Links.length<24) (hl:ZdE t l=true) (hj:(allB t.Links.length fun k => !ZeR (lk t k) l.A l.B)=true) (hb:l.B<b):Mk b n ⟨t.Nodes,t.Station,t.Links++[l]⟩ where
 nodes:=h.nodes
 st:=h.st
 l24:=by simp;omega
 links:=fun k hk=>by
  simp only [List.length_append,List.length_singleton] at hk
  rw [Zl5]
  unfold nojB
  by_cases hlt:k<t.Links.length
  ·obtain ⟨q1,q2⟩:=h.links k hlt
   rw [ZcR,if_pos hlt]
   refine ⟨q1,?_⟩
   rw [← q2]
   unfold nojB
   apply ZkJ
   intro j hj
   rw [ZcR,if_pos (by omega)]
  ·obtain rfl:k=t.Links.length:=by omega
   rw [ZcR,if_neg hlt,if_pos rfl]
   refine ⟨hl,?_⟩
   rw [← hj]
   apply ZkJ
   intro j hj
   rw [ZcR,if_pos hj]
 ends:=fun k hk=>by
  simp only [List.length_append,List.length_singleton] at hk
  by_cases hlt:k<t.Links.length
  ·rw [ZcR,if_pos hlt];exact h.ends k hlt
  ·rw [ZcR,if_neg hlt,if_pos (by omega)];exact hb
end
end Go.Sh

set_option linter.unusedVariables false
set_option linter.unusedSimpArgs false
namespace Go.Sh
open Go Go.Eng
structure DOK (d:Zau):Prop where
 br:Byte d.Bridges
 sn:Byte d.Stations
 ch:∀ x ∈ d.Chords,Byte x
 ho:∀ x ∈ d.Homes,Byte x
 pe:∀ x ∈ d.Pers,Byte x
 de:∀ x ∈ d.Delays,Byte x
 chl:d.Chords.length≤maxLen
 hol:d.Homes.length≤maxLen
 pel:d.Pers.length≤maxLen
 del:d.Delays.length≤maxLen
theorem DOK.of {d:Zau} (h:ZgZ d):DOK d:=by
 obtain ⟨h1,h2,⟨h3,h4⟩,⟨h5,h6⟩,⟨h7,h8⟩,h9,h10⟩:=h
 exact ⟨Zdm h1,Zdm h2,fun x hx=>Zdm (h4 x hx),fun x hx=>Zdm (h6 x hx),fun x hx=>Zdm (h8 x hx),fun x hx=>Zdm (h10 x hx),h3,h5,h7,h9⟩
def brs (d:Zau):Nat:=1+(d.Bridges % 6).toNat
def sts (d:Zau):Nat:=2+(d.Stations % 5).toNat
section
variable {N:Nat} {d:Zau}
theorem ZjR (h:DOK d):w64 (1+w64 (Int.tmod d.Bridges 6))=((brs d:Nat):Int)∧1≤brs d∧brs d≤6:=by
 obtain ⟨b1,b2⟩:=h.br
 rw [Int.tmod_eq_emod_of_nonneg b1,ZV (x:=d.Bridges % 6) (by omega) (by omega),ZV (by omega) (by omega)]
 unfold brs
 omega
theorem ZiZ (h:DOK d):w64 (2+w64 (Int.tmod d.Stations 5))=((sts d:Nat):Int)∧2≤sts d∧sts d≤6:=by
 obtain ⟨b1,b2⟩:=h.sn
 rw [Int.tmod_eq_emod_of_nonneg b1,ZV (x:=d.Stations % 5) (by omega) (by omega),ZV (by omega) (by omega)]
 unfold sts
 omega
theorem Mk.with (hd:DOK d) {b n:Nat} {t:Zi} (h:Mk b n t) {x y:Int} (hx:0≤x∧x<n) (hy:0≤y∧y<b) (hbn:b≤n) (hN:200≤N) :
  ∃ t',Zaf N d t x y=some t'∧Mk b n t'∧(t'=t∨∃ l:Zy,l.A=x∧l.B=y∧t'=⟨t.Nodes,t.Station,t.Links++[l]⟩) ∧
   (x ≠ y→t.Links.length<24→(∀ k,k<t.Links.length→ZeR (lk t k) x y=false)→∃ l:Zy,l.A=x∧l.B=y∧t'=⟨t.Nodes,t.Station,t.Links++[l]⟩):=by
 obtain ⟨l,hA,hB,hl,e⟩:=with_eq (N:=N) hd.pe hd.pel hd.de hd.del h.stl h.l24 x y hN
 refine ⟨_,e,?_,?_,?_⟩
 ·split
  ·rename_i hc
   exact h.add hc.1 hc.2.1 (by rw [hA,hB];exact hc.2.2) (by rw [hB];exact hy.2)
  ·exact h
 ·split
  ·exact .inr ⟨l,hA,hB,rfl⟩
  ·exact .inl rfl
 ·intro hne h24 hj
  refine ⟨l,hA,hB,if_pos ⟨h24,hl (h.node.2 hx) (h.node.2 ⟨hy.1,by omega⟩) hne ?_,Za8.2 fun k hk=>by rw [hj k hk];rfl⟩⟩
  rw [h.stB hy.1 (by omega),decide_eq_false (by omega),Bool.and_false]
theorem Zhz {t:Zi} {l:Zy} (x:Int):cntA ⟨t.Nodes,t.Station,t.Links++[l]⟩ x=cntA t x+(if l.A=x then 1 else 0):=by
 unfold cntA
 simp only [List.countP_append,List.countP_cons,List.countP_nil]
 by_cases h:l.A=x<;>simp [h]
structure Row (b n c h:Nat) (t:Zi):Prop extends Mk b n t where
 len:c+h≤t.Links.length
 chain:∀ j,j<c→(lk t j).A=j∧(lk t j).B=((j+1:Nat):Int)
 home:∀ j,j<h→(lk t (c+j)).A=((b+j:Nat):Int)
theorem Row.keep {b n c h:Nat} {t:Zi} (r:Row b n c h t) {l:Zy} (hm:Mk b n ⟨t.Nodes,t.Station,t.Links++[l]⟩):Row b n c h ⟨t.Nodes,t.Station,t.Links++[l]⟩ :=
 {hm with
  len:=by have:=r.len;simp;omega
  chain:=fun j hj=>by rw [ZcR,if_pos (by have:=r.len;omega)];exact r.chain j hj
  home:=fun j hj=>by rw [ZcR,if_pos (by have:=r.len;omega)];exact r.home j hj }
abbrev tp (x:Int × List Bool × List Zy):Zi:=⟨x.1,x.2.1,x.2.2⟩
theorem topo_L1 (hd:DOK d) (hN:200≤N):Zac (fun x:Int × (List Bool)=>Zak N d x.1 x.2) N (0,[])=some ((List.range (brs d+sts d)).map (fun k=>decide (brs d≤k))):=by
 obtain ⟨b1,b2,b3⟩:=ZjR hd
 obtain ⟨s1,s2,s3⟩:=ZiZ hd
 have:=ZcF (n:=brs d+sts d) (f:=fun _ k=>(List.range (k+1)).map (fun k=>decide (brs d≤k))) (body:=fun x:Int × (List Bool)=>Zak N d x.1 x.2) (fin:=fun b=>b) (fun k b=>b=(List.range k).map (fun k=>decide (brs d≤k)))
  (fun k b hk hb=>by
   show Zak N d k b=_
   unfold Zak
   subst hb
   rw [b1,s1,ZV (show -9223372036854775808≤((brs d:Nat):Int)+((sts d:Nat):Int) by omega) (by omega),if_pos (by simp;omega),ZdM (by simp;omega) (by omega),Option.bind_some,ZW (by omega),List.range_succ,List.map_append]
   have:decide ((k:Int) ≥ ((brs d:Nat):Int))=decide (brs d≤k):=by rw [Bool.eq_iff_iff,decide_eq_true_iff,decide_eq_true_iff];omega
   rw [this]
   rfl)
  (fun k b hk hb=>rfl)
  (fun b hb=>by
   show Zak N d ((brs d+sts d:Nat):Int) b=_
   unfold Zak
   rw [b1,s1,ZV (show -9223372036854775808≤((brs d:Nat):Int)+((sts d:Nat):Int) by omega) (by omega),if_neg (by simp)]) (N:=N) (by omega) (b0:=[]) (by simp)
 rw [this.1,this.2]
theorem topo_L2 (hd:DOK d) (hN:200≤N) {x:Int × List Bool × List Zy} (hx:Mk (brs d) (brs d+sts d) (tp x)) (hx0:x.2.2=[]) :
  ∃ x',Zac (fun x:Int × Int × (List Bool) × (List Zy)=>Zaj N d x.1 x.2.1 x.2.2.1 x.2.2.2) N (1,x)=some x'∧Row (brs d) (brs d+sts d) (brs d - 1) 0 (tp x')∧x'.2.2.length=brs d - 1∧∀ s,s<sts d→cntA (tp x') ((brs d+s:Nat):Int)=0:=by
 obtain ⟨b1,b2,b3⟩:=ZjR hd
 obtain ⟨s1,s2,s3⟩:=ZiZ hd
 have:=Zjy (n:=brs d) (fin:=fun b:Int × List Bool × List Zy=>b) (body:=fun x:Int × Int × (List Bool) × (List Zy)=>Zaj N d x.1 x.2.1 x.2.2.1 x.2.2.2)
  (fun k b=>1≤k∧Row (brs d) (brs d+sts d) (k - 1) 0 (tp b)∧b.2.2.length=k - 1∧∀ s,s<sts d→cntA (tp b) ((brs d+s:Nat):Int)=0)
  (fun k b hk ⟨hk1,hr,hl,hc⟩=>by
   have hlen:(tp b).Links.length=k - 1:=hl
   obtain ⟨t',w1,w2,_,w4⟩:=hr.toMk.with (N:=N) hd (x:=(k:Int) - 1) (y:=(k:Int)) (by omega) (by omega) (by omega) hN
   obtain ⟨l,lA,lB,le⟩:=w4 (by omega) (by omega) (fun j hj=>by
    have hj':j<k - 1:=by omega
    obtain ⟨c1,c2⟩:=hr.chain j hj'
    unfold ZeR
    rw [c1,c2,beq_false_of_ne (show ((j:Nat):Int) ≠ (k:Int) - 1 by omega),beq_false_of_ne (show ((j:Nat):Int) ≠ (k:Int) by omega)]
    rfl)
   subst le
   refine ⟨(b.1,b.2.1,b.2.2++[l]),?_,by omega,?_,?_,?_⟩
   ·show Zaj N d k b.1 b.2.1 b.2.2=_
    unfold Zaj
    rw [b1,if_pos (by simp;omega),ZV (show -9223372036854775808≤(k:Int) - 1 by omega) (by omega),w1,Option.bind_some,ZW (by omega)]
   ·refine { w2 with len:=by simp;omega,chain:=fun j hj => ?_,home:=fun j hj=>by omega }
    show (lk ⟨(tp b).Nodes,(tp b).Station,(tp b).Links++[l]⟩ j).A=_∧_
    rw [ZcR]
    by_cases hj':j<(tp b).Links.length
    ·rw [if_pos hj'];exact hr.chain j (by omega)
    ·rw [if_neg hj',if_pos (by omega),lA,lB];omega
   ·simp;omega
   ·intro s hs
    have:=Zhz (t:=tp b) (l:=l) ((brs d+s:Nat):Int)
    rw [show cntA (tp (b.1,b.2.1,b.2.2++[l])) _=_ from this,hc s hs,if_neg (by omega)])
  (fun b ⟨_,hr,_⟩=>by
   show Zaj N d ((brs d:Nat):Int) b.1 b.2.1 b.2.2=_
   unfold Zaj
   rw [b1,if_neg (by simp)]) (brs d - 1) N 1 x (by omega) (by omega) (by omega) ⟨by omega,{ hx with len:=by simp,chain:=fun j hj=>by omega,home:=fun j hj=>by omega },by rw [hx0];rfl,fun s hs=>by unfold cntA;show List.countP _ x.2.2=0;rw [hx0];rfl⟩
 obtain ⟨x',e1,_,e2,e3,e4⟩:=this
 exact ⟨x',e1,e2,e3,e4⟩
theorem topo_L3 (hd:DOK d) (hN:200≤N) {x:Int × List Bool × List Zy} (hx:Row (brs d) (brs d+sts d) (brs d - 1) 0 (tp x)) (hl:x.2.2.length=brs d - 1) (hc:∀ s,s<sts d→cntA (tp x) ((brs d+s:Nat):Int)=0) :
  ∃ x',Zac (fun x:Int × Int × (List Bool) × (List Zy)=>Zai N d x.1 x.2.1 x.2.2.1 x.2.2.2) N (0,x)=some x'∧Row (brs d) (brs d+sts d) (brs d - 1) (sts d) (tp x')∧∀ s,s<sts d→cntA (tp x') ((brs d+s:Nat):Int)=1:=by
 obtain ⟨b1,b2,b3⟩:=ZjR hd
 obtain ⟨s1,s2,s3⟩:=ZiZ hd
 have:=Zjy (n:=sts d) (fin:=fun b:Int × List Bool × List Zy=>b) (body:=fun x:Int × Int × (List Bool) × (List Zy)=>Zai N d x.1 x.2.1 x.2.2.1 x.2.2.2)
  (fun k b=>Row (brs d) (brs d+sts d) (brs d - 1) k (tp b)∧b.2.2.length=brs d - 1+k∧∀ s,s<sts d→cntA (tp b) ((brs d+s:Nat):Int)=if s<k then 1 else 0)
  (fun k b hk ⟨hr,hl,hc⟩=>by
   have hlen:(tp b).Links.length=brs d - 1+k:=hl
   obtain ⟨v,p1,p2,p3⟩:=Zet (N:=N) hd.ho hd.hol (i:=2 * (k:Int)) (by omega)
   obtain ⟨m,m1,m2,m3⟩:=ZdB (v:=v) (b:=((brs d:Nat):Int)) p2 (by omega)
   obtain ⟨t',w1,w2,_,w4⟩:=hr.toMk.with (N:=N) hd (x:=((brs d:Nat):Int)+(k:Int)) (y:=m) (by omega) (by omega) (by omega) hN
   obtain ⟨l,lA,lB,le⟩:=w4 (by omega) (by omega) (fun j hj=>by
    have hB:=hr.ends j hj
    have hA:(lk (tp b) j).A ≠ ((brs d:Nat):Int)+(k:Int):=by
     by_cases hj':j<brs d - 1
     ·rw [(hr.chain j hj').1];omega
     ·have:=hr.home (j - (brs d - 1)) (by omega)
      rw [show brs d - 1+(j - (brs d - 1))=j by omega] at this
      rw [this];omega
    unfold ZeR
    rw [beq_false_of_ne hA,beq_false_of_ne (show (lk (tp b) j).B ≠ ((brs d:Nat):Int)+(k:Int) by omega)]
    simp)
   subst le
   refine ⟨(b.1,b.2.1,b.2.2++[l]),?_,?_,?_,?_⟩
   ·show Zai N d k b.1 b.2.1 b.2.2=_
    unfold Zai
    rw [b1,s1,if_pos (by simp;omega),ZV (show -9223372036854775808≤2 * (k:Int) by omega) (by omega),p1,Option.bind_some,m1,Option.bind_some,ZV (show -9223372036854775808≤((brs d:Nat):Int)+(k:Int) by omega) (by omega),w1,Option.bind_some,ZW (by omega)]
   ·refine { w2 with len:=by simp;omega,chain:=fun j hj => ?_,home:=fun j hj => ?_ }
    ·show (lk ⟨(tp b).Nodes,(tp b).Station,(tp b).Links++[l]⟩ j).A=_∧_
     rw [ZcR,if_pos (by omega)];exact hr.chain j hj
    ·show (lk ⟨(tp b).Nodes,(tp b).Station,(tp b).Links++[l]⟩ (brs d - 1+j)).A=_
     rw [ZcR]
     by_cases hj':j<k
     ·rw [if_pos (by omega)];exact hr.home j hj'
     ·rw [if_neg (by omega),if_pos (by omega),lA];omega
   ·simp;omega
   ·intro s hs
    have:=Zhz (t:=tp b) (l:=l) ((brs d+s:Nat):Int)
    rw [show cntA (tp (b.1,b.2.1,b.2.2++[l])) _=_ from this,hc s hs]
    by_cases e:s=k
    ·subst e;rw [if_neg (by omega),if_pos (by omega),if_pos (by omega)]
    ·rw [if_neg (show ¬ l.A=_ by omega)]
     by_cases h:s<k
     ·rw [if_pos h,if_pos (by omega)]
     ·rw [if_neg h,if_neg (by omega)])
  (fun b ⟨hr,_⟩=>by
   show Zai N d ((sts d:Nat):Int) b.1 b.2.1 b.2.2=_
   unfold Zai
   rw [s1,if_neg (by simp)]) (sts d) N 0 x (by omega) (by omega) (by omega) ⟨hx,by omega,fun s hs=>by rw [hc s hs,if_neg (by omega)]⟩
 obtain ⟨x',e1,e2,e3,e4⟩:=this
 exact ⟨x',e1,e2,fun s hs=>by rw [e4 s hs,if_pos hs]⟩
theorem topo_L4 (hd:DOK d) (hN:200≤N) {x:Int × List Bool × List Zy} (hx:Row (brs d) (brs d+sts d) (brs d - 1) (sts d) (tp x)) (hc:∀ s,s<sts d→cntA (tp x) ((brs d+s:Nat):Int)=1) :
  ∃ x',Zac (fun x:Int × Int × (List Bool) × (List Zy)=>Z2 N d x.1 x.2.1 x.2.2.1 x.2.2.2) N (0,x)=some x'∧Row (brs d) (brs d+sts d) (brs d - 1) (sts d) (tp x')∧∀ s,s<sts d→1≤cntA (tp x') ((brs d+s:Nat):Int)∧cntA (tp x') ((brs d+s:Nat):Int)≤2:=by
 obtain ⟨b1,b2,b3⟩:=ZjR hd
 obtain ⟨s1,s2,s3⟩:=ZiZ hd
 have:=Zjy (n:=sts d) (fin:=fun b:Int × List Bool × List Zy=>b) (body:=fun x:Int × Int × (List Bool) × (List Zy)=>Z2 N d x.1 x.2.1 x.2.2.1 x.2.2.2)
  (fun k b=>Row (brs d) (brs d+sts d) (brs d - 1) (sts d) (tp b)∧∀ s,s<sts d→1≤cntA (tp b) ((brs d+s:Nat):Int)∧cntA (tp b) ((brs d+s:Nat):Int)≤if s<k then 2 else 1)
  (fun k b hk ⟨hr,hc⟩=>by
   obtain ⟨v,p1,p2,p3⟩:=Zet (N:=N) hd.ho hd.hol (i:=2 * (k:Int)+1) (by omega)
   obtain ⟨m,m1,m2,m3⟩:=ZdB (v:=v) (b:=((brs d:Nat):Int)) p2 (by omega)
   have hsame:∀ s,s<sts d→1≤cntA (tp b) ((brs d+s:Nat):Int)∧cntA (tp b) ((brs d+s:Nat):Int)≤if s<k+1 then 2 else 1:=fun s hs=>by
    obtain ⟨q1,q2⟩:=hc s hs
    refine ⟨q1,?_⟩
    split at q2<;>split<;>omega
   have hb:Z2 N d (k:Int) b.1 b.2.1 b.2.2=if (decide (Int.tmod v 3 > 0))=true then (Zaf N d (tp b) (((brs d:Nat):Int)+(k:Int)) m).bind fun r=>some (.inl (((k+1:Nat):Int),r.Nodes,r.Station,r.Links)) else some (.inl (((k+1:Nat):Int),b)):=by
    unfold Z2
    rw [b1,s1,if_pos (by simp;omega),ZV (show -9223372036854775808≤2 * (k:Int) by omega) (by omega),ZV (show -9223372036854775808≤2 * (k:Int)+1 by omega) (by omega),p1]
    simp only [Option.bind_some,m1,ZV (show -9223372036854775808≤((brs d:Nat):Int)+(k:Int) by omega) (by omega),ZW (show k<1000000 by omega)]
    split
    ·cases Zaf N d (tp b) (((brs d:Nat):Int)+(k:Int)) m<;>rfl
    ·rfl
   by_cases hv:Int.tmod v 3 > 0
   ·obtain ⟨t',w1,w2,w3,_⟩:=hr.toMk.with (N:=N) hd (x:=((brs d:Nat):Int)+(k:Int)) (y:=m) (by omega) (by omega) (by omega) hN
    refine ⟨(t'.Nodes,t'.Station,t'.Links),?_,?_⟩
    ·show Z2 N d (k:Int) b.1 b.2.1 b.2.2=_
     rw [hb,if_pos (by simpa using hv),w1];rfl
    ·rcases w3 with rfl | ⟨l,lA,lB,rfl⟩
     ·exact ⟨hr,hsame⟩
     ·refine ⟨hr.keep w2,fun s hs => ?_⟩
      have:=Zhz (t:=tp b) (l:=l) ((brs d+s:Nat):Int)
      rw [show cntA (tp ((tp b).Nodes,(tp b).Station,(tp b).Links++[l])) _=_ from this]
      obtain ⟨q1,q2⟩:=hc s hs
      by_cases e:s=k
      ·subst e
       rw [if_pos (by omega),if_pos (by omega)]
       rw [if_neg (by omega)] at q2
       omega
      ·rw [if_neg (show ¬ l.A=_ by omega)]
       exact hsame s hs
   ·refine ⟨b,?_,hr,hsame⟩
    show Z2 N d (k:Int) b.1 b.2.1 b.2.2=_
    rw [hb,if_neg (by simpa using hv)])
  (fun b ⟨hr,_⟩=>by
   show Z2 N d ((sts d:Nat):Int) b.1 b.2.1 b.2.2=_
   unfold Z2
   rw [s1,if_neg (by simp)]) (sts d) N 0 x (by omega) (by omega) (by omega) ⟨hx,fun s hs=>by rw [hc s hs];split<;>omega⟩
 obtain ⟨x',e1,e2,e3⟩:=this
 exact ⟨x',e1,e2,fun s hs=>by have:=e3 s hs;rw [if_pos hs] at this;exact this⟩
theorem topo_L5 (hd:DOK d) (hN:200≤N) {x:Int × List Bool × List Zy} (hx:Row (brs d) (brs d+sts d) (brs d - 1) (sts d) (tp x)) (hc:∀ s,s<sts d→1≤cntA (tp x) ((brs d+s:Nat):Int)∧cntA (tp x) ((brs d+s:Nat):Int)≤2) :
  ∃ x',Zac (fun x:Int × Int × (List Bool) × (List Zy)=>Zat N d x.1 x.2.1 x.2.2.1 x.2.2.2) N (0,x)=some x'∧Row (brs d) (brs d+sts d) (brs d - 1) (sts d) (tp x')∧∀ s,s<sts d→1≤cntA (tp x') ((brs d+s:Nat):Int)∧cntA (tp x') ((brs d+s:Nat):Int)≤2:=by
 obtain ⟨b1,b2,b3⟩:=ZjR hd
 obtain ⟨s1,s2,s3⟩:=ZiZ hd
 refine Ze5 (I:=fun x:Int × Int × List Bool × List Zy=>0≤x.1∧Row (brs d) (brs d+sts d) (brs d - 1) (sts d) (tp x.2)∧∀ s,s<sts d→1≤cntA (tp x.2) ((brs d+s:Nat):Int)∧cntA (tp x.2) ((brs d+s:Nat):Int)≤2) (μ:=fun x=>(14 - x.1).toNat)
  (Post:=fun x'=>Row (brs d) (brs d+sts d) (brs d - 1) (sts d) (tp x')∧∀ s,s<sts d→1≤cntA (tp x') ((brs d+s:Nat):Int)∧cntA (tp x') ((brs d+s:Nat):Int)≤2) ?_ N (0,x) ⟨by omega,hx,hc⟩ (by simp;omega)
 rintro ⟨i,y⟩ ⟨h0,hr,hc⟩
 simp only at h0 hr hc
 by_cases hi:i<12∧i+1<(d.Chords.length:Int)
 ·left
  obtain ⟨v1,v2⟩:=hd.ch _ (List.getElem_mem (show i.toNat<d.Chords.length by omega))
  obtain ⟨v3,v4⟩:=hd.ch _ (List.getElem_mem (show (i+1).toNat<d.Chords.length by omega))
  obtain ⟨m,m1,m2,m3⟩:=ZdB (b:=((brs d:Nat):Int)) v1 (by omega)
  obtain ⟨q,q1,q2,q3⟩:=ZdB (b:=((brs d:Nat):Int)) v3 (by omega)
  obtain ⟨t',w1,w2,w3,_⟩:=hr.toMk.with (N:=N) hd (x:=m) (y:=q) (by omega) (by omega) (by omega) hN
  refine ⟨(i+2,t'.Nodes,t'.Station,t'.Links),?_,⟨by simp only;omega,?_⟩,by simp only;omega⟩
  ·show Zat N d i y.1 y.2.1 y.2.2=_
   unfold Zat
   rw [ZV (show -9223372036854775808≤i+1 by omega) (by omega),if_pos (by simp;omega),Zkv h0 (by omega),Option.bind_some,ZV (by omega) (by omega),b1,m1,Option.bind_some,Zkv (by omega) (by omega),Option.bind_some,ZV (by omega) (by omega),q1,Option.bind_some,w1,Option.bind_some,ZV (by omega) (by omega)]
  ·rcases w3 with rfl | ⟨l,lA,lB,rfl⟩
   ·exact ⟨hr,hc⟩
   ·refine ⟨hr.keep w2,fun s hs => ?_⟩
    have:=Zhz (t:=tp y) (l:=l) ((brs d+s:Nat):Int)
    rw [show cntA (tp ((tp y).Nodes,(tp y).Station,(tp y).Links++[l])) _=_ from this,if_neg (show ¬ l.A=_ by omega)]
    exact hc s hs
 ·right
  refine ⟨y,?_,hr,hc⟩
  show Zat N d i y.1 y.2.1 y.2.2=_
  unfold Zat
  by_cases h12:i<12
  ·rw [ZV (by omega) (by omega),if_neg (by simp;omega)]
  ·rw [if_neg (by simp;omega)]
theorem Zow (hd:DOK d) (hN:200≤N):∃ t,Zby N d=some t∧Row (brs d) (brs d+sts d) (brs d - 1) (sts d) t∧∀ s,s<sts d→1≤cntA t ((brs d+s:Nat):Int)∧cntA t ((brs d+s:Nat):Int)≤2:=by
 obtain ⟨b1,b2,b3⟩:=ZjR hd
 obtain ⟨s1,s2,s3⟩:=ZiZ hd
 unfold Zby
 rw [topo_L1 hd hN,Option.bind_some]
 have e0:w64 (w64 (1+w64 (Int.tmod d.Bridges 6))+w64 (2+w64 (Int.tmod d.Stations 5)))=((brs d+sts d:Nat):Int):=by rw [b1,s1,ZV (by omega) (by omega)];omega
 obtain ⟨x2,l2,r2,k2,c2⟩:=topo_L2 (N:=N) hd hN (x:=(((brs d+sts d:Nat):Int),(List.range (brs d+sts d)).map (fun k=>decide (brs d≤k)),[])) ⟨rfl,rfl,by simp,fun k hk=>by simp at hk,fun k hk=>by simp at hk⟩ rfl
 rw [e0,l2,Option.bind_some]
 obtain ⟨x3,l3,r3,c3⟩:=topo_L3 (N:=N) hd hN r2 k2 c2
 rw [show ((0:Int),x2.1,x2.2.1,x2.2.2)=(0,x2) from rfl,l3,Option.bind_some]
 have hring:∃ x4:Int × List Bool × List Zy,(if (decide (w64 (1+w64 (Int.tmod d.Bridges 6)) > 2)&&(Int.tmod d.Bridges 2==0))=true then (Zaf N d ⟨x3.1,x3.2.1,x3.2.2⟩ (w64 (w64 (1+w64 (Int.tmod d.Bridges 6)) - 1)) 0).bind fun r=>some (r.Nodes,r.Station,r.Links) else some (x3.1,x3.2.1,x3.2.2))=some x4 ∧
   Row (brs d) (brs d+sts d) (brs d - 1) (sts d) (tp x4)∧∀ s,s<sts d→cntA (tp x4) ((brs d+s:Nat):Int)=1:=by
  by_cases hc:(decide (w64 (1+w64 (Int.tmod d.Bridges 6)) > 2)&&(Int.tmod d.Bridges 2==0))=true
  ·rw [if_pos hc,b1,ZV (show -9223372036854775808≤((brs d:Nat):Int) - 1 by omega) (by omega)]
   obtain ⟨t',w1,w2,w3,_⟩:=r3.toMk.with (N:=N) hd (x:=((brs d:Nat):Int) - 1) (y:=0) (by omega) (by omega) (by omega) hN
   refine ⟨(t'.Nodes,t'.Station,t'.Links),by rw [w1];rfl,?_⟩
   rcases w3 with rfl | ⟨l,lA,lB,rfl⟩
   ·exact ⟨r3,c3⟩
   ·refine ⟨r3.keep w2,fun s hs => ?_⟩
    have:=Zhz (t:=tp x3) (l:=l) ((brs d+s:Nat):Int)
    rw [show cntA (tp ((tp x3).Nodes,(tp x3).Station,(tp x3).Links++[l])) _=_ from this,if_neg (show ¬ l.A=_ by omega)]
    exact c3 s hs
  ·rw [if_neg hc];exact ⟨x3,rfl,r3,c3⟩
 obtain ⟨x4,l4,r4,c4⟩:=hring
 rw [l4,Option.bind_some]
 obtain ⟨x5,l5,r5,c5⟩:=topo_L4 (N:=N) hd hN r4 c4
 rw [show ((0:Int),x4.1,x4.2.1,x4.2.2)=(0,x4) from rfl,l5,Option.bind_some]
 obtain ⟨x6,l6,r6,c6⟩:=topo_L5 (N:=N) hd hN r5 c5
 rw [show ((0:Int),x5.1,x5.2.1,x5.2.2)=(0,x5) from rfl,l6,Option.bind_some]
 exact ⟨_,rfl,r6,c6⟩
end
end Go.Sh

set_option linter.unusedVariables false
set_option linter.unusedSimpArgs false
namespace Go.Sh
open Go Go.Eng
def cntB (l:List Zy) (x:Int):Nat:=l.countP (fun l=>l.B==x)
theorem Zos {l:List Int} {i:Nat} {v:Int} {j:Nat} (h:i<l.length):(l.set i v).getD j 0=if j=i then v else l.getD j 0:=by
 rw [List.getD_eq_getElem?_getD,List.getD_eq_getElem?_getD,List.getElem?_set]
 by_cases e:j=i
 ·subst e;rw [if_pos rfl,if_pos h,if_pos rfl];rfl
 ·rw [if_neg (Ne.symm e),if_neg e]
theorem Znk {b:List Int} {x:Int} (h0:0≤x) (h:x<b.length) {j:Nat} (hv:0≤b.getD x.toNat 0∧b.getD x.toNat 0≤1000):(bump b x).getD j 0=b.getD j 0+(if x=j then 1 else 0):=by
 unfold bump
 rw [Zos (by omega)]
 by_cases e:j=x.toNat
 ·rw [if_pos e,if_pos (by omega),ZV (by omega) (by omega),e]
 ·rw [if_neg e,if_neg (by omega)];omega
theorem ZkD {m:Int}:∀ (l:List Zy) (b:List Int) (M:Nat),(b.length:Int)=m→(∀ k ∈ l,(0≤k.A∧k.A<m)∧0≤k.B∧k.B<m)→(∀ j:Nat,0≤b.getD j 0∧b.getD j 0≤M)→M+2 * l.length≤900→∀ j:Nat,
  (l.foldl ZjP b).getD j 0=b.getD j 0+(l.countP (fun k=>k.A==(j:Int)):Nat)+(cntB l j:Nat)
 | [],b,M,_,_,_,_,j=>by simp [cntB]
 | k::l,b,M,hb,hl,hM,hle,j=>by
  obtain ⟨⟨a1,a2⟩,a3,a4⟩:=hl k (by simp)
  have g1:∀ j:Nat,(bump b k.A).getD j 0=b.getD j 0+(if k.A=j then 1 else 0):=fun j=>Znk a1 (by omega) (by have:=hM k.A.toNat;simp only [List.length_cons] at hle;omega)
  have g2:∀ j:Nat,(ZjP b k).getD j 0=b.getD j 0+(if k.A=j then 1 else 0)+(if k.B=j then 1 else 0):=fun j=>by
   unfold ZjP
   rw [Znk a3 (by rw [Zni];omega) (by rw [g1];have:=hM k.B.toNat;simp only [List.length_cons] at hle;split<;>omega),g1]
  rw [List.foldl_cons,ZkD l (ZjP b k) (M+2) (by rw [ZjO];exact hb) (fun k hk=>hl k (by simp [hk])) (fun j=>by rw [g2];have:=hM j;split<;>split<;>omega) (by simp only [List.length_cons] at hle;omega) j,g2]
  simp only [cntB,List.countP_cons]
  by_cases e1:k.A=(j:Int)<;>by_cases e2:k.B=(j:Int)<;>simp [e1,e2]<;>omega
theorem Zkp {l:List Bool} {k:Zy} {x:Nat} (h:l.getD x false=true):(Zfo l k).getD x false=true:=by
 unfold Zfo
 split
 ·exact ZfJ (ZfJ h)
 ·exact h
theorem ZkA {x:Nat}:∀ (ks:List Zy) {l:List Bool},l.getD x false=true→(ks.foldl Zfo l).getD x false=true
 | [],l,h=>h
 | k::ks,l,h=>ZkA ks (Zkp h)
theorem ZfK {l:List Bool} {i:Nat} (h:i<l.length):(l.set i true).getD i false=true:=by
 rw [List.getD_eq_getElem?_getD,List.getElem?_set,if_pos rfl,if_pos h];rfl
theorem Zkq {l:List Bool} {k:Zy} (h:l.getD k.A.toNat false=true∨l.getD k.B.toNat false=true) (hA:k.A.toNat<l.length) (hB:k.B.toNat<l.length):(Zfo l k).getD k.A.toNat false=true∧(Zfo l k).getD k.B.toNat false=true:=by
 unfold Zfo
 rw [if_pos (by rcases h with h | h<;>rw [h]<;>simp)]
 exact ⟨ZfJ (ZfK hA),ZfK (by simpa using hB)⟩
theorem Zjg (ks:List Zy) (l:List Bool):(ks.foldl Zfo l).length=l.length:=by
 induction ks generalizing l with
 | nil=>rfl
 | cons k ks ih=>rw [List.foldl_cons,ih,Zi9]
section
variable {b n c h:Nat} {t:Zi}
theorem Zfz (t:Zi) (l:List Bool):Zf6 t l=t.Links.foldl Zfo l:=ZjE dL t.Links Zfo l
theorem Row.round (r:Row b n (b - 1) (n - b) t) (hb:1≤b) (hbn:b≤n) {l:List Bool} (hl:l.length=n) (h0:l.getD 0 false=true):∀ x,x<n→(Zf6 t l).getD x false=true:=by
 have hnodes:∀ k,k<t.Links.length→(0≤(lk t k).A∧(lk t k).A<n)∧0≤(lk t k).B∧(lk t k).B<n:=fun k hk=>by
  have:=Zb5 (r.links k hk).1
  exact ⟨r.toMk.node.1 this.1,r.toMk.node.1 this.2.1⟩
 have hlen:=r.len
 have step:∀ k,k≤t.Links.length→∀ x,x<n→(x<b∧x≤k)∨(b≤x∧b - 1+(x - b)<k)→((t.Links.take k).foldl Zfo l).getD x false=true:=by
  intro k
  induction k with
  | zero =>
   intro _ x hx hc
   rcases hc with ⟨h1,h2⟩ | ⟨h1,h2⟩
   ·obtain rfl:x=0:=by omega
    simpa using h0
   ·omega
  | succ k ih =>
   intro hk x hx hc
   have htk:t.Links.take (k+1)=t.Links.take k++[lk t k]:=by
    have:lk t k=t.Links[k]:=by simp [lk,List.getD_eq_getElem?_getD,show k<t.Links.length by omega]
    rw [this,List.take_append_getElem]
   rw [htk,List.foldl_append,List.foldl_cons,List.foldl_nil]
   have hfl:((t.Links.take k).foldl Zfo l).length=n:=by rw [Zjg,hl]
   obtain ⟨⟨n1,n2⟩,n3,n4⟩:=hnodes k (by omega)
   by_cases hold:(x<b∧x≤k)∨(b≤x∧b - 1+(x - b)<k)
   ·exact Zkp (ih (by omega) x hx hold)
   ·rcases hc with ⟨h1,h2⟩ | ⟨h1,h2⟩
    ·have hk1:x=k+1:=by omega
     obtain ⟨c1,c2⟩:=r.chain k (by omega)
     have:=Zkq (k:=lk t k) (l:=(t.Links.take k).foldl Zfo l) (.inl (by rw [c1];exact ih (by omega) k (by omega) (.inl ⟨by omega,by omega⟩))) (by omega) (by omega)
     have e:=this.2
     rw [c2] at e
     rw [hk1];exact e
    ·have hk1:k=b - 1+(x - b):=by omega
     have c1:=r.home (x - b) (by omega)
     rw [← hk1] at c1
     have hB:=r.ends k (by omega)
     have:=Zkq (k:=lk t k) (l:=(t.Links.take k).foldl Zfo l) (.inr (ih (by omega) (lk t k).B.toNat (by omega) (.inl ⟨by omega,by omega⟩))) (by omega) (by omega)
     have e:=this.1
     rw [c1] at e
     rwa [show (((b+(x - b):Nat):Int)).toNat=x by omega] at e
 intro x hx
 rw [Zfz]
 have:=step t.Links.length (Nat.le_refl _) x hx (by
  by_cases hxb:x<b
  ·exact .inl ⟨hxb,by omega⟩
  ·exact .inr ⟨by omega,by omega⟩)
 rwa [List.take_length] at this
theorem Row.reach (r:Row b n (b - 1) (n - b) t) (hb:1≤b) (hbn:b≤n) (hn:1≤n):∀ x,x<n→(ZeO t 0).getD x false=true:=by
 have hnod:t.Nodes.toNat=n:=by rw [r.nodes];omega
 unfold ZeO
 rw [hnod]
 have hall:∀ m,1≤m→∀ x,x<n→((List.range m).foldl (fun l _=>Zf6 t l) ((List.replicate n false).set (0:Int).toNat true)).getD x false=true∧((List.range m).foldl (fun l _=>Zf6 t l) ((List.replicate n false).set (0:Int).toNat true)).length=n:=by
  intro m hm
  induction m with
  | zero=>omega
  | succ m ih =>
   intro x hx
   rw [List.range_succ,List.foldl_append,List.foldl_cons,List.foldl_nil]
   by_cases hm0:m=0
   ·subst hm0
    refine ⟨r.round hb hbn (by simp) (ZfK (by simp;omega)) x hx,?_⟩
    rw [Zfz,Zjg];simp
   ·obtain ⟨i1,i2⟩:=ih (by omega) x hx
    exact ⟨by rw [Zfz];exact ZkA _ i1,by rw [Zfz,Zjg];exact i2⟩
 exact fun x hx=>(hall n hn x hx).1
theorem Row.good (r:Row b n (b - 1) (n - b) t) (hb:1≤b) (hbn:b+1≤n) (hn12:n≤12) (hc:∀ s,s<n - b→1≤cntA t ((b+s:Nat):Int)∧cntA t ((b+s:Nat):Int)≤2):Good t:=by
 have hnod:t.Nodes.toNat=n:=by rw [r.nodes];omega
 refine ⟨by rw [r.nodes];omega,by rw [r.nodes];omega,r.stl,r.l24,r.links,fun x hx => ?_⟩
 rw [hnod] at hx
 refine ⟨r.reach hb (by omega) (by omega) x hx,?_⟩
 unfold degB
 rw [r.stB (by omega) (by omega)]
 by_cases hxb:(b:Int)≤(x:Int)
 ·have hd:(degs t).getD x 0=(cntA t (x:Int):Nat)+(cntB t.Links x:Nat):=by
   have e0:degs t=t.Links.foldl ZjP (List.replicate n 0):=by rw [← hnod];exact ZjE dL t.Links ZjP _
   rw [e0]
   have hz:∀ j:Nat,(List.replicate n (0:Int)).getD j 0=0:=fun j=>by
    rw [List.getD_eq_getElem?_getD,List.getElem?_replicate];split<;>rfl
   have:=ZkD (m:=(n:Int)) t.Links (List.replicate n 0) 0 (by simp) (fun k hk=>by
    obtain ⟨i,hi,rfl⟩:=List.getElem_of_mem hk
    have e:lk t i=t.Links[i]:=by simp [lk,List.getD_eq_getElem?_getD,hi]
    have:=Zb5 (r.links i hi).1
    rw [e] at this
    exact ⟨r.toMk.node.1 this.1,r.toMk.node.1 this.2.1⟩) (fun j=>by rw [hz];omega) (by have:=r.l24;omega) x
   rw [this,hz]
   unfold cntA
   omega
  have hB0:cntB t.Links x=0:=by
   unfold cntB
   rw [List.countP_eq_zero]
   intro k hk
   obtain ⟨i,hi,rfl⟩:=List.getElem_of_mem hk
   have e:lk t i=t.Links[i]:=by simp [lk,List.getD_eq_getElem?_getD,hi]
   have:=r.ends i hi
   rw [e] at this
   simp;omega
  have:=hc (x - b) (by omega)
  rw [show ((b+(x - b):Nat):Int)=(x:Int) by omega] at this
  rw [decide_eq_true hxb,hd,hB0,decide_eq_true (by omega),decide_eq_true (by omega)]
  rfl
 ·rw [decide_eq_false hxb];rfl
theorem Row.port (r:Row b n (b - 1) (n - b) t) (hb:1≤b) (hbn:b+1≤n) {x:Int} (h0:0≤x) (hx:x<n):∃ k,k<t.Links.length∧((lk t k).A=x∨(lk t k).B=x):=by
 have hlen:=r.len
 by_cases hxb:x<b
 ·by_cases hx1:x.toNat<b - 1
  ·exact ⟨x.toNat,by omega,.inl (by rw [(r.chain x.toNat hx1).1];omega)⟩
  ·by_cases hb1:b=1
   ·
    have h1:=r.home 0 (by omega)
    have h2:=r.ends (b - 1+0) (by omega)
    have h3:=Zb5 (r.links (b - 1+0) (by omega)).1
    have h4:=r.toMk.node.1 h3.2.1
    exact ⟨b - 1+0,by omega,.inr (by omega)⟩
   ·have:=r.chain (b - 2) (by omega)
    exact ⟨b - 2,by omega,.inr (by rw [this.2];omega)⟩
 ·have:=r.home (x.toNat - b) (by omega)
  exact ⟨b - 1+(x.toNat - b),by omega,.inl (by rw [this];omega)⟩
end
theorem ZnQ {N:Nat} {d:Zau} (hd:DOK d) (hN:200≤N):∃ t,Zby N d=some t∧Good t∧∀ x:Int,0≤x→x<t.Nodes→∃ k,k<t.Links.length∧((lk t k).A=x∨(lk t k).B=x):=by
 obtain ⟨_,b2,b3⟩:=ZjR hd
 obtain ⟨_,s2,s3⟩:=ZiZ hd
 obtain ⟨t,e,r,c⟩:=Zow (N:=N) hd hN
 have hr:Row (brs d) (brs d+sts d) (brs d - 1) (brs d+sts d - brs d) t:=by rw [show brs d+sts d - brs d=sts d by omega];exact r
 refine ⟨t,e,hr.good b2 (by omega) (by omega) (fun s hs=>c s (by omega)),fun x h0 hx => ?_⟩
 rw [r.nodes] at hx
 exact hr.port b2 (by omega) h0 hx
end Go.Sh

