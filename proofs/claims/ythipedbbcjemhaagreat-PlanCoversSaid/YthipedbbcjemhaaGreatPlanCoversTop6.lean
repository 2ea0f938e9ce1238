/- Part of the proof; written by a program out of the texts in wip/. -/
import Derived.Test.YthipedbbcjemhaaGreatPlanCoversTop5
set_option linter.unusedVariables false
set_option linter.unusedSimpArgs false
namespace Go.Sh
open Go Go.Eng
def PF (p:Int→Bool) (k:Nat):List Int:=((List.range k).map (fun (n:Nat)=>(n:Int))).filter p
theorem ZqF (p:Int→Bool) (k:Nat):PF p (k+1)=if p (k:Int)=true then PF p k++[(k:Int)] else PF p k:=by
 unfold PF
 rw [List.range_succ,List.map_append,List.filter_append]
 by_cases h:p (k:Int)=true
 ·rw [if_pos h];simp [h]
 ·rw [if_neg h];simp [h]
theorem ZrB (p:Int→Bool) (k:Nat):(PF p k).length≤k:=by
 induction k with
 | zero=>simp [PF]
 | succ k ih =>
  rw [ZqF]
  split
  ·rw [List.length_append,List.length_singleton];omega
  ·omega
theorem PF_mem {p:Int→Bool} {k:Nat} {x:Int}:x ∈ PF p k↔0≤x∧x<k∧p x=true:=by
 unfold PF
 simp only [List.mem_filter,List.mem_map,List.mem_range]
 constructor
 ·rintro ⟨⟨n,hn,rfl⟩,hp⟩;exact ⟨by omega,by omega,hp⟩
 ·rintro ⟨h0,h1,hp⟩;exact ⟨⟨x.toNat,by omega,by omega⟩,hp⟩
section
variable {N:Nat} {t:Zh}
theorem ZkM {β ρ:Type} {n:Nat} {body:Int × β→Option ((Int × β) ⊕ ρ)} {fin:β→ρ} (I:Nat→β→Prop)
  (hstep:∀ k b,k<n→I k b→∃ b',body ((k:Int),b)=some (.inl (((k+1:Nat):Int),b'))∧I (k+1) b') (hend:∀ b,I n b→body ((n:Int),b)=some (.inr (fin b))) :
  ∀ (m N k:Nat) (b:β),n - k=m→k≤n→m<N→I k b→∃ b',Z2 body N ((k:Int),b)=some (fin b')∧I n b':=by
 intro m
 induction m with
 | zero =>
  intro N k b h1 h2 h3 hb
  obtain rfl:k=n:=by omega
  cases N with
  | zero=>omega
  | succ N=>exact ⟨b,by rw [ZaH (hend b hb)],hb⟩
 | succ m ih =>
  intro N k b h1 h2 h3 hb
  cases N with
  | zero=>omega
  | succ N =>
   obtain ⟨b',s1,s2⟩:=hstep k b (by omega) hb
   obtain ⟨b'',i1,i2⟩:=ih N (k+1) b' (by omega) (by omega) (by omega) s2
   exact ⟨b'',by rw [Zb5 s1,i1],i2⟩
end
end Go.Sh
set_option linter.unusedVariables false
set_option linter.unusedSimpArgs false
namespace Go.Sh
open Go Go.Eng
def Byte (v:Int):Prop:=0≤v∧v≤255
theorem ZdX {v:Int} (h:InK .u8 v):Byte v:=by
 exact h.u8
section
variable {N:Nat}
theorem ZeR {l:List Int} (hl:∀ x ∈ l,Byte x) (hlen:l.length≤maxLen) {i:Int} (h0:0≤i):∃ v,Zde N l i=some v∧Byte v:=by
 unfold Zde
 by_cases h:i<(l.length:Int)
 ·rw [if_pos (by simpa using h),ZlO h0 (by omega),Option.bind_some]
  have hb:=hl _ (List.getElem_mem (show i.toNat<l.length by omega))
  refine ⟨_,rfl,?_⟩
  obtain ⟨b1,b2⟩:=hb
  rw [ZP (by omega) (by omega)]
  exact ⟨b1,b2⟩
 ·rw [if_neg (by simpa using h)]
  exact ⟨0,rfl,by omega,by omega⟩
theorem Zet {v b:Int} (hv:0≤v) (hb:0<b):∃ m,remI v b=some m∧0≤m∧m<b:=by
 refine ⟨v.tmod b,Zmp (by omega),?_⟩
 rw [Int.tmod_eq_emod_of_nonneg hv]
 exact ⟨Int.emod_nonneg _ (by omega),Int.emod_lt_of_pos _ hb⟩
theorem with_eq {d:Zae} (hp:∀ x ∈ d.Pers,Byte x) (hpl:d.Pers.length≤maxLen) (hd:∀ x ∈ d.Delays,Byte x) (hdl:d.Delays.length≤maxLen) {t:Zh} (hS:(t.Station.length:Int)=t.Nodes) (hL:t.Links.length≤24) (a b:Int) (hN:200≤N) :
  ∃ l:Zy,l.A=a∧l.B=b∧(ZdK t a=true→ZdK t b=true→a ≠ b→(stB t a&&stB t b)=false→Zfa t l=true) ∧
   Zaf N d t a b=some (if t.Links.length<24∧Zfa t l=true∧(allB t.Links.length fun k => !Zfw (lk t k) a b)=true then ⟨t.Nodes,t.Station,t.Links++[l]⟩ else t):=by
 obtain ⟨v1,p1,b1⟩:=ZeR (N:=N) hp hpl (i:=(t.Links.length:Int)) (by omega)
 obtain ⟨v2,p2,b2⟩:=ZeR (N:=N) hd hdl (i:=(t.Links.length:Int)) (by omega)
 obtain ⟨b11,b12⟩:=b1
 obtain ⟨b21,b22⟩:=b2
 have e1:Int.tmod v1 20=v1 % 20:=Int.tmod_eq_emod_of_nonneg b11
 have e2:Int.tmod v2 50=v2 % 50:=Int.tmod_eq_emod_of_nonneg b21
 have e3:w64 (1+Int.tmod v1 20)=1+v1 % 20:=by rw [e1,ZP (by omega) (by omega)]
 refine ⟨⟨a,b,1+v1 % 20,v2 % 50⟩,rfl,rfl,fun h1 h2 h3 h4 => ?_,?_⟩
 ·simp only [Zfa,h1,h2,h4,Bool.true_and,Bool.not_false,Bool.and_eq_true,decide_eq_true_eq]
  refine ⟨by simp [h3],by omega,by omega,by omega,by omega⟩
 ·unfold Zaf
  rw [p1,Option.bind_some,p2,Option.bind_some,e3,e2]
  by_cases h24:t.Links.length<24
  ·have:(((t.Links.length:Nat):Int)==24)=false:=by simp;omega
   rw [this]
   simp only [Bool.false_eq_true,if_false]
   rw [Zmt hS,Option.bind_some,Option.bind_some]
   cases hlb:Zfa t ⟨a,b,1+v1 % 20,v2 % 50⟩ with
   | false=>simp
   | true =>
    simp only [Bool.not_true,Bool.false_eq_true,if_false]
    have:=Zbl (n:=t.Links.length) (p:=fun k => !Zfw (lk t k) a b) (body:=fun x:Int=>ZaP N t a b x) (bad:=.inr t) (fin:=.inl ()) (fun k hk=>by
     unfold ZaP
     rw [if_pos (by simp;omega),Zqd hk,Option.bind_some,Zlu,Option.bind_some,ZT (by omega)]
     cases Zfw (lk t k) a b<;>rfl) (by unfold ZaP;rw [if_neg (by simp)]) (N:=N) (by omega)
    rw [this]
    cases hj:allB t.Links.length (fun k => !Zfw (lk t k) a b) with
    | false=>simp
    | true =>
     simp only [if_true,Option.bind_some]
     rw [Zf2 (by simp;omega) (by omega)]
     simp [h24]
  ·have:(((t.Links.length:Nat):Int)==24)=true:=by simp;omega
   rw [this]
   simp [h24]
end
structure Mk (b n:Nat) (t:Zh):Prop where
 nodes:t.Nodes=n
 st:t.Station=(List.range n).map (fun k=>decide (b≤k))
 l24:t.Links.length≤24
 links:∀ k,k<t.Links.length→Zfa t (lk t k)=true∧nojB t k=true
 ends:∀ k,k<t.Links.length→(lk t k).B<b
def cntA (t:Zh) (x:Int):Nat:=t.Links.countP (fun l=>l.A==x)
section
variable {N b n:Nat} {t:Zh}
theorem Mk.stl (h:Mk b n t):(t.Station.length:Int)=t.Nodes:=by rw [h.st,h.nodes];simp
theorem Mk.stB (h:Mk b n t) {x:Int} (h0:0≤x) (hx:x<n):stB t x=decide ((b:Int)≤x):=by
 unfold Go.Sh.stB
 rw [h.st,List.getD_eq_getElem?_getD,List.getElem?_map,List.getElem?_range (by omega)]
 simp only [Option.map_some,Option.getD_some]
 rw [Bool.eq_iff_iff,decide_eq_true_iff,decide_eq_true_iff]
 omega
theorem Mk.node (h:Mk b n t) {x:Int}:ZdK t x=true↔0≤x∧x<n:=by rw [Zf0,h.nodes]
theorem Zc1 {l:Zy} {k:Nat}:lk ⟨t.Nodes,t.Station,t.Links++[l]⟩ k=if k<t.Links.length then lk t k else if k=t.Links.length then l else dL:=by
 unfold lk
 simp only [List.getD_eq_getElem?_getD]
 by_cases h:k<t.Links.length
 ·rw [if_pos h,List.getElem?_append_left h]
 ·rw [if_neg h,List.getElem?_append_right (by omega)]
  by_cases e:k=t.Links.length
  ·subst e;simp
  ·rw [if_neg e]
   have:k - t.Links.length ≠ 0:=by omega
   cases hh:k - t.Links.length with
   | zero=>omega
   | succ m=>simp
theorem ZnD {l x:Zy}:Zfa ⟨t.Nodes,t.Station,t.Links++[l]⟩ x=Zfa t x:=rfl
theorem Mk.add (h:Mk b n t) {l:Zy} (h24:t.Links.length<24) (hl:Zfa t l=true) (hj:(allB t.Links.length fun k => !Zfw (lk t k) l.A l.B)=true) (hb:l.B<b):Mk b n ⟨t.Nodes,t.Station,t.Links++[l]⟩ where
 nodes:=h.nodes
 st:=h.st
 l24:=by simp;omega
 links:=fun k hk=>by
  simp only [List.length_append,List.length_singleton] at hk
  rw [ZnD]
  unfold nojB
  by_cases hlt:k<t.Links.length
  ·obtain ⟨q1,q2⟩:=h.links k hlt
   rw [Zc1,if_pos hlt]
   refine ⟨q1,?_⟩
   rw [← q2]
   unfold nojB
   apply Zl3
   intro j hj
   rw [Zc1,if_pos (by omega)]
  ·obtain rfl:k=t.Links.length:=by omega
   rw [Zc1,if_neg hlt,if_pos rfl]
   refine ⟨hl,?_⟩
   rw [← hj]
   apply Zl3
   intro j hj
   rw [Zc1,if_pos hj]
 ends:=fun k hk=>by
  simp only [List.length_append,List.length_singleton] at hk
  by_cases hlt:k<t.Links.length
  ·rw [Zc1,if_pos hlt];exact h.ends k hlt
  ·rw [Zc1,if_neg hlt,if_pos (by omega)];exact hb
end
end Go.Sh

set_option linter.unusedVariables false
set_option linter.unusedSimpArgs false
namespace Go.Sh
open Go Go.Eng
structure DOK (d:Zae):Prop where
 br:Byte d.Bridges
 sn:Byte d.Stations
 ch:∀ x ∈ d.Chords,Byte x
 ho:∀ x ∈ d.Homes,Byte x
 pe:∀ x ∈ d.Pers,Byte x
 de:∀ x ∈ d.Delays,Byte x
 chl:d.Chords.length≤maxLen
 hol:d.Homes.length≤maxLen
 pel:d.Pers.length≤maxLen
 del:d.Delays.length≤maxLen
theorem DOK.of {d:Zae} (h:ZfL d):DOK d:=by
 obtain ⟨h1,h2,⟨h3,h4⟩,⟨h5,h6⟩,⟨h7,h8⟩,h9,h10⟩:=h
 exact ⟨ZdX h1,ZdX h2,fun x hx=>ZdX (h4 x hx),fun x hx=>ZdX (h6 x hx),fun x hx=>ZdX (h8 x hx),fun x hx=>ZdX (h10 x hx),h3,h5,h7,h9⟩
def brs (d:Zae):Nat:=1+(d.Bridges % 6).toNat
def sts (d:Zae):Nat:=2+(d.Stations % 5).toNat
section
variable {N:Nat} {d:Zae}
theorem Zk4 (h:DOK d):w64 (1+w64 (Int.tmod d.Bridges 6))=((brs d:Nat):Int)∧1≤brs d∧brs d≤6:=by
 obtain ⟨b1,b2⟩:=h.br
 rw [Int.tmod_eq_emod_of_nonneg b1,ZP (x:=d.Bridges % 6) (by omega) (by omega),ZP (by omega) (by omega)]
 unfold brs
 omega
theorem Zj8 (h:DOK d):w64 (2+w64 (Int.tmod d.Stations 5))=((sts d:Nat):Int)∧2≤sts d∧sts d≤6:=by
 obtain ⟨b1,b2⟩:=h.sn
 rw [Int.tmod_eq_emod_of_nonneg b1,ZP (x:=d.Stations % 5) (by omega) (by omega),ZP (by omega) (by omega)]
 unfold sts
 omega
theorem Mk.with (hd:DOK d) {b n:Nat} {t:Zh} (h:Mk b n t) {x y:Int} (hx:0≤x∧x<n) (hy:0≤y∧y<b) (hbn:b≤n) (hN:200≤N) :
  ∃ t',Zaf N d t x y=some t'∧Mk b n t'∧(t'=t∨∃ l:Zy,l.A=x∧l.B=y∧t'=⟨t.Nodes,t.Station,t.Links++[l]⟩) ∧
   (x ≠ y→t.Links.length<24→(∀ k,k<t.Links.length→Zfw (lk t k) x y=false)→∃ l:Zy,l.A=x∧l.B=y∧t'=⟨t.Nodes,t.Station,t.Links++[l]⟩):=by
 obtain ⟨l,hA,hB,hl,e⟩:=with_eq (N:=N) hd.pe hd.pel hd.de hd.del h.stl h.l24 x y hN
 refine ⟨_,e,?_,?_,?_⟩
 ·split
  ·rename_i hc
   exact h.add hc.1 hc.2.1 (by rw [hA,hB];exact hc.2.2) (by rw [hB];exact hy.2)
  ·exact h
 ·split
  ·exact .inr ⟨l,hA,hB,rfl⟩
  ·exact .inl rfl
 ·intro hne h24 hj
  refine ⟨l,hA,hB,if_pos ⟨h24,hl (h.node.2 hx) (h.node.2 ⟨hy.1,by omega⟩) hne ?_,Zba.2 fun k hk=>by rw [hj k hk];rfl⟩⟩
  rw [h.stB hy.1 (by omega),decide_eq_false (by omega),Bool.and_false]
theorem Ziu {t:Zh} {l:Zy} (x:Int):cntA ⟨t.Nodes,t.Station,t.Links++[l]⟩ x=cntA t x+(if l.A=x then 1 else 0):=by
 unfold cntA
 simp only [List.countP_append,List.countP_cons,List.countP_nil]
 by_cases h:l.A=x<;>simp [h]
structure Row (b n c h:Nat) (t:Zh):Prop extends Mk b n t where
 len:c+h≤t.Links.length
 chain:∀ j,j<c→(lk t j).A=j∧(lk t j).B=((j+1:Nat):Int)
 home:∀ j,j<h→(lk t (c+j)).A=((b+j:Nat):Int)
theorem Row.keep {b n c h:Nat} {t:Zh} (r:Row b n c h t) {l:Zy} (hm:Mk b n ⟨t.Nodes,t.Station,t.Links++[l]⟩):Row b n c h ⟨t.Nodes,t.Station,t.Links++[l]⟩ :=
 {hm with
  len:=by have:=r.len;simp;omega
  chain:=fun j hj=>by rw [Zc1,if_pos (by have:=r.len;omega)];exact r.chain j hj
  home:=fun j hj=>by rw [Zc1,if_pos (by have:=r.len;omega)];exact r.home j hj }
abbrev tp (x:Int × List Bool × List Zy):Zh:=⟨x.1,x.2.1,x.2.2⟩
theorem topo_L1 (hd:DOK d) (hN:200≤N):Z2 (fun x:Int × (List Bool)=>Zak N d x.1 x.2) N (0,[])=some ((List.range (brs d+sts d)).map (fun k=>decide (brs d≤k))):=by
 obtain ⟨b1,b2,b3⟩:=Zk4 hd
 obtain ⟨s1,s2,s3⟩:=Zj8 hd
 have:=ZdJ (n:=brs d+sts d) (f:=fun _ k=>(List.range (k+1)).map (fun k=>decide (brs d≤k))) (body:=fun x:Int × (List Bool)=>Zak N d x.1 x.2) (fin:=fun b=>b) (fun k b=>b=(List.range k).map (fun k=>decide (brs d≤k)))
  (fun k b hk hb=>by
   show Zak N d k b=_
   unfold Zak
   subst hb
   rw [b1,s1,ZP (show -9223372036854775808≤((brs d:Nat):Int)+((sts d:Nat):Int) by omega) (by omega),if_pos (by simp;omega),Zf2 (by simp;omega) (by omega),Option.bind_some,ZT (by omega),List.range_succ,List.map_append]
   have:decide ((k:Int) ≥ ((brs d:Nat):Int))=decide (brs d≤k):=by rw [Bool.eq_iff_iff,decide_eq_true_iff,decide_eq_true_iff];omega
   rw [this]
   rfl)
  (fun k b hk hb=>rfl)
  (fun b hb=>by
   show Zak N d ((brs d+sts d:Nat):Int) b=_
   unfold Zak
   rw [b1,s1,ZP (show -9223372036854775808≤((brs d:Nat):Int)+((sts d:Nat):Int) by omega) (by omega),if_neg (by simp)]) (N:=N) (by omega) (b0:=[]) (by simp)
 rw [this.1,this.2]
theorem topo_L2 (hd:DOK d) (hN:200≤N) {x:Int × List Bool × List Zy} (hx:Mk (brs d) (brs d+sts d) (tp x)) (hx0:x.2.2=[]) :
  ∃ x',Z2 (fun x:Int × Int × (List Bool) × (List Zy)=>Zaj N d x.1 x.2.1 x.2.2.1 x.2.2.2) N (1,x)=some x'∧Row (brs d) (brs d+sts d) (brs d - 1) 0 (tp x')∧x'.2.2.length=brs d - 1∧∀ s,s<sts d→cntA (tp x') ((brs d+s:Nat):Int)=0:=by
 obtain ⟨b1,b2,b3⟩:=Zk4 hd
 obtain ⟨s1,s2,s3⟩:=Zj8 hd
 have:=ZkM (n:=brs d) (fin:=fun b:Int × List Bool × List Zy=>b) (body:=fun x:Int × Int × (List Bool) × (List Zy)=>Zaj N d x.1 x.2.1 x.2.2.1 x.2.2.2)
  (fun k b=>1≤k∧Row (brs d) (brs d+sts d) (k - 1) 0 (tp b)∧b.2.2.length=k - 1∧∀ s,s<sts d→cntA (tp b) ((brs d+s:Nat):Int)=0)
  (fun k b hk ⟨hk1,hr,hl,hc⟩=>by
   have hlen:(tp b).Links.length=k - 1:=hl
   obtain ⟨t',w1,w2,_,w4⟩:=hr.toMk.with (N:=N) hd (x:=(k:Int) - 1) (y:=(k:Int)) (by omega) (by omega) (by omega) hN
   obtain ⟨l,lA,lB,le⟩:=w4 (by omega) (by omega) (fun j hj=>by
    have hj':j<k - 1:=by omega
    obtain ⟨c1,c2⟩:=hr.chain j hj'
    unfold Zfw
    rw [c1,c2,beq_false_of_ne (show ((j:Nat):Int) ≠ (k:Int) - 1 by omega),beq_false_of_ne (show ((j:Nat):Int) ≠ (k:Int) by omega)]
    rfl)
   subst le
   refine ⟨(b.1,b.2.1,b.2.2++[l]),?_,by omega,?_,?_,?_⟩
   ·show Zaj N d k b.1 b.2.1 b.2.2=_
    unfold Zaj
    rw [b1,if_pos (by simp;omega),ZP (show -9223372036854775808≤(k:Int) - 1 by omega) (by omega),w1,Option.bind_some,ZT (by omega)]
   ·refine { w2 with len:=by simp;omega,chain:=fun j hj => ?_,home:=fun j hj=>by omega }
    show (lk ⟨(tp b).Nodes,(tp b).Station,(tp b).Links++[l]⟩ j).A=_∧_
    rw [Zc1]
    by_cases hj':j<(tp b).Links.length
    ·rw [if_pos hj'];exact hr.chain j (by omega)
    ·rw [if_neg hj',if_pos (by omega),lA,lB];omega
   ·simp;omega
   ·intro s hs
    have:=Ziu (t:=tp b) (l:=l) ((brs d+s:Nat):Int)
    rw [show cntA (tp (b.1,b.2.1,b.2.2++[l])) _=_ from this,hc s hs,if_neg (by omega)])
  (fun b ⟨_,hr,_⟩=>by
   show Zaj N d ((brs d:Nat):Int) b.1 b.2.1 b.2.2=_
   unfold Zaj
   rw [b1,if_neg (by simp)]) (brs d - 1) N 1 x (by omega) (by omega) (by omega) ⟨by omega,{ hx with len:=by simp,chain:=fun j hj=>by omega,home:=fun j hj=>by omega },by rw [hx0];rfl,fun s hs=>by unfold cntA;show List.countP _ x.2.2=0;rw [hx0];rfl⟩
 obtain ⟨x',e1,_,e2,e3,e4⟩:=this
 exact ⟨x',e1,e2,e3,e4⟩
theorem topo_L3 (hd:DOK d) (hN:200≤N) {x:Int × List Bool × List Zy} (hx:Row (brs d) (brs d+sts d) (brs d - 1) 0 (tp x)) (hl:x.2.2.length=brs d - 1) (hc:∀ s,s<sts d→cntA (tp x) ((brs d+s:Nat):Int)=0) :
  ∃ x',Z2 (fun x:Int × Int × (List Bool) × (List Zy)=>Zai N d x.1 x.2.1 x.2.2.1 x.2.2.2) N (0,x)=some x'∧Row (brs d) (brs d+sts d) (brs d - 1) (sts d) (tp x')∧∀ s,s<sts d→cntA (tp x') ((brs d+s:Nat):Int)=1:=by
 obtain ⟨b1,b2,b3⟩:=Zk4 hd
 obtain ⟨s1,s2,s3⟩:=Zj8 hd
 have:=ZkM (n:=sts d) (fin:=fun b:Int × List Bool × List Zy=>b) (body:=fun x:Int × Int × (List Bool) × (List Zy)=>Zai N d x.1 x.2.1 x.2.2.1 x.2.2.2)
  (fun k b=>Row (brs d) (brs d+sts d) (brs d - 1) k (tp b)∧b.2.2.length=brs d - 1+k∧∀ s,s<sts d→cntA (tp b) ((brs d+s:Nat):Int)=if s<k then 1 else 0)
  (fun k b hk ⟨hr,hl,hc⟩=>by
   have hlen:(tp b).Links.length=brs d - 1+k:=hl
   obtain ⟨v,p1,p2,p3⟩:=ZeR (N:=N) hd.ho hd.hol (i:=2 * (k:Int)) (by omega)
   obtain ⟨m,m1,m2,m3⟩:=Zet (v:=v) (b:=((brs d:Nat):Int)) p2 (by omega)
   obtain ⟨t',w1,w2,_,w4⟩:=hr.toMk.with (N:=N) hd (x:=((brs d:Nat):Int)+(k:Int)) (y:=m) (by omega) (by omega) (by omega) hN
   obtain ⟨l,lA,lB,le⟩:=w4 (by omega) (by omega) (fun j hj=>by
    have hB:=hr.ends j hj
    have hA:(lk (tp b) j).A ≠ ((brs d:Nat):Int)+(k:Int):=by
     by_cases hj':j<brs d - 1
     ·rw [(hr.chain j hj').1];omega
     ·have:=hr.home (j - (brs d - 1)) (by omega)
      rw [show brs d - 1+(j - (brs d - 1))=j by omega] at this
      rw [this];omega
    unfold Zfw
    rw [beq_false_of_ne hA,beq_false_of_ne (show (lk (tp b) j).B ≠ ((brs d:Nat):Int)+(k:Int) by omega)]
    simp)
   subst le
   refine ⟨(b.1,b.2.1,b.2.2++[l]),?_,?_,?_,?_⟩
   ·show Zai N d k b.1 b.2.1 b.2.2=_
    unfold Zai
    rw [b1,s1,if_pos (by simp;omega),ZP (show -9223372036854775808≤2 * (k:Int) by omega) (by omega),p1,Option.bind_some,m1,Option.bind_some,ZP (show -9223372036854775808≤((brs d:Nat):Int)+(k:Int) by omega) (by omega),w1,Option.bind_some,ZT (by omega)]
   ·refine { w2 with len:=by simp;omega,chain:=fun j hj => ?_,home:=fun j hj => ?_ }
    ·show (lk ⟨(tp b).Nodes,(tp b).Station,(tp b).Links++[l]⟩ j).A=_∧_
     rw [Zc1,if_pos (by omega)];exact hr.chain j hj
    ·show (lk ⟨(tp b).Nodes,(tp b).Station,(tp b).Links++[l]⟩ (brs d - 1+j)).A=_
     rw [Zc1]
     by_cases hj':j<k
     ·rw [if_pos (by omega)];exact hr.home j hj'
     ·rw [if_neg (by omega),if_pos (by omega),lA];omega
   ·simp;omega
   ·intro s hs
    have:=Ziu (t:=tp b) (l:=l) ((brs d+s:Nat):Int)
    rw [show cntA (tp (b.1,b.2.1,b.2.2++[l])) _=_ from this,hc s hs]
    by_cases e:s=k
    ·subst e;rw [if_neg (by omega),if_pos (by omega),if_pos (by omega)]
    ·rw [if_neg (show ¬ l.A=_ by omega)]
     by_cases h:s<k
     ·rw [if_pos h,if_pos (by omega)]
     ·rw [if_neg h,if_neg (by omega)])
  (fun b ⟨hr,_⟩=>by
   show Zai N d ((sts d:Nat):Int) b.1 b.2.1 b.2.2=_
   unfold Zai
   rw [s1,if_neg (by simp)]) (sts d) N 0 x (by omega) (by omega) (by omega) ⟨hx,by omega,fun s hs=>by rw [hc s hs,if_neg (by omega)]⟩
 obtain ⟨x',e1,e2,e3,e4⟩:=this
 exact ⟨x',e1,e2,fun s hs=>by rw [e4 s hs,if_pos hs]⟩
theorem topo_L4 (hd:DOK d) (hN:200≤N) {x:Int × List Bool × List Zy} (hx:Row (brs d) (brs d+sts d) (brs d - 1) (sts d) (tp x)) (hc:∀ s,s<sts d→cntA (tp x) ((brs d+s:Nat):Int)=1) :
  ∃ x',Z2 (fun x:Int × Int × (List Bool) × (List Zy)=>Z9 N d x.1 x.2.1 x.2.2.1 x.2.2.2) N (0,x)=some x'∧Row (brs d) (brs d+sts d) (brs d - 1) (sts d) (tp x')∧∀ s,s<sts d→1≤cntA (tp x') ((brs d+s:Nat):Int)∧cntA (tp x') ((brs d+s:Nat):Int)≤2:=by
 obtain ⟨b1,b2,b3⟩:=Zk4 hd
 obtain ⟨s1,s2,s3⟩:=Zj8 hd
 have:=ZkM (n:=sts d) (fin:=fun b:Int × List Bool × List Zy=>b) (body:=fun x:Int × Int × (List Bool) × (List Zy)=>Z9 N d x.1 x.2.1 x.2.2.1 x.2.2.2)
  (fun k b=>Row (brs d) (brs d+sts d) (brs d - 1) (sts d) (tp b)∧∀ s,s<sts d→1≤cntA (tp b) ((brs d+s:Nat):Int)∧cntA (tp b) ((brs d+s:Nat):Int)≤if s<k then 2 else 1)
  (fun k b hk ⟨hr,hc⟩=>by
   obtain ⟨v,p1,p2,p3⟩:=ZeR (N:=N) hd.ho hd.hol (i:=2 * (k:Int)+1) (by omega)
   obtain ⟨m,m1,m2,m3⟩:=Zet (v:=v) (b:=((brs d:Nat):Int)) p2 (by omega)
   have hsame:∀ s,s<sts d→1≤cntA (tp b) ((brs d+s:Nat):Int)∧cntA (tp b) ((brs d+s:Nat):Int)≤if s<k+1 then 2 else 1:=fun s hs=>by
    obtain ⟨q1,q2⟩:=hc s hs
    refine ⟨q1,?_⟩
    split at q2<;>split<;>omega
   have hb:Z9 N d (k:Int) b.1 b.2.1 b.2.2=if (decide (Int.tmod v 3 > 0))=true then (Zaf N d (tp b) (((brs d:Nat):Int)+(k:Int)) m).bind fun r=>some (.inl (((k+1:Nat):Int),r.Nodes,r.Station,r.Links)) else some (.inl (((k+1:Nat):Int),b)):=by
    unfold Z9
    rw [b1,s1,if_pos (by simp;omega),ZP (show -9223372036854775808≤2 * (k:Int) by omega) (by omega),ZP (show -9223372036854775808≤2 * (k:Int)+1 by omega) (by omega),p1]
    simp only [Option.bind_some,m1,ZP (show -9223372036854775808≤((brs d:Nat):Int)+(k:Int) by omega) (by omega),ZT (show k<1000000 by omega)]
    split
    ·cases Zaf N d (tp b) (((brs d:Nat):Int)+(k:Int)) m<;>rfl
    ·rfl
   by_cases hv:Int.tmod v 3 > 0
   ·obtain ⟨t',w1,w2,w3,_⟩:=hr.toMk.with (N:=N) hd (x:=((brs d:Nat):Int)+(k:Int)) (y:=m) (by omega) (by omega) (by omega) hN
    refine ⟨(t'.Nodes,t'.Station,t'.Links),?_,?_⟩
    ·show Z9 N d (k:Int) b.1 b.2.1 b.2.2=_
     rw [hb,if_pos (by simpa using hv),w1];rfl
    ·rcases w3 with rfl | ⟨l,lA,lB,rfl⟩
     ·exact ⟨hr,hsame⟩
     ·refine ⟨hr.keep w2,fun s hs => ?_⟩
      have:=Ziu (t:=tp b) (l:=l) ((brs d+s:Nat):Int)
      rw [show cntA (tp ((tp b).Nodes,(tp b).Station,(tp b).Links++[l])) _=_ from this]
      obtain ⟨q1,q2⟩:=hc s hs
      by_cases e:s=k
      ·subst e
       rw [if_pos (by omega),if_pos (by omega)]
       rw [if_neg (by omega)] at q2
       omega
      ·rw [if_neg (show ¬ l.A=_ by omega)]
       exact hsame s hs
   ·refine ⟨b,?_,hr,hsame⟩
    show Z9 N d (k:Int) b.1 b.2.1 b.2.2=_
    rw [hb,if_neg (by simpa using hv)])
  (fun b ⟨hr,_⟩=>by
   show Z9 N d ((sts d:Nat):Int) b.1 b.2.1 b.2.2=_
   unfold Z9
   rw [s1,if_neg (by simp)]) (sts d) N 0 x (by omega) (by omega) (by omega) ⟨hx,fun s hs=>by rw [hc s hs];split<;>omega⟩
 obtain ⟨x',e1,e2,e3⟩:=this
 exact ⟨x',e1,e2,fun s hs=>by have:=e3 s hs;rw [if_pos hs] at this;exact this⟩
theorem topo_L5 (hd:DOK d) (hN:200≤N) {x:Int × List Bool × List Zy} (hx:Row (brs d) (brs d+sts d) (brs d - 1) (sts d) (tp x)) (hc:∀ s,s<sts d→1≤cntA (tp x) ((brs d+s:Nat):Int)∧cntA (tp x) ((brs d+s:Nat):Int)≤2) :
  ∃ x',Z2 (fun x:Int × Int × (List Bool) × (List Zy)=>Zar N d x.1 x.2.1 x.2.2.1 x.2.2.2) N (0,x)=some x'∧Row (brs d) (brs d+sts d) (brs d - 1) (sts d) (tp x')∧∀ s,s<sts d→1≤cntA (tp x') ((brs d+s:Nat):Int)∧cntA (tp x') ((brs d+s:Nat):Int)≤2:=by
 obtain ⟨b1,b2,b3⟩:=Zk4 hd
 obtain ⟨s1,s2,s3⟩:=Zj8 hd
 refine Zb4 (I:=fun x:Int × Int × List Bool × List Zy=>0≤x.1∧Row (brs d) (brs d+sts d) (brs d - 1) (sts d) (tp x.2)∧∀ s,s<sts d→1≤cntA (tp x.2) ((brs d+s:Nat):Int)∧cntA (tp x.2) ((brs d+s:Nat):Int)≤2) (μ:=fun x=>(14 - x.1).toNat)
  (Post:=fun x'=>Row (brs d) (brs d+sts d) (brs d - 1) (sts d) (tp x')∧∀ s,s<sts d→1≤cntA (tp x') ((brs d+s:Nat):Int)∧cntA (tp x') ((brs d+s:Nat):Int)≤2) ?_ N (0,x) ⟨by omega,hx,hc⟩ (by simp;omega)
 rintro ⟨i,y⟩ ⟨h0,hr,hc⟩
 simp only at h0 hr hc
 by_cases hi:i<12∧i+1<(d.Chords.length:Int)
 ·left
  obtain ⟨v1,v2⟩:=hd.ch _ (List.getElem_mem (show i.toNat<d.Chords.length by omega))
  obtain ⟨v3,v4⟩:=hd.ch _ (List.getElem_mem (show (i+1).toNat<d.Chords.length by omega))
  obtain ⟨m,m1,m2,m3⟩:=Zet (b:=((brs d:Nat):Int)) v1 (by omega)
  obtain ⟨q,q1,q2,q3⟩:=Zet (b:=((brs d:Nat):Int)) v3 (by omega)
  obtain ⟨t',w1,w2,w3,_⟩:=hr.toMk.with (N:=N) hd (x:=m) (y:=q) (by omega) (by omega) (by omega) hN
  refine ⟨(i+2,t'.Nodes,t'.Station,t'.Links),?_,⟨by simp only;omega,?_⟩,by simp only;omega⟩
  ·show Zar N d i y.1 y.2.1 y.2.2=_
   unfold Zar
   rw [ZP (show -9223372036854775808≤i+1 by omega) (by omega),if_pos (by simp;omega),ZlO h0 (by omega),Option.bind_some,ZP (by omega) (by omega),b1,m1,Option.bind_some,ZlO (by omega) (by omega),Option.bind_some,ZP (by omega) (by omega),q1,Option.bind_some,w1,Option.bind_some,ZP (by omega) (by omega)]
  ·rcases w3 with rfl | ⟨l,lA,lB,rfl⟩
   ·exact ⟨hr,hc⟩
   ·refine ⟨hr.keep w2,fun s hs => ?_⟩
    have:=Ziu (t:=tp y) (l:=l) ((brs d+s:Nat):Int)
    rw [show cntA (tp ((tp y).Nodes,(tp y).Station,(tp y).Links++[l])) _=_ from this,if_neg (show ¬ l.A=_ by omega)]
    exact hc s hs
 ·right
  refine ⟨y,?_,hr,hc⟩
  show Zar N d i y.1 y.2.1 y.2.2=_
  unfold Zar
  by_cases h12:i<12
  ·rw [ZP (by omega) (by omega),if_neg (by simp;omega)]
  ·rw [if_neg (by simp;omega)]
theorem Zqr (hd:DOK d) (hN:200≤N):∃ t,ZbW N d=some t∧Row (brs d) (brs d+sts d) (brs d - 1) (sts d) t∧∀ s,s<sts d→1≤cntA t ((brs d+s:Nat):Int)∧cntA t ((brs d+s:Nat):Int)≤2:=by
 obtain ⟨b1,b2,b3⟩:=Zk4 hd
 obtain ⟨s1,s2,s3⟩:=Zj8 hd
 unfold ZbW
 rw [topo_L1 hd hN,Option.bind_some]
 have e0:w64 (w64 (1+w64 (Int.tmod d.Bridges 6))+w64 (2+w64 (Int.tmod d.Stations 5)))=((brs d+sts d:Nat):Int):=by rw [b1,s1,ZP (by omega) (by omega)];omega
 obtain ⟨x2,l2,r2,k2,c2⟩:=topo_L2 (N:=N) hd hN (x:=(((brs d+sts d:Nat):Int),(List.range (brs d+sts d)).map (fun k=>decide (brs d≤k)),[])) ⟨rfl,rfl,by simp,fun k hk=>by simp at hk,fun k hk=>by simp at hk⟩ rfl
 rw [e0,l2,Option.bind_some]
 obtain ⟨x3,l3,r3,c3⟩:=topo_L3 (N:=N) hd hN r2 k2 c2
 rw [show ((0:Int),x2.1,x2.2.1,x2.2.2)=(0,x2) from rfl,l3,Option.bind_some]
 have hring:∃ x4:Int × List Bool × List Zy,(if (decide (w64 (1+w64 (Int.tmod d.Bridges 6)) > 2)&&(Int.tmod d.Bridges 2==0))=true then (Zaf N d ⟨x3.1,x3.2.1,x3.2.2⟩ (w64 (w64 (1+w64 (Int.tmod d.Bridges 6)) - 1)) 0).bind fun r=>some (r.Nodes,r.Station,r.Links) else some (x3.1,x3.2.1,x3.2.2))=some x4 ∧
   Row (brs d) (brs d+sts d) (brs d - 1) (sts d) (tp x4)∧∀ s,s<sts d→cntA (tp x4) ((brs d+s:Nat):Int)=1:=by
  by_cases hc:(decide (w64 (1+w64 (Int.tmod d.Bridges 6)) > 2)&&(Int.tmod d.Bridges 2==0))=true
  ·rw [if_pos hc,b1,ZP (show -9223372036854775808≤((brs d:Nat):Int) - 1 by omega) (by omega)]
   obtain ⟨t',w1,w2,w3,_⟩:=r3.toMk.with (N:=N) hd (x:=((brs d:Nat):Int) - 1) (y:=0) (by omega) (by omega) (by omega) hN
   refine ⟨(t'.Nodes,t'.Station,t'.Links),by rw [w1];rfl,?_⟩
   rcases w3 with rfl | ⟨l,lA,lB,rfl⟩
   ·exact ⟨r3,c3⟩
   ·refine ⟨r3.keep w2,fun s hs => ?_⟩
    have:=Ziu (t:=tp x3) (l:=l) ((brs d+s:Nat):Int)
    rw [show cntA (tp ((tp x3).Nodes,(tp x3).Station,(tp x3).Links++[l])) _=_ from this,if_neg (show ¬ l.A=_ by omega)]
    exact c3 s hs
  ·rw [if_neg hc];exact ⟨x3,rfl,r3,c3⟩
 obtain ⟨x4,l4,r4,c4⟩:=hring
 rw [l4,Option.bind_some]
 obtain ⟨x5,l5,r5,c5⟩:=topo_L4 (N:=N) hd hN r4 c4
 rw [show ((0:Int),x4.1,x4.2.1,x4.2.2)=(0,x4) from rfl,l5,Option.bind_some]
 obtain ⟨x6,l6,r6,c6⟩:=topo_L5 (N:=N) hd hN r5 c5
 rw [show ((0:Int),x5.1,x5.2.1,x5.2.2)=(0,x5) from rfl,l6,Option.bind_some]
 exact ⟨_,rfl,r6,c6⟩
end
end Go.Sh

