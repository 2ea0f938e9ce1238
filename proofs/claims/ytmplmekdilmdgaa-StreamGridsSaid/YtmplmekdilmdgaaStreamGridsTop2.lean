/- Part of the proof; written by a program out of the texts in wip/. -/
import Derived.Test.YtmplmekdilmdgaaStreamGridsTop1
set_option linter.unusedVariables false
set_option linter.unusedSimpArgs false
namespace Go.Sh
open Go Go.Eng
def stB (t:api_Topo) (x:Int):Bool:=t.Station.getD x.toNat false
def nodeB (t:api_Topo) (x:Int):Bool:=decide (0 ≤ x) && decide (x < t.Nodes)
def dL:api_Link:=⟨0,0,0,0⟩
def lk (t:api_Topo) (k:Nat):api_Link:=t.Links.getD k dL
def linkB (t:api_Topo) (l:api_Link):Bool :=
 nodeB t l.A && (nodeB t l.B && (!(l.A == l.B) && (!(stB t l.A && stB t l.B) && (decide (l.Per ≥ 1) && (decide (l.Per ≤ 1000) && (decide (l.Delay ≥ 0) && decide (l.Delay ≤ 10000)))))))
def joinsB (l:api_Link) (a b:Int):Bool:=(l.A == a && l.B == b) || (l.A == b && l.B == a)
def nojB (t:api_Topo) (k:Nat):Bool:=allB k fun j => !joinsB (lk t j) (lk t k).A (lk t k).B
def bump (b:List Int) (x:Int):List Int:=b.set x.toNat (w64 (b.getD x.toNat 0 + 1))
def bump2 (b:List Int) (l:api_Link):List Int:=bump (bump b l.A) l.B
def degs (t:api_Topo):List Int:=(List.range t.Links.length).foldl (fun b k=>bump2 b (lk t k)) (List.replicate t.Nodes.toNat 0)
def degB (t:api_Topo) (n:Nat):Bool := !(stB t n) || (decide (1 ≤ (degs t).getD n 0) && decide ((degs t).getD n 0 ≤ 2))
def rstep (l:List Bool) (k:api_Link):List Bool:=if l.getD k.A.toNat false || l.getD k.B.toNat false then (l.set k.A.toNat true).set k.B.toNat true else l
def rround (t:api_Topo) (l:List Bool):List Bool:=(List.range t.Links.length).foldl (fun b k=>rstep b (lk t k)) l
def reachL (t:api_Topo) (m:Int):List Bool:=(List.range t.Nodes.toNat).foldl (fun l _=>rround t l) ((List.replicate t.Nodes.toNat false).set m.toNat true)
def topoB (t:api_Topo):Bool :=
 decide (2 ≤ t.Nodes) && (decide (t.Nodes ≤ 12) && (((t.Station.length:Int) == t.Nodes) && (decide (t.Links.length ≤ 24) &&
  (allB t.Links.length (fun k=>linkB t (lk t k) && nojB t k) && (allB t.Nodes.toNat (fun n=>(reachL t 0).getD n false && degB t n))))))
section
variable {N:Nat} {t:api_Topo}
theorem lk_eq {k:Nat} (h:k < t.Links.length):idx t.Links (k:Int)=some (lk t k):=by
 rw [idx_k h]; simp [lk,List.getD_eq_getElem?_getD,h]
theorem node_lt (hS:(t.Station.length:Int)=t.Nodes) {x:Int} (h:nodeB t x=true):idx t.Station x=some (stB t x):=by
 simp only [nodeB,Bool.and_eq_true,decide_eq_true_eq] at h
 exact idx_getD false h.1 (by omega)
theorem ref16_node_eq (x:Int):ref16_node N t x=some (nodeB t x):=by simp [ref16_node,nodeB]
theorem topo_node_eq (x:Int):topo_node N t x=some (nodeB t x):=by simp [topo_node,nodeB]
theorem ref16_link_eq (hS:(t.Station.length:Int)=t.Nodes) (l:api_Link):ref16_link N t l=some (linkB t l):=by
 unfold ref16_link linkB
 rw [ref16_node_eq,ref16_node_eq]
 simp only [Option.bind_some]
 cases hA:nodeB t l.A with
 | false=>rfl
 | true =>
  cases hB:nodeB t l.B with
  | false=>rfl
  | true =>
   rw [node_lt hS hA,node_lt hS hB]
   cases (l.A == l.B) <;> cases stB t l.A <;> cases stB t l.B <;> rfl
theorem ref16_Joins_eq (l:api_Link) (a b:Int):ref16_Joins N l a b=some (joinsB l a b):=by
 unfold ref16_Joins joinsB
 cases l.A == a <;> cases l.B == b <;> cases l.A == b <;> cases l.B == a <;> rfl
theorem beq_sym (a b:Int):(a == b)=(b == a):=by
 by_cases h:a=b
 ·subst h; rfl
 ·rw [beq_false_of_ne h,beq_false_of_ne (Ne.symm h)]
theorem topo_noj (hL:t.Links.length < 100) (hN:t.Links.length < N) {k:Nat} (hk:k < t.Links.length):topo_sound_3 N (k:Int) t=some (nojB t k):=by
 unfold topo_sound_3
 rw [lk_eq hk,Option.bind_some]
 have hsub:subI t.Links 0 (k:Int)=some (t.Links.take k):=by
  unfold subI
  rw [if_pos ⟨by omega,by omega,by omega⟩]
  simp
 rw [hsub,Option.bind_some]
 have hlen:(t.Links.take k).length=k:=by simp; omega
 have:=iterF_allN (n:=k) (p:=fun j => !joinsB (lk t j) (lk t k).A (lk t k).B) (body:=fun x:Int=>topo_sound_3_L1 N (lk t k) (t.Links.take k) x) (bad:=.inr false) (fin:=.inl ()) (fun j hj=>by
  unfold topo_sound_3_L1
  have hj':j < (t.Links.take k).length:=by omega
  rw [if_pos (by rw [hlen]; simp; omega),idx_k hj',Option.bind_some,w64_succ (by omega)]
  have e:(t.Links.take k)[j]=lk t j:=by simp [lk,List.getD_eq_getElem?_getD,show j < t.Links.length by omega]
  rw [e]
  unfold joinsB
  rw [beq_sym (lk t k).A (lk t j).A,beq_sym (lk t k).B (lk t j).B,beq_sym (lk t k).A (lk t j).B,beq_sym (lk t k).B (lk t j).A]
  cases (lk t j).A == (lk t k).A <;> cases (lk t j).B == (lk t k).B <;> cases (lk t j).A == (lk t k).B <;> cases (lk t j).B == (lk t k).A <;> rfl) (by unfold topo_sound_3_L1; rw [if_neg (by rw [hlen]; simp)]) (N:=N) (by omega)
 rw [this]
 unfold nojB
 cases allB k fun j => !joinsB (lk t j) (lk t k).A (lk t k).B <;> rfl
theorem topo_sound_eq (hS:(t.Station.length:Int)=t.Nodes) (hL:t.Links.length < 100) (hN:t.Links.length < N):topo_sound N t=some (allB t.Links.length (fun k=>linkB t (lk t k) && nojB t k)):=by
 unfold topo_sound
 have:=iterF_allN (n:=t.Links.length) (p:=fun k=>linkB t (lk t k) && nojB t k) (body:=fun x:Int=>topo_sound_L1 N t x) (bad:=.inr false) (fin:=.inl ()) (fun k hk=>by
  unfold topo_sound_L1
  rw [if_pos (by simp; omega),topo_noj hL hN hk,w64_succ (by omega)]
  unfold topo_sound_1 topo_sound_2 topo_sound_4
  rw [lk_eq hk]
  simp only [Option.bind_some,topo_node_eq]
  unfold linkB
  cases hA:nodeB t (lk t k).A with
  | false=>rfl
  | true =>
   cases hB:nodeB t (lk t k).B with
   | false=>rfl
   | true =>
    simp only [if_true,Option.bind_some]
    rw [node_lt hS hA,node_lt hS hB]
    simp only [bne,Option.bind_some]
    generalize (decide ((lk t k).Per ≥ 1) && (decide ((lk t k).Per ≤ 1000) && (decide ((lk t k).Delay ≥ 0) && decide ((lk t k).Delay ≤ 10000))))=q
    cases ((lk t k).A == (lk t k).B) <;> cases stB t (lk t k).A <;> cases stB t (lk t k).B <;> cases nojB t k <;> cases q <;> rfl) (by unfold topo_sound_L1; rw [if_neg (by simp)]) (N:=N) hN
 rw [this]
 cases allB t.Links.length (fun k=>linkB t (lk t k) && nojB t k) <;> rfl
theorem bump_len (b:List Int) (x:Int):(bump b x).length=b.length:=by simp [bump]
theorem bump2_len (b:List Int) (l:api_Link):(bump2 b l).length=b.length:=by simp [bump2,bump_len]
theorem node_of_link {l:api_Link} (h:linkB t l=true):nodeB t l.A=true∧nodeB t l.B=true∧l.A ≠ l.B:=by
 simp only [linkB,Bool.and_eq_true] at h
 refine ⟨h.1,h.2.1,?_⟩
 have:=h.2.2.1
 intro e
 simp [e] at this
theorem nodeB_iff {x:Int}:nodeB t x=true↔0 ≤ x∧x < t.Nodes:=by simp [nodeB]
theorem bump_idx {b:List Int} (hb:(b.length:Int)=t.Nodes) {l:api_Link} (hA:nodeB t l.A=true) (hB:nodeB t l.B=true) :
  idx b l.A=some (b.getD l.A.toNat 0)∧idx (b.set l.A.toNat (w64 (b.getD l.A.toNat 0 + 1))) l.B=some ((bump b l.A).getD l.B.toNat 0):=by
 rw [nodeB_iff] at hA hB
 exact ⟨idx_getD 0 hA.1 (by omega),idx_getD 0 hB.1 (by simp; omega)⟩
theorem topo_degs (hT:allB t.Links.length (fun k=>linkB t (lk t k) && nojB t k)=true) (hn:0 ≤ t.Nodes) (hL:t.Links.length < 100) (hN:t.Links.length < N) :
  iterF (fun x:Int × (List Int)=>topo_Check_L1 N t x.1 x.2) N (0,List.replicate t.Nodes.toNat 0)=some (degs t)∧((degs t).length:Int)=t.Nodes:=by
 have:=iterF_fold (n:=t.Links.length) (f:=fun b k=>bump2 b (lk t k)) (body:=fun x:Int × (List Int)=>topo_Check_L1 N t x.1 x.2) (fin:=fun b=>b) (fun _ b=>(b.length:Int)=t.Nodes)
  (fun k b hk hb=>by
   have hl:=allB_iff.1 hT k hk
   simp only [Bool.and_eq_true] at hl
   obtain ⟨hA,hB,_⟩:=node_of_link hl.1
   obtain ⟨i1,i2⟩:=bump_idx hb hA hB
   show topo_Check_L1 N t k b=_
   unfold topo_Check_L1
   rw [if_pos (by simp; omega),lk_eq hk,Option.bind_some,i1]
   simp only [Option.bind_some,i2,w64_succ (show k < 1000000 by omega)]
   rfl)
  (fun k b hk hb=>by rw [bump2_len]; exact hb)
  (fun b hb=>by show topo_Check_L1 N t t.Links.length b=_; unfold topo_Check_L1; rw [if_neg (by simp)]) hN (b0:=List.replicate t.Nodes.toNat 0) (by simp; omega)
 exact this
theorem rstep_len (l:List Bool) (k:api_Link):(rstep l k).length=l.length:=by unfold rstep; split <;> simp
theorem set_true {l:List Bool} {i:Nat} (h:l.getD i false=true):l.set i true=l:=by
 apply List.ext_getElem?
 intro j
 rw [List.getElem?_set]
 by_cases e:i=j
 ·subst e
  rw [if_pos rfl]
  split
  ·rename_i hl
   rw [List.getElem?_eq_getElem hl]
   simp [List.getD_eq_getElem?_getD,hl] at h
   rw [h]
  ·rename_i hl
   rw [List.getElem?_eq_none (by omega)]
 ·rw [if_neg e]
theorem getD_set_true {l:List Bool} {i j:Nat} (h:l.getD j false=true):(l.set i true).getD j false=true:=by
 rw [List.getD_eq_getElem?_getD] at h ⊢
 rw [List.getElem?_set]
 split
 ·split
  ·rfl
  ·rename_i e hl
   rw [List.getElem?_eq_none (by omega)] at h
   cases h
 ·exact h
theorem topo_rround (hT:allB t.Links.length (fun k=>linkB t (lk t k) && nojB t k)=true) (hL24:t.Links.length ≤ 24) (hN:t.Links.length < N) (c:Arr24_Bool) (hc:∀ k:Nat,k < 24→c.get (k:Int)=some false) {l:List Bool} (hl:(l.length:Int)=t.Nodes) :
  iterF (fun x:Int × (List Bool)=>topo_reach_L2 N t c x.1 x.2) N (0,l)=some (rround t l)∧((rround t l).length:Int)=t.Nodes:=by
 have:=iterF_fold (n:=t.Links.length) (f:=fun b k=>rstep b (lk t k)) (body:=fun x:Int × (List Bool)=>topo_reach_L2 N t c x.1 x.2) (fin:=fun b=>b) (fun _ b=>(b.length:Int)=t.Nodes)
  (fun k b hk hb=>by
   have hl:=allB_iff.1 hT k hk
   simp only [Bool.and_eq_true] at hl
   obtain ⟨hA,hB,_⟩:=node_of_link hl.1
   rw [nodeB_iff] at hA hB
   have i1:idx b (lk t k).A=some (b.getD (lk t k).A.toNat false):=idx_getD false hA.1 (by omega)
   have i2:idx b (lk t k).B=some (b.getD (lk t k).B.toNat false):=idx_getD false hB.1 (by omega)
   have i3:idx (b.set (lk t k).A.toNat true) (lk t k).B=some ((b.set (lk t k).A.toNat true).getD (lk t k).B.toNat false):=idx_getD false hB.1 (by simp; omega)
   show topo_reach_L2 N t c k b=_
   unfold topo_reach_L2
   rw [if_pos (by simp; omega),lk_eq hk,Option.bind_some,hc k (by omega)]
   simp only [Option.bind_some,i1,i2,i3,w64_succ (show k < 1000000 by omega),Bool.not_false,if_true]
   unfold rstep
   cases h1:b.getD (lk t k).A.toNat false with
   | false=>cases h2:b.getD (lk t k).B.toNat false <;> simp
   | true=>cases h2:b.getD (lk t k).B.toNat false with
    | false=>simp
    | true=>simp [set_true h1,set_true h2])
  (fun k b hk hb=>by rw [rstep_len]; exact hb)
  (fun b hb=>by show topo_reach_L2 N t c t.Links.length b=_; unfold topo_reach_L2; rw [if_neg (by simp)]) hN (b0:=l) hl
 exact this
theorem make_eq {α:Type} {b:Nat} {n:Int} (z:α) (h0:0 ≤ n) (h1:n ≤ 1000) (hb:b ≤ 1000):makeI b n n z=some (List.replicate n.toNat z):=by
 unfold makeI
 have:n * (b:Int) ≤ 1000 * 1000:=Int.mul_le_mul h1 (by omega) (by omega) (by omega)
 rw [if_pos ⟨h0,Int.le_refl _,by omega,by omega⟩]
theorem topo_reach_eq (hT:allB t.Links.length (fun k=>linkB t (lk t k) && nojB t k)=true) (hL24:t.Links.length ≤ 24) (h0:1 ≤ t.Nodes) (h12:t.Nodes ≤ 12) (hN:30 ≤ N) (c:Arr24_Bool) (hc:∀ k:Nat,k < 24→c.get (k:Int)=some false) {m:Int} (hm0:0 ≤ m) (hm:m < t.Nodes) :
  topo_reach N t m c=some (reachL t m)∧((reachL t m).length:Int)=t.Nodes:=by
 unfold topo_reach
 rw [make_eq _ (by omega) (by omega) (by omega),Option.bind_some,idx_getD false hm0 (by simp; omega),Option.bind_some]
 have:=iterF_fold (n:=t.Nodes.toNat) (f:=fun b _=>rround t b) (body:=fun x:Int × (List Bool)=>topo_reach_L1 N t c x.1 x.2) (fin:=fun b=>b) (fun _ b=>(b.length:Int)=t.Nodes)
  (fun k b hk hb=>by
   show topo_reach_L1 N t c k b=_
   unfold topo_reach_L1
   rw [if_pos (by simp; omega),(topo_rround hT hL24 (by omega) c hc hb).1,Option.bind_some,w64_succ (by omega)])
  (fun k b hk hb=>(topo_rround hT hL24 (N:=N) (by omega) c hc hb).2)
  (fun b hb=>by show topo_reach_L1 N t c t.Nodes.toNat b=_; unfold topo_reach_L1; rw [if_neg (by simp; omega)]) (N:=N) (by omega) (b0:=(List.replicate t.Nodes.toNat false).set m.toNat true) (by simp; omega)
 rw [this.1]
 exact ⟨rfl,this.2⟩
theorem contains_false (l:List Bool):l.contains false = !(allB l.length fun n=>l.getD n false):=by
 rw [Bool.eq_iff_iff,List.contains_iff_mem,Bool.not_eq_true',← Bool.not_eq_true,allB_iff]
 constructor
 ·intro h hh
  obtain ⟨k,hk,e⟩:=List.getElem_of_mem h
  have:=hh k hk
  simp [List.getD_eq_getElem?_getD,hk,e] at this
 ·intro h
  simp only [Classical.not_forall] at h
  obtain ⟨k,hk,e⟩:=h
  simp [List.getD_eq_getElem?_getD,hk] at e
  rw [← e]
  exact List.getElem_mem hk
theorem topo_Check_eq (hN:40 ≤ N):topo_Check N t=some (if topoB t then 0 else 260):=by
 unfold topo_Check topoB
 by_cases h1:2 ≤ t.Nodes
 ·by_cases h2:t.Nodes ≤ 12
  ·by_cases h3:(t.Station.length:Int)=t.Nodes
   ·rw [if_neg (by simp [h3]; omega)]
    by_cases h4:t.Links.length ≤ 24
    ·rw [if_neg (by simp; omega),topo_sound_eq h3 (by omega) (by omega),Option.bind_some,Option.bind_some]
     have e:decide (2 ≤ t.Nodes)=true∧decide (t.Nodes ≤ 12)=true∧((t.Station.length:Int) == t.Nodes)=true∧decide (t.Links.length ≤ 24)=true:=by simp [h1,h2,h3,h4]
     rw [e.1,e.2.1,e.2.2.1,e.2.2.2]
     simp only [Bool.true_and]
     cases hT:allB t.Links.length (fun k=>linkB t (lk t k) && nojB t k) with
     | false=>rfl
     | true =>
      simp only [Bool.not_true,Bool.false_eq_true,if_false,Bool.true_and]
      rw [make_eq _ (by omega) (by omega) (by omega),Option.bind_some,(topo_degs hT (by omega) (by omega) (by omega)).1,Option.bind_some]
      have hd:=(topo_degs (N:=N) hT (by omega) (by omega) (by omega)).2
      have hr:=topo_reach_eq (N:=N) hT h4 (by omega) h2 (by omega) ⟨false,false,false,false,false,false,false,false,false,false,false,false,false,false,false,false,false,false,false,false,false,false,false,false⟩ (by decide) (m:=0) (by omega) (by omega)
      have:=iterF_allN (n:=t.Station.length) (p:=fun n=>degB t n) (body:=fun x:Int=>topo_Check_L2 N t (degs t) x) (bad:=.inr 260) (fin:=.inl ()) (fun k hk=>by
       unfold topo_Check_L2
       have j2:idx t.Station (k:Int)=some (stB t k):=idx_getD false (by omega) (by omega)
       have j3:idx (degs t) (k:Int)=some ((degs t).getD k 0):=idx_getD 0 (by omega) (by omega)
       rw [if_pos (by simp; omega),j2,j3,w64_succ (by omega)]
       simp only [Option.bind_some]
       unfold degB
       cases stB t k with
       | false=>rfl
       | true =>
        simp only [if_true,Bool.not_true,Bool.false_or]
        generalize (degs t).getD k 0=d
        by_cases g1:d < 1
        ·simp [g1,show ¬ (1 ≤ d) by omega]
        ·by_cases g2:d > 2
         ·simp [g1,g2,show ¬ (d ≤ 2) by omega]
         ·simp [g1,g2,show 1 ≤ d by omega,show d ≤ 2 by omega]) (by unfold topo_Check_L2; rw [if_neg (by simp)]) (N:=N) (by omega)
      rw [this,Option.bind_some,allB_and]
      have hsl:t.Station.length=t.Nodes.toNat:=by omega
      rw [hsl]
      cases hD:allB t.Nodes.toNat (fun n=>degB t n) with
      | false=>simp
      | true =>
       simp only [if_true,Bool.and_true]
       rw [hr.1,Option.bind_some,slices_Contains__bool_bool_eq (by omega) (by omega),Option.bind_some,contains_false,show (reachL t 0).length=t.Nodes.toNat by omega]
       cases allB t.Nodes.toNat (fun n=>(reachL t 0).getD n false) <;> rfl
    ·rw [if_pos (by simp; omega)]; simp [h4]
   ·rw [if_pos (by simp [h3])]; simp [h3]
  ·rw [if_pos (by simp; omega)]; simp [h2]
 ·rw [if_pos (by simp; omega)]; simp [h1]
end
end Go.Sh

