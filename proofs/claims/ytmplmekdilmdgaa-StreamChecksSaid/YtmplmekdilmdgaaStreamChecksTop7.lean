/- Part of the proof; written by a program out of the texts in wip/. -/
import Derived.Test.YtmplmekdilmdgaaStreamChecksTop6
set_option linter.unusedVariables false
set_option linter.unusedSimpArgs false
namespace Go.Sh
open Go Go.Eng
def Byte (v:Int):Prop:=0≤v∧v≤255
theorem Zdy {v:Int} (h:InK .u8 v):Byte v:=by
 exact h.u8
section
variable {N:Nat}
theorem ZeE {l:List Int} (hl:∀ x ∈ l,Byte x) (hlen:l.length≤maxLen) {i:Int} (h0:0≤i):∃ v,Zc8 N l i=some v∧Byte v:=by
 unfold Zc8
 by_cases h:i<(l.length:Int)
 ·rw [if_pos (by simpa using h),Zkw h0 (by omega),Option.bind_some]
  have hb:=hl _ (List.getElem_mem (show i.toNat<l.length by omega))
  refine ⟨_,rfl,?_⟩
  obtain ⟨b1,b2⟩:=hb
  rw [Z5 (by omega) (by omega)]
  exact ⟨b1,b2⟩
 ·rw [if_neg (by simpa using h)]
  exact ⟨0,rfl,by omega,by omega⟩
theorem ZdH {v b:Int} (hv:0≤v) (hb:0<b):∃ m,remI v b=some m∧0≤m∧m<b:=by
 refine ⟨v.tmod b,Zo2 (by omega),?_⟩
 rw [Int.tmod_eq_emod_of_nonneg hv]
 exact ⟨Int.emod_nonneg _ (by omega),Int.emod_lt_of_pos _ hb⟩
theorem with_eq {d:Zap} (hp:∀ x ∈ d.Pers,Byte x) (hpl:d.Pers.length≤maxLen) (hd:∀ x ∈ d.Delays,Byte x) (hdl:d.Delays.length≤maxLen) {t:Zg} (hS:(t.Station.length:Int)=t.Nodes) (hL:t.Links.length≤24) (a b:Int) (hN:200≤N) :
  ∃ l:Zu,l.A=a∧l.B=b∧(ZdA t a=true→ZdA t b=true→a ≠ b→(stB t a&&stB t b)=false→ZdL t l=true) ∧
   Z8 N d t a b=some (if t.Links.length<24∧ZdL t l=true∧(allB t.Links.length fun k => !Ze0 (lk t k) a b)=true then ⟨t.Nodes,t.Station,t.Links++[l]⟩ else t):=by
 obtain ⟨v1,p1,b1⟩:=ZeE (N:=N) hp hpl (i:=(t.Links.length:Int)) (by omega)
 obtain ⟨v2,p2,b2⟩:=ZeE (N:=N) hd hdl (i:=(t.Links.length:Int)) (by omega)
 obtain ⟨b11,b12⟩:=b1
 obtain ⟨b21,b22⟩:=b2
 have e1:Int.tmod v1 20=v1 % 20:=Int.tmod_eq_emod_of_nonneg b11
 have e2:Int.tmod v2 50=v2 % 50:=Int.tmod_eq_emod_of_nonneg b21
 have e3:w64 (1+Int.tmod v1 20)=1+v1 % 20:=by rw [e1,Z5 (by omega) (by omega)]
 refine ⟨⟨a,b,1+v1 % 20,v2 % 50⟩,rfl,rfl,fun h1 h2 h3 h4 => ?_,?_⟩
 ·simp only [ZdL,h1,h2,h4,Bool.true_and,Bool.not_false,Bool.and_eq_true,decide_eq_true_eq]
  refine ⟨by simp [h3],by omega,by omega,by omega,by omega⟩
 ·unfold Z8
  rw [p1,Option.bind_some,p2,Option.bind_some,e3,e2]
  by_cases h24:t.Links.length<24
  ·have:(((t.Links.length:Nat):Int)==24)=false:=by simp;omega
   rw [this]
   simp only [Bool.false_eq_true,if_false]
   rw [Zhp hS,Option.bind_some,Option.bind_some]
   cases hlb:ZdL t ⟨a,b,1+v1 % 20,v2 % 50⟩ with
   | false=>simp
   | true =>
    simp only [Bool.not_true,Bool.false_eq_true,if_false]
    have:=Zau (n:=t.Links.length) (p:=fun k => !Ze0 (lk t k) a b) (body:=fun x:Int=>ZaL N t a b x) (bad:=.inr t) (fin:=.inl ()) (fun k hk=>by
     unfold ZaL
     rw [if_pos (by simp;omega),Zl1 hk,Option.bind_some,Zg1,Option.bind_some,ZS (by omega)]
     cases Ze0 (lk t k) a b<;>rfl) (by unfold ZaL;rw [if_neg (by simp)]) (N:=N) (by omega)
    rw [this]
    cases hj:allB t.Links.length (fun k => !Ze0 (lk t k) a b) with
    | false=>simp
    | true =>
     simp only [if_true,Option.bind_some]
     rw [Zep (by simp;omega) (by omega)]
     simp [h24]
  ·have:(((t.Links.length:Nat):Int)==24)=true:=by simp;omega
   rw [this]
   simp [h24]
end
structure Mk (b n:Nat) (t:Zg):Prop where
 nodes:t.Nodes=n
 st:t.Station=(List.range n).map (fun k=>decide (b≤k))
 l24:t.Links.length≤24
 links:∀ k,k<t.Links.length→ZdL t (lk t k)=true∧nojB t k=true
 ends:∀ k,k<t.Links.length→(lk t k).B<b
def cntA (t:Zg) (x:Int):Nat:=t.Links.countP (fun l=>l.A==x)
section
variable {N b n:Nat} {t:Zg}
theorem Mk.stl (h:Mk b n t):(t.Station.length:Int)=t.Nodes:=by rw [h.st,h.nodes];simp
theorem Mk.stB (h:Mk b n t) {x:Int} (h0:0≤x) (hx:x<n):stB t x=decide ((b:Int)≤x):=by
 unfold Go.Sh.stB
 rw [h.st,List.getD_eq_getElem?_getD,List.getElem?_map,List.getElem?_range (by omega)]
 simp only [Option.map_some,Option.getD_some]
 rw [Bool.eq_iff_iff,decide_eq_true_iff,decide_eq_true_iff]
 omega
theorem Mk.node (h:Mk b n t) {x:Int}:ZdA t x=true↔0≤x∧x<n:=by rw [ZeY,h.nodes]
theorem ZcU {l:Zu} {k:Nat}:lk ⟨t.Nodes,t.Station,t.Links++[l]⟩ k=if k<t.Links.length then lk t k else if k=t.Links.length then l else dL:=by
 unfold lk
 simp only [List.getD_eq_getElem?_getD]
 by_cases h:k<t.Links.length
 ·rw [if_pos h,List.getElem?_append_left h]
 ·rw [if_neg h,List.getElem?_append_right (by omega)]
  by_cases e:k=t.Links.length
  ·subst e;simp
  ·rw [if_neg e]
   have:k - t.Links.length ≠ 0:=by omega
   cases hh:k - t.Links.length with
   | zero=>omega
   | succ m=>simp
theorem Zl2 {l x:Zu}:ZdL ⟨t.Nodes,t.Station,t.Links++[l]⟩ x=ZdL t x:=rfl
theorem Mk.add (h:Mk b n t) {l:Zu} (h24:t.Links.length<24) (hl:ZdL t l=true) (hj:(allB t.Links.length fun k => !Ze0 (lk t k) l.A l.B)=true) (hb:l.B<b):Mk b n ⟨t.Nodes,t.Station,t.Links++[l]⟩ where
 nodes:=h.nodes
 st:=h.st
 l24:=by simp;omega
 links:=fun k hk=>by
  simp only [List.length_append,List.length_singleton] at hk
  rw [Zl2]
  unfold nojB
  by_cases hlt:k<t.Links.length
  ·obtain ⟨q1,q2⟩:=h.links k hlt
   rw [ZcU,if_pos hlt]
   refine ⟨q1,?_⟩
   rw [← q2]
   unfold nojB
   apply ZkJ
   intro j hj
   rw [ZcU,if_pos (by omega)]
  ·obtain rfl:k=t.Links.length:=by omega
   rw [ZcU,if_neg hlt,if_pos rfl]
   refine ⟨hl,?_⟩
   rw [← hj]
   apply ZkJ
   intro j hj
   rw [ZcU,if_pos hj]
 ends:=fun k hk=>by
  simp only [List.length_append,List.length_singleton] at hk
  by_cases hlt:k<t.Links.length
  ·rw [ZcU,if_pos hlt];exact h.ends k hlt
  ·rw [ZcU,if_neg hlt,if_pos (by omega)];exact hb
end
end Go.Sh

