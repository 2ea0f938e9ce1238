/- Part of the proof; written by a program out of the texts in wip/. -/
import Derived.Test.YtmplmekdilmdgaaStreamGridsTop4
set_option linter.unusedVariables false
set_option linter.unusedSimpArgs false
namespace Go.Sh
open Go Go.Eng
section
variable {N:Nat} {t:api_Topo}
def apartL (a b:List Int):Bool:=allB a.length fun i=>allB b.length fun k => !(w64 (Int.tdiv (at0 a i) 2) == w64 (Int.tdiv (at0 b k) 2))
theorem route_shares_eq {a b:List Int} (ha:a.length ≤ 100) (hb:b.length ≤ 100) (hN:200 ≤ N):route_shares N a b=some (!apartL a b):=by
 unfold route_shares apartL
 have h2:∀ i,i < a.length→iterF (fun x:Int=>route_shares_L2 N b (at0 a i) x) N 0=some (if allB b.length (fun k => !(w64 (Int.tdiv (at0 a i) 2) == w64 (Int.tdiv (at0 b k) 2))) then .inl () else .inr true):=fun i hi =>
  iterF_allN (n:=b.length) (fun k hk=>by
   unfold route_shares_L2
   rw [if_pos (by simp; omega),idx_k hk,Option.bind_some,← at0_k hk,w64_succ (by omega)]
   cases (w64 (Int.tdiv (at0 a i) 2) == w64 (Int.tdiv (at0 b k) 2)) <;> rfl) (by unfold route_shares_L2; rw [if_neg (by simp)]) (by omega)
 have:=iterF_allN (n:=a.length) (p:=fun i=>allB b.length fun k => !(w64 (Int.tdiv (at0 a i) 2) == w64 (Int.tdiv (at0 b k) 2))) (body:=fun x:Int=>route_shares_L1 N a b x) (bad:=.inr true) (fin:=.inl ()) (fun i hi=>by
  unfold route_shares_L1
  rw [if_pos (by simp; omega),idx_k hi,Option.bind_some,← at0_k hi,h2 i hi,w64_succ (by omega)]
  cases allB b.length (fun k => !(w64 (Int.tdiv (at0 a i) 2) == w64 (Int.tdiv (at0 b k) 2))) <;> rfl) (by unfold route_shares_L1; rw [if_neg (by simp)]) (N:=N) (by omega)
 rw [this]
 cases allB a.length (fun i=>allB b.length fun k => !(w64 (Int.tdiv (at0 a i) 2) == w64 (Int.tdiv (at0 b k) 2))) <;> rfl
def clearL (A B:List Int):Bool:=(List.range' 1 (A.length - 2)).all fun i => !B.contains (at0 A i)
theorem ref21_crosses_eq {A B:List Int} (h1:2 ≤ A.length) (hA:A.length ≤ 100) (hB:B.length ≤ 100) (hN:200 ≤ N):ref21_crosses N A B=some (!clearL A B):=by
 unfold ref21_crosses clearL
 have:=iterF_allR (n:=A.length - 1) (p:=fun i => !B.contains (at0 A i)) (body:=fun x:Int=>ref21_crosses_L1 N A B x) (bad:=.inr true) (fin:=.inl ()) (fun i hi=>by
  unfold ref21_crosses_L1
  rw [if_pos (by rw [w64_id (by omega) (by omega)]; simp; omega),idx_k (by omega),Option.bind_some,← at0_k (by omega),ref16_In_eq (by omega) (by omega),Option.bind_some,w64_succ (by omega)]
  cases B.contains (at0 A i) <;> rfl) (by unfold ref21_crosses_L1; rw [if_neg (by rw [w64_id (by omega) (by omega)]; simp; omega)]) (A.length - 2) N 1 (by omega) (by omega) (by omega)
 rw [show ((1:Nat):Int)=1 from rfl] at this
 rw [this]
 cases (List.range' 1 (A.length - 2)).all (fun i => !B.contains (at0 A i)) <;> rfl
theorem route_meets_eq (g:Good t) {a b:List Int} (hva:validR t a=true) (hvb:validR t b=true) (hN:200 ≤ N):route_walk_meets N ⟨t⟩ a b=some (!clearL (nodesL t a) (nodesL t b)):=by
 obtain ⟨a1,a8,_⟩:=ports_of hva
 obtain ⟨b1,b8,_⟩:=ports_of hvb
 have hla:=nodesL_len (t:=t) a
 have hlb:=nodesL_len (t:=t) b
 unfold route_walk_meets clearL
 rw [route_nodes_eq g hva hN,Option.bind_some,route_nodes_eq g hvb hN,Option.bind_some]
 generalize hA:nodesL t a=A at *
 generalize hB:nodesL t b=B at *
 have hsub:subI A 1 (w64 ((A.length:Int) - 1))=some ((A.take (A.length - 1)).drop 1):=by
  rw [w64_id (by omega) (by omega)]
  unfold subI
  rw [if_pos ⟨by omega,by omega,by omega⟩,show ((A.length:Int) - 1).toNat=A.length - 1 by omega]
  rfl
 rw [hsub,Option.bind_some]
 have hil:((A.take (A.length - 1)).drop 1).length=A.length - 2:=by simp; omega
 have:=iterF_allN (n:=A.length - 2) (p:=fun i => !B.contains (at0 A (i + 1))) (body:=fun x:Int=>route_walk_meets_L1 N B ((A.take (A.length - 1)).drop 1) x) (bad:=.inr true) (fin:=.inl ()) (fun i hi=>by
  unfold route_walk_meets_L1
  rw [if_pos (by rw [hil]; simp; omega),idx_k (by omega),Option.bind_some]
  have e:((A.take (A.length - 1)).drop 1)[i]'(by omega)=at0 A (i + 1):=by
   rw [at0_k (by omega),List.getElem_drop,List.getElem_take]
   congr 1; omega
  rw [e,slices_Contains__int_int_eq (by omega) (by omega),Option.bind_some,w64_succ (by omega)]
  cases B.contains (at0 A (i + 1)) <;> rfl) (by unfold route_walk_meets_L1; rw [if_neg (by rw [hil]; simp)]) (N:=N) (by omega)
 rw [this]
 have e2:(List.range' 1 (A.length - 2)).all (fun i => !B.contains (at0 A i))=allB (A.length - 2) (fun i => !B.contains (at0 A (i + 1))):=by
  unfold allB
  rw [Bool.eq_iff_iff,List.all_eq_true,List.all_eq_true]
  constructor
  ·intro h i hi
   exact h (i + 1) (by simp only [List.mem_range] at hi; simp only [List.mem_range'_1]; omega)
  ·intro h i hi
   simp only [List.mem_range'_1] at hi
   have:=h (i - 1) (by simp only [List.mem_range]; omega)
   rwa [show i - 1 + 1=i by omega] at this
 rw [e2]
 cases allB (A.length - 2) (fun i => !B.contains (at0 A (i + 1))) <;> rfl
def apartB (t:api_Topo) (a b:List Int):Bool:=apartL a b && (clearL (nodesL t a) (nodesL t b) && clearL (nodesL t b) (nodesL t a))
theorem ref21_Apart_eq (g:Good t) {a b:List Int} (hva:validR t a=true) (hvb:validR t b=true) (hN:200 ≤ N):ref21_Apart N t a b=some (apartB t a b):=by
 obtain ⟨a1,a8,pa⟩:=ports_of hva
 obtain ⟨b1,b8,pb⟩:=ports_of hvb
 have hla:=nodesL_len (t:=t) a
 have hlb:=nodesL_len (t:=t) b
 have hL:t.Links.length ≤ 1000:=by have:=g.l24; omega
 unfold ref21_Apart apartB
 have h2:∀ i:Nat,i < a.length→iterF (fun x:Int=>ref21_Apart_L2 N a b (i:Int) x) N 0=some (if allB b.length (fun k => !(w64 (Int.tdiv (at0 a i) 2) == w64 (Int.tdiv (at0 b k) 2))) then .inl () else .inr false):=fun i hi =>
  iterF_allN (n:=b.length) (fun k hk=>by
   unfold ref21_Apart_L2
   rw [if_pos (by simp; omega),idx_k hi,Option.bind_some,idx_k hk,Option.bind_some,← at0_k hi,← at0_k hk,w64_succ (by omega)]
   cases (w64 (Int.tdiv (at0 a i) 2) == w64 (Int.tdiv (at0 b k) 2)) <;> rfl) (by unfold ref21_Apart_L2; rw [if_neg (by simp)]) (by omega)
 have:=iterF_allN (n:=a.length) (p:=fun i=>allB b.length fun k => !(w64 (Int.tdiv (at0 a i) 2) == w64 (Int.tdiv (at0 b k) 2))) (body:=fun x:Int=>ref21_Apart_L1 N a b x) (bad:=.inr false) (fin:=.inl ()) (fun i hi=>by
  unfold ref21_Apart_L1
  rw [if_pos (by simp; omega),h2 i hi,w64_succ (by omega)]
  cases allB b.length (fun k => !(w64 (Int.tdiv (at0 a i) 2) == w64 (Int.tdiv (at0 b k) 2))) <;> rfl) (by unfold ref21_Apart_L1; rw [if_neg (by simp)]) (N:=N) (by omega)
 rw [this]
 unfold apartL
 cases allB a.length (fun i=>allB b.length fun k => !(w64 (Int.tdiv (at0 a i) 2) == w64 (Int.tdiv (at0 b k) 2))) with
 | false=>rfl
 | true =>
  simp only [if_true,Option.bind_some,Bool.true_and]
  rw [ref21_Nodes_eq hL a1 (by omega) pa hN,ref21_Nodes_eq hL b1 (by omega) pb hN]
  simp only [Option.bind_some]
  rw [ref21_crosses_eq (by omega) (by omega) (by omega) hN,ref21_crosses_eq (by omega) (by omega) (by omega) hN]
  cases clearL (nodesL t a) (nodesL t b) <;> cases clearL (nodesL t b) (nodesL t a) <;> rfl
theorem route_Apart_eq {a b:List Int} (ha:a.length ≤ 100) (hb:b.length ≤ 100) (hN:200 ≤ N) :
  route_Apart N t a b=some (if errR t a=0 then (if validR t b then (apartB t a b,0) else (false,310)) else (false,errR t a)):=by
 unfold route_Apart route_ask_bool
 rw [route_Check_eq ha hN,Option.bind_some]
 by_cases he:errR t a=0
 ·obtain ⟨hT,hva⟩:=errR_ok.1 he
  have g:=topoB_good.1 hT
  rw [if_pos he,he]
  simp only [bne_self_eq_false,Bool.false_eq_true,if_false]
  unfold route_Apart_1
  rw [route_valid_eq g hb hN,Option.bind_some]
  cases hvb:validR t b with
  | false=>rfl
  | true =>
   simp only [Bool.not_true,Bool.false_eq_true,if_false,if_true]
   rw [route_shares_eq ha hb hN,route_meets_eq g hva hvb hN,route_meets_eq g hvb hva hN]
   unfold apartB
   cases apartL a b <;> cases clearL (nodesL t a) (nodesL t b) <;> cases clearL (nodesL t b) (nodesL t a) <;> rfl
 ·rw [if_neg he]
  have:(errR t a != 0)=true:=by simpa using he
  rw [this]
  rfl
end
end Go.Sh
