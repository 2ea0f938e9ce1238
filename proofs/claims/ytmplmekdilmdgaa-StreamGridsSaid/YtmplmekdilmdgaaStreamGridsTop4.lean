/- Part of the proof; written by a program out of the texts in wip/. -/
import Derived.Test.YtmplmekdilmdgaaStreamGridsTop3
import Derived.Test.YtmplmekdilmdgaaStreamGridsRd
import Derived.KernelRfl
set_option linter.unusedVariables false
set_option linter.unusedSimpArgs false
namespace Go.Sh
open Go Go.Eng
theorem iterF_allR {ρ:Type} {n:Nat} {p:Nat→Bool} {body:Int→Option (Int ⊕ ρ)} {bad fin:ρ} (hstep:∀ k:Nat,k < n→body (k:Int)=if p k=true then some (.inl ((k + 1:Nat):Int)) else some (.inr bad))
  (hend:body (n:Int)=some (.inr fin)):∀ (m N k:Nat),n - k=m→k ≤ n→m < N→iterF body N (k:Int)=some (if (List.range' k m).all p then fin else bad):=by
 intro m
 induction m with
 | zero =>
  intro N k h1 h2 h3
  obtain rfl:k=n:=by omega
  cases N with
  | zero=>omega
  | succ N=>rw [iterF_inr hend]; rfl
 | succ m ih =>
  intro N k h1 h2 h3
  cases N with
  | zero=>omega
  | succ N =>
   rw [List.range'_succ,List.all_cons]
   by_cases hp:p k=true
   ·rw [iterF_inl (by rw [hstep k (by omega),if_pos hp]),ih N (k + 1) (by omega) (by omega) (by omega),hp,Bool.true_and]
   ·rw [iterF_inr (by rw [hstep k (by omega),if_neg hp])]
    simp [hp]
section
variable {N:Nat} {t:api_Topo}
theorem make0 {b:Nat} {c:Int} (h0:0 ≤ c) (h1:c ≤ 1000) (hb:b ≤ 1000):makeI b 0 c (0:Int)=some []:=by
 unfold makeI
 have:c * (b:Int) ≤ 1000 * 1000:=Int.mul_le_mul h1 (by omega) (by omega) (by omega)
 rw [if_pos ⟨Int.le_refl _,h0,by omega,by omega⟩]
 rfl
theorem ports_of {r:List Int} (h:validR t r=true):1 ≤ r.length∧r.length ≤ 8∧∀ k,k < r.length→portB t (at0 r k)=true:=by
 simp only [validR,Bool.and_eq_true,decide_eq_true_eq,allB_iff] at h
 exact ⟨h.1,h.2.1,fun k hk=>by have:=h.2.2 k hk; simp only [okAt,Bool.and_eq_true] at this; exact this.1⟩
theorem route_nodes_eq (g:Good t) {r:List Int} (hv:validR t r=true) (hN:200 ≤ N):route_walk_nodes N ⟨t⟩ r=some (nodesL t r):=by
 have hL:t.Links.length ≤ 1000:=by have:=g.l24; omega
 obtain ⟨h1,h8,hp⟩:=ports_of hv
 have hlen:=nodesL_len (t:=t) r
 unfold route_walk_nodes
 rw [w64_id (by omega) (by omega),make0 (by omega) (by omega) (by omega),Option.bind_some]
 unfold route_walk_hops route_walk_hops_1
 simp only [Option.bind_some]
 have:=iterF_fold (n:=r.length) (f:=fun b k=>(nodesL t r).take (k + 2))
  (body:=fun x:Int × (List Int)=>route_walk_hops_1_L1 N (fun (s:(List Int)) (x13:Int) (x14:route_hop)=>yieldT (fun v:(List Int)=>route_walk_nodes_R1 N v x13 x14) s) r ⟨t⟩ x.1 x.2) (fin:=fun b=>b) (fun k b=>b=if k=0 then [] else (nodesL t r).take (k + 1))
  (fun k b hk hb=>by
   show route_walk_hops_1_L1 N _ r ⟨t⟩ k b=_
   rw [hops_step hL _ _ hk (by omega),if_pos (hp k hk)]
   have:route_walk_nodes_R1 N b (k:Int) ⟨at0 r k,frm t (at0 r k),too t (at0 r k)⟩=some ((nodesL t r).take (k + 2)):=by
    unfold route_walk_nodes_R1
    subst hb
    by_cases hk0:k=0
    ·subst hk0
     rw [if_pos (by simp),if_pos rfl,app_eq (by simp) (by omega),Option.bind_some,Option.bind_some,app_eq (by simp) (by omega),Option.bind_some,← nd_succ hk]
     unfold nd nodesL
     obtain ⟨a,l,rfl⟩:∃ a l,r=a :: l:=by cases r with
      | nil=>simp at hk
      | cons a l=>exact ⟨a,l,rfl⟩
     simp
    ·rw [if_neg (by simp; omega),if_neg hk0,Option.bind_some,app_eq (by simp; omega) (by omega),Option.bind_some,← nd_succ hk,take_succ_nodes (k:=k + 1) (by omega)]
   simp only [yieldT,this,Option.map_some,Option.bind_some]
   rfl)
  (fun k b hk hb=>by rw [if_neg (by omega)])
  (fun b hb=>hops_end _ _) (N:=N) (by omega) (b0:=[]) (by rw [if_pos rfl])
 rw [this.1,Option.bind_some,Option.bind_some,this.2,if_neg (by omega),List.take_of_length_le (by omega)]
def errR (t:api_Topo) (r:List Int):Int:=if topoB t then (if validR t r then 0 else 310) else 260
theorem route_Check_eq {r:List Int} (h12:r.length ≤ 100) (hN:200 ≤ N):route_Check N t r=some (errR t r):=by
 unfold route_Check errR
 rw [topo_Check_eq (by omega),Option.bind_some]
 cases hT:topoB t with
 | false=>rfl
 | true =>
  simp only [if_true,bne_self_eq_false,Bool.false_eq_true,if_false]
  rw [route_valid_eq (topoB_good.1 hT) h12 hN,Option.bind_some]
  cases validR t r <;> rfl
theorem errR_ok {r:List Int}:errR t r=0↔topoB t=true∧validR t r=true:=by
 unfold errR
 cases topoB t <;> cases validR t r <;> simp
section
variable {r:List Int}
theorem route_Nodes_bad (h12:r.length ≤ 100) (hN:200 ≤ N) (he:errR t r ≠ 0):route_Nodes N t r=some ([],errR t r):=by
 unfold route_Nodes route_ask__int
 rw [route_Check_eq h12 hN]
 simp [he]
theorem route_Ends_bad (h12:r.length ≤ 100) (hN:200 ≤ N) (he:errR t r ≠ 0):route_Ends N t r=some (0,0,errR t r):=by
 unfold route_Ends
 rw [route_Nodes_bad h12 hN he]
 simp [he]
theorem route_Nodes_val (h12:r.length ≤ 100) (hN:200 ≤ N) (he:errR t r=0):route_Nodes N t r=some (nodesL t r,0):=by
 obtain ⟨hT,hv⟩:=errR_ok.1 he
 unfold route_Nodes route_ask__int route_Nodes_1
 rw [route_Check_eq h12 hN,he]
 simp only [Option.bind_some,bne_self_eq_false,Bool.false_eq_true,if_false]
 rw [route_nodes_eq (topoB_good.1 hT) hv hN]
 rfl
theorem route_Ends_val (h12:r.length ≤ 100) (hN:200 ≤ N) (he:errR t r=0):route_Ends N t r=some (nd t r 0,nd t r r.length,0):=by
 have hlen:=nodesL_len (t:=t) r
 unfold route_Ends
 rw [route_Nodes_val h12 hN he]
 simp only [Option.bind_some,bne_self_eq_false,Bool.false_eq_true,if_false]
 rw [show (0:Int)=((0:Nat):Int) from rfl,idx_k (show 0 < (nodesL t r).length by omega),w64_id (by omega) (by omega),show ((nodesL t r).length:Int) - 1=((r.length:Nat):Int) by omega,idx_k (by omega),nd_get,nd_get]
 rfl
end
end
end Go.Sh
