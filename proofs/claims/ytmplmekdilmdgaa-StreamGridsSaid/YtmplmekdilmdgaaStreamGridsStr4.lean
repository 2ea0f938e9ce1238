/- Part of the proof; written by a program out of the texts in wip/. -/
import Derived.Test.YtmplmekdilmdgaaStreamGridsStr3
import Derived.Test.YtmplmekdilmdgaaStreamGridsRd
import Derived.KernelRfl
set_option linter.unusedVariables false
set_option linter.unusedSimpArgs false
namespace Go.Sh
open Go Go.Eng
def T0:api_Topo:=⟨3,[true,false,true],[⟨0,1,8,5⟩,⟨1,2,8,5⟩]⟩
def U0:api_Setup:=⟨100,2,10,8000⟩
def S0:api_Stream:=⟨1,0,2,7,100,20,⟨0,0⟩,10000,[[0,2]]⟩
theorem T0_ok:topoB T0=true:=by kernel_rfl
theorem U0_ok:setupB U0=true:=by kernel_rfl
theorem S0_ok:streamB T0 S0=true:=by kernel_rfl
theorem works22 {N:Nat} (hN:200 ≤ N):law22_works N=some true:=by
 have e1:stream_Hops N T0 U0 S0 0=some ([⟨0,0,0,0,800⟩,⟨2,811,819,900,800⟩],0):=(stream_Hops_fine T0_ok U0_ok S0_ok (k:=0) rfl (by decide) (by decide) hN).trans (by kernel_rfl)
 have e2:stream_Told N T0 U0 S0 0=some (1715,0):=(stream_Told_fine T0_ok U0_ok S0_ok (k:=0) rfl (by decide) (by decide) hN).trans (by kernel_rfl)
 have e3:stream_Hops N T0 U0 S0 1=some ([],2):=(stream_Hops_bad (e:=2) ((stream_due_eq 1 hN).trans (by kernel_rfl)) (by decide)).1
 have c1:stream_Check N T0 ⟨1,0,1,7,100,20,⟨0,0⟩,10000,[[0,2]]⟩=some 321:=(stream_Check_eq hN).trans (by kernel_rfl)
 have c2:stream_Check N T0 ⟨1,0,2,7,83,20,⟨0,0⟩,10000,[[0,2]]⟩=some 321:=(stream_Check_eq hN).trans (by kernel_rfl)
 have c3:stream_Check N T0 ⟨1,0,2,7,100,20,⟨0,0⟩,10000,[[2,0]]⟩=some 321:=(stream_Check_eq hN).trans (by kernel_rfl)
 have c4:stream_Check N T0 S0=some 0:=(stream_Check_eq hN).trans (by kernel_rfl)
 have c5:stream_CheckAll N T0 [S0,S0]=some 322:=(stream_CheckAll_eq _ hN).trans (by kernel_rfl)
 unfold law22_works law22_line law22_setup law22_scheduled
 simp only [Option.bind_some]
 unfold T0 U0 S0 at e1 e2 e3
 unfold T0 at c1 c2 c3
 unfold T0 S0 at c4 c5
 simp only [e1,e2,e3,c1,c2,c3,c4,c5,Option.bind_some]
 rfl
section
variable {N:Nat} {t:api_Topo} {u:api_Setup} {s:api_Stream}
theorem hops_idx {α:Type} {n k:Nat} (f:Nat→α) (h:k < n):idx ((List.range n).map f) (k:Int)=some (f k):=by
 rw [idx_k (by simpa using h)]
 simp
theorem hop_next (g:Good t) (hu:SetOK u) (hs:SizeOK s) {r:List Int} (hp:∀ k,k < r.length→portB t (at0 r k)=true) {k:Nat} (hk:k + 1 < r.length) :
  (hopAt t u s r (k + 1)).Early=toldOf t u (hopAt t u s r k) - 2 * u.Slack∧(hopAt t u s r (k + 1)).Late=toldOf t u (hopAt t u s r k) + 2 * u.Slack ∧
  (hopAt t u s r (k + 1)).Late ≤ (hopAt t u s r (k + 1)).Open∧(hopAt t u s r (k + 1)).Open < (hopAt t u s r (k + 1)).Late + u.Grid∧(hopAt t u s r (k + 1)).Open % u.Grid=0∧(hopAt t u s r k).Open < (hopAt t u s r (k + 1)).Open:=by
 have hb:=hopAt_ok g hu hs hp k (by omega)
 obtain ⟨o1,o2,o3⟩:=hb.told g hu
 have h0:=hb.op1
 have c:=ceilG_ok hu (x:=toldOf t u (hopAt t u s r k) + 2 * u.Slack) (by have:=hu.s1; omega)
 have:=hu.s1
 refine ⟨rfl,rfl,c.1,c.2.1,c.2.2,?_⟩
 show _ < ceilG u (toldOf t u (hopAt t u s r k) + 2 * u.Slack)
 omega
theorem hop_bounds (g:Good t) (hu:SetOK u) (hs:SizeOK s) {r:List Int} (hp:∀ k,k < r.length→portB t (at0 r k)=true) (h8:r.length ≤ 8) {k:Nat} (hk:k < r.length) :
  0 ≤ (hopAt t u s r k).Open∧(hopAt t u s r k).Open ≤ 20000000∧0 ≤ toldOf t u (hopAt t u s r k)∧toldOf t u (hopAt t u s r k) ≤ 20000000:=by
 have hb:=hopAt_ok g hu hs hp k hk
 obtain ⟨o1,o2,o3⟩:=hb.told g hu
 have h0:=hb.op1
 have h1:=hb.op2
 omega
theorem grids_L3 (g:Good t) (hu:SetOK u) (hs:SizeOK s) {r:List Int} (hv:validR t r=true) (e:Int) (hN:200 ≤ N) :
  iterF (fun x:Int=>law22_StreamGrids_L3 N u ((List.range r.length).map (hopAt t u s r),e) x) N 1=some (.inl ()):=by
 obtain ⟨h1,h8,hp⟩:=ports_of hv
 have:=iterF_upto (n:=r.length) (body:=fun x:Int=>law22_StreamGrids_L3 N u ((List.range r.length).map (hopAt t u s r),e) x) (fin:=.inl ()) 1 (fun k k1 hk=>by
  simp only [law22_StreamGrids_L3]
  rw [if_pos (by simp; omega),hops_idx _ hk,Option.bind_some]
  obtain ⟨j,rfl⟩:∃ j,k=j + 1:=⟨k - 1,by omega⟩
  obtain ⟨n1,n2,n3,n4,n5,n6⟩:=hop_next g hu hs hp hk
  obtain ⟨b1,b2,b3,b4⟩:=hop_bounds g hu hs hp h8 hk
  obtain ⟨d1,d2,d3,d4⟩:=hop_bounds g hu hs hp h8 (k:=j) (by omega)
  have s1:=hu.s1; have s2:=hu.s2; have g1:=hu.g1; have g2:=hu.g2
  have x1:(w64 ((hopAt t u s r (j + 1)).Late - (hopAt t u s r (j + 1)).Early) != w64 (4 * u.Slack))=false:=by
   rw [n1,n2,show toldOf t u (hopAt t u s r j) + 2 * u.Slack - (toldOf t u (hopAt t u s r j) - 2 * u.Slack)=4 * u.Slack by omega]
   simp
  have x2:remI (hopAt t u s r (j + 1)).Open u.Grid=some 0:=by
   rw [remI_pos (by omega),Int.tmod_eq_emod_of_nonneg b1,n5]
  have x3:idx ((List.range r.length).map (hopAt t u s r)) (w64 (((j + 1:Nat):Int) - 1))=some (hopAt t u s r j):=by
   rw [w64_id (by omega) (by omega),show ((j + 1:Nat):Int) - 1=(j:Int) by omega,hops_idx _ (by omega)]
  rw [x1,x2,x3]
  simp only [Bool.false_eq_true,if_false,Option.bind_some,bne_self_eq_false]
  rw [w64_id (x:=(hopAt t u s r (j + 1)).Open - u.Grid) (by omega) (by omega)]
  rw [if_neg (by simp only [decide_eq_true_eq]; omega),if_neg (by simp only [decide_eq_true_eq]; omega),Option.bind_some,if_neg (by simp only [decide_eq_true_eq]; omega),w64_succ (by omega)]) (by
  simp only [law22_StreamGrids_L3]
  rw [if_neg (by simp)]) h1 (N:=N) (by omega)
 exact this
def ways (s:api_Stream):Nat:=if s.Class=7 then s.Routes.length else 0
theorem ways_cond {l:List api_Stream} {i:Nat} (hi:i < l.length) {j:Nat} (hj:j ≤ ways l[i]) :
  ((idx l (i:Int)).bind fun e1012=>(if (decide ((j:Int) < ((List.length e1012.Routes:Nat):Int))) then ((idx l (i:Int)).bind fun e1014=>(some (e1014.Class == 7))) else (some false)))=some (decide (j < ways l[i])):=by
 rw [idx_k hi]
 simp only [Option.bind_some]
 unfold ways at hj ⊢
 by_cases hc:l[i].Class=7
 ·rw [if_pos hc] at hj ⊢
  by_cases h:j < l[i].Routes.length
  ·rw [if_pos (by simp; omega),hc,decide_eq_true h]; rfl
  ·rw [if_neg (by simp; omega),decide_eq_false h]
 ·rw [if_neg hc] at hj ⊢
  have e7:(l[i].Class == 7)=false:=by simpa using hc
  rw [e7]
  by_cases h:j < l[i].Routes.length
  ·rw [if_pos (by simp; omega)]; simp
  ·rw [if_neg (by simp; omega)]; simp
theorem ways_lt {s:api_Stream} {j:Nat} (h:j < ways s):s.Class=7∧j < s.Routes.length:=by
 unfold ways at h
 by_cases hc:s.Class=7
 ·rw [if_pos hc] at h; exact ⟨hc,h⟩
 ·rw [if_neg hc] at h; omega
theorem ways_le (h:streamB t s=true):ways s ≤ 2:=by
 have:=(streamB_routes h).1.2
 unfold ways
 split <;> omega
theorem grids_L2 (hT:topoB t=true) (hU:setupB u=true) {l:List api_Stream} {i:Nat} (hi:i < l.length) (hs:streamB t l[i]=true) (hN:200 ≤ N) :
  iterF (fun x:Int=>law22_StreamGrids_L2 N t u l (i:Int) x) N 0=some (.inl ()):=by
 have hw:=ways_le hs
 have:=iterF_upto (n:=ways l[i]) (body:=fun x:Int=>law22_StreamGrids_L2 N t u l (i:Int) x) (fin:=.inl ()) 0 (fun j _ hj=>by
  simp only [law22_StreamGrids_L2]
  obtain ⟨hc,hjr⟩:=ways_lt hj
  obtain ⟨q1,q2⟩:=routeK_ok hs (k:=(j:Int)) (by omega) (by omega)
  obtain ⟨h1,h8,hp⟩:=ports_of q2
  rw [ways_cond hi (by omega),Option.bind_some,decide_eq_true hj,if_pos rfl,idx_k hi,Option.bind_some,stream_Hops_fine hT hU hs hc (by omega) (by omega) hN,Option.bind_some]
  have z:idx ((List.range (routeK l[i] (j:Int)).length).map (hopAt t u l[i] (routeK l[i] (j:Int)))) 0=some (hopAt t u l[i] (routeK l[i] (j:Int)) 0):=hops_idx (k:=0) _ (by omega)
  simp only [bne_self_eq_false,Bool.false_eq_true,if_false]
  rw [z]
  have l0:((((List.map (hopAt t u l[i] (routeK l[i] (j:Int))) (List.range (routeK l[i] (j:Int)).length)).length:Nat):Int) == 0)=false:=by
   simp only [List.length_map,List.length_range,beq_eq_false_iff_ne,ne_eq]; omega
  rw [l0]
  have z1:(hopAt t u l[i] (routeK l[i] (j:Int)) 0).Early=0:=rfl
  have z2:(hopAt t u l[i] (routeK l[i] (j:Int)) 0).Late=0:=rfl
  have z3:(hopAt t u l[i] (routeK l[i] (j:Int)) 0).Open=0:=rfl
  simp only [Bool.false_eq_true,if_false,Option.bind_some,z1,z2,z3,bne_self_eq_false]
  rw [grids_L3 (topoB_good.1 hT) (setupB_ok hU) (streamB_size hs) q2 0 hN,Option.bind_some,w64_succ (by omega)]) (by
  simp only [law22_StreamGrids_L2]
  rw [ways_cond hi (Nat.le_refl _)]
  simp) (Nat.zero_le _) (N:=N) (by omega)
 exact this
theorem grids_L1 (hT:topoB t=true) (hU:setupB u=true) {l:List api_Stream} (hl:SL t l) (hN:200 ≤ N) :
  iterF (fun x:Int=>law22_StreamGrids_L1 N t u l x) N 0=some (.inl ()):=by
 have h6:=hl.len
 have:=iterF_upto (n:=l.length) (body:=fun x:Int=>law22_StreamGrids_L1 N t u l x) (fin:=.inl ()) 0 (fun k _ hk=>by
  simp only [law22_StreamGrids_L1]
  have hs:=(hl.ok k hk).1
  rw [getD_k hk] at hs
  rw [if_pos (by simp; omega),idx_k hk,Option.bind_some,stream_Check_eq hN,hT,hs,Option.bind_some]
  simp only [if_true,bne_self_eq_false,Bool.false_eq_true,if_false]
  rw [grids_L2 hT hU hk hs hN,Option.bind_some,w64_succ (by omega)]) (by
  simp only [law22_StreamGrids_L1]
  rw [if_neg (by simp)]) (Nat.zero_le _) (N:=N) (by omega)
 exact this
theorem SL.all {l:List api_Stream} (hT:topoB t=true) (h:SL t l):allR t l=0:=by
 unfold allR
 have h6:=h.len
 have a1:l.all (streamB t)=true:=by
  rw [List.all_eq_true]
  intro x hx
  obtain ⟨k,hk,rfl⟩:=List.getElem_of_mem hx
  have:=(h.ok k hk).1
  rwa [getD_k hk] at this
 have a2:allB l.length (newId l)=true:=by
  rw [allB_iff]
  intro k hk
  unfold newId
  rw [Bool.not_eq_true',Bool.eq_false_iff,ne_eq,List.any_eq_true]
  rintro ⟨j,hj,he⟩
  rw [List.mem_range] at hj
  rw [beq_iff_eq,(h.ok k hk).2,(h.ok j (by omega)).2] at he
  omega
 rw [hT,if_pos rfl,if_pos (by omega),a1,if_pos rfl,a2,if_pos rfl]
theorem SDOK.of {d:ref22_Draft} (h:Rg_ref22_Draft d):SDOK d:=by
 obtain ⟨_,_,h1,h2,h3,h4,h5,h6⟩:=h
 refine ⟨byte_of h1,byte_of h2,byte_of h3,byte_of h4,byte_of h5,?_⟩
 simpa [InK,Lit.wf,IntKind.min,IntKind.max,IntKind.signed,IntKind.bits] using h6
structure Cs (N:Nat) (c:law22_Case) (t:api_Topo) (u:api_Setup) (l:List api_Stream):Prop where
 topo:ref16_Draft_Topo N c.T=some t
 tB:topoB t=true
 setup:ref22_SetupOf N c.U.x0 c.U.x1 c.U.x2=some u
 uB:setupB u=true
 str:ref22_Streams N t c.L=some l
 sl:SL t l
theorem case_ok {c:law22_Case} (hc:Rg_law22_Case c) (hN:200 + c.L.length ≤ N):∃ t u l,Cs N c t u l:=by
 obtain ⟨h1,⟨h2,h3⟩,h4,_⟩:=hc
 obtain ⟨t,t1,t2,t3⟩:=draft_good (N:=N) (DOK.of h1) (by omega)
 obtain ⟨u,u1,u2⟩:=ref22_SetupOf_fine (N:=N) (byte_of h4.1) (byte_of h4.2.1) (byte_of h4.2.2)
 obtain ⟨l,l1,l2⟩:=ref22_Streams_fine (N:=N) t2 t3 (fun d hd=>SDOK.of (h3 d hd)) h2 hN
 exact ⟨t,u,l,t1,topoB_good.2 t2,u1,u2,l1,l2⟩
theorem StreamGrids_law (c:law22_Case) (hc:Rg_law22_Case c):∃ N,law22_StreamGrids N c=some true:=by
 refine ⟨200 + c.L.length,?_⟩
 obtain ⟨t,u,l,h⟩:=case_ok (N:=200 + c.L.length) hc (Nat.le_refl _)
 unfold law22_StreamGrids
 rw [works22 (by omega),Option.bind_some,if_neg (by simp),h.topo,Option.bind_some,h.setup,Option.bind_some,h.str,Option.bind_some,grids_L1 h.tB h.uB h.sl (by omega),Option.bind_some]
 simp only
 rw [stream_CheckAll_eq _ (by omega),Option.bind_some,h.sl.all h.tB]
 rfl
end
end Go.Sh

