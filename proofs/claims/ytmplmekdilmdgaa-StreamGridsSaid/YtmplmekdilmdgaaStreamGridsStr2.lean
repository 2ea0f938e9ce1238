/- Part of the proof; written by a program out of the texts in wip/. -/
import Derived.Test.YtmplmekdilmdgaaStreamGridsStr1
set_option linter.unusedVariables false
set_option linter.unusedSimpArgs false
namespace Go.Sh
open Go Go.Eng
theorem mgetD_msetL {κ υ:Type} [DecidableEq κ] (l:List (κ × υ)) (x y:κ) (v z:υ):mgetD (msetL l x v) y z=if y=x then v else mgetD l y z:=by
 induction l with
 | nil =>
  unfold mgetD mgetL
  simp only [msetL,List.find?_cons,List.find?_nil]
  by_cases e:x=y
  ·subst e; simp
  ·simp [e,Ne.symm e]
 | cons p r ih =>
  unfold mgetD mgetL at ih ⊢
  simp only [msetL]
  by_cases e:p.1=x
  ·subst e
   simp only [if_true,List.find?_cons]
   by_cases e:p.1=y
   ·subst e; simp
   ·simp [e,Ne.symm e]
  ·simp only [e,if_false,List.find?_cons]
   by_cases e2:p.1=y
   ·subst e2; simp [e]
   ·simp only [e2,decide_false]
    exact ih
structure SetOK (u:api_Setup):Prop where
 g1:1 ≤ u.Grid
 g2:u.Grid ≤ 10000
 s1:0 ≤ u.Slack
 s2:u.Slack ≤ 1000
 p1:0 ≤ u.Proc
 p2:u.Proc ≤ 10000
theorem setupB_ok {u:api_Setup} (h:setupB u=true):SetOK u:=by
 simp only [setupB,inB,Bool.and_eq_true,decide_eq_true_eq] at h
 obtain ⟨⟨a,b⟩,⟨c,d⟩,⟨e,f⟩,_⟩:=h
 exact ⟨a,b,c,d,e,f⟩
def toldOf (t:api_Topo) (u:api_Setup) (h:api_Hop):Int:=h.Open + h.Long + (plk t h.Port).Delay + u.Proc
def hop0 (t:api_Topo) (s:api_Stream) (r:List Int):api_Hop:=⟨at0 r 0,0,0,0,s.Size * (plk t (at0 r 0)).Per⟩
def ceilG (u:api_Setup) (x:Int):Int:=(x + u.Grid - 1) / u.Grid * u.Grid
def hopN (t:api_Topo) (u:api_Setup) (s:api_Stream) (h:api_Hop) (p:Int):api_Hop :=
 ⟨p,toldOf t u h - 2 * u.Slack,toldOf t u h + 2 * u.Slack,ceilG u (toldOf t u h + 2 * u.Slack),s.Size * (plk t p).Per⟩
def hopAt (t:api_Topo) (u:api_Setup) (s:api_Stream) (r:List Int):Nat→api_Hop
 | 0=>hop0 t s r
 | k + 1=>hopN t u s (hopAt t u s r k) (at0 r (k + 1))
theorem ceilG_ok {u:api_Setup} (h:SetOK u) {x:Int} (hx:0 ≤ x):x ≤ ceilG u x∧ceilG u x < x + u.Grid∧ceilG u x % u.Grid=0:=by
 unfold ceilG
 have hg:=h.g1
 have e:=Int.mul_ediv_add_emod (x + u.Grid - 1) u.Grid
 have e1:=Int.emod_nonneg (x + u.Grid - 1) (show u.Grid ≠ 0 by omega)
 have e2:=Int.emod_lt_of_pos (x + u.Grid - 1) (show 0 < u.Grid by omega)
 rw [Int.mul_comm] at e
 refine ⟨by omega,by omega,?_⟩
 exact Int.mul_emod_left _ _
section
variable {N:Nat} {t:api_Topo} {u:api_Setup} {s:api_Stream}
theorem plk_bounds (g:Good t) {p:Int} (hp:portB t p=true):1 ≤ (plk t p).Per∧(plk t p).Per ≤ 1000∧0 ≤ (plk t p).Delay∧(plk t p).Delay ≤ 10000:=by
 obtain ⟨h1,h2⟩:=plk_lt hp
 have:=(g.links (Int.tdiv p 2).toNat (by omega)).1
 simp only [linkB,Bool.and_eq_true,decide_eq_true_eq] at this
 exact ⟨this.2.2.2.2.1,this.2.2.2.2.2.1,this.2.2.2.2.2.2.1,this.2.2.2.2.2.2.2⟩
def SizeOK (s:api_Stream):Prop:=84 ≤ s.Size∧s.Size ≤ 1542
theorem long_ok (g:Good t) (hs:SizeOK s) {p:Int} (hp:portB t p=true):84 ≤ s.Size * (plk t p).Per∧s.Size * (plk t p).Per ≤ 1542000:=by
 obtain ⟨h1,h2,_,_⟩:=plk_bounds g hp
 obtain ⟨a,b⟩:=hs
 have c:s.Size * 1 ≤ s.Size * (plk t p).Per:=Int.mul_le_mul_of_nonneg_left h1 (by omega)
 have d:s.Size * (plk t p).Per ≤ s.Size * 1000:=Int.mul_le_mul_of_nonneg_left h2 (by omega)
 omega
structure HB (t:api_Topo) (k:Nat) (h:api_Hop):Prop where
 port:portB t h.Port=true
 long1:84 ≤ h.Long
 long2:h.Long ≤ 1542000
 op1:0 ≤ h.Open
 op2:h.Open ≤ 1600000 * (k:Int)
theorem HB.told (g:Good t) (hu:SetOK u) {k:Nat} {h:api_Hop} (hb:HB t k h):h.Open + 84 ≤ toldOf t u h∧toldOf t u h ≤ 1600000 * (k:Int) + 1562000∧h.Open + h.Long ≤ toldOf t u h:=by
 obtain ⟨h1,h2,h3,h4,h5⟩:=hb
 obtain ⟨_,_,d1,d2⟩:=plk_bounds g h1
 have:=hu.p1; have:=hu.p2
 unfold toldOf
 omega
theorem hopAt_port (k:Nat) (r:List Int):(hopAt t u s r k).Port=at0 r k:=by cases k <;> rfl
theorem hopAt_long (k:Nat) (r:List Int):(hopAt t u s r k).Long=s.Size * (plk t (at0 r k)).Per:=by cases k <;> rfl
theorem hopAt_ok (g:Good t) (hu:SetOK u) (hs:SizeOK s) {r:List Int} (hp:∀ k,k < r.length→portB t (at0 r k)=true):∀ k,k < r.length→HB t k (hopAt t u s r k)
 | 0,hk=>by
  have:=long_ok g hs (hp 0 hk)
  exact ⟨hp 0 hk,this.1,this.2,Int.le_refl 0,by simp [hopAt,hop0]⟩
 | k + 1,hk=>by
  have ih:=hopAt_ok g hu hs hp k (by omega)
  have:=long_ok g hs (hp (k + 1) hk)
  have ht:=ih.told g hu
  have h0:=ih.op1
  have c:=ceilG_ok hu (x:=toldOf t u (hopAt t u s r k) + 2 * u.Slack) (by have:=hu.s1; omega)
  have:=hu.s1; have:=hu.s2; have:=hu.g2
  refine ⟨hp (k + 1) hk,?_,?_,?_,?_⟩
  ·show 84 ≤ s.Size * (plk t (at0 r (k + 1))).Per; omega
  ·show s.Size * (plk t (at0 r (k + 1))).Per ≤ 1542000; omega
  ·show 0 ≤ ceilG u (toldOf t u (hopAt t u s r k) + 2 * u.Slack); omega
  ·show ceilG u (toldOf t u (hopAt t u s r k) + 2 * u.Slack) ≤ 1600000 * ((k + 1:Nat):Int); omega
def stAt (t:api_Topo) (u:api_Setup) (s:api_Stream) (r:List Int):Nat→api_Hop
 | 0=>⟨0,0,0,0,0⟩
 | k + 1=>hopAt t u s r k
theorem hops_next {σ:Type} (g:Good t) (hu:SetOK u) (hs:SizeOK s) {r:List Int} (h8:r.length ≤ 8) (hp:∀ k,k < r.length→portB t (at0 r k)=true) {k:Nat} (hk:k < r.length) {y:σ→api_Hop→Option (σ × Bool)} {b b':σ}
  (hy:y b (hopAt t u s r k)=some (b',true)):stream_hops_1_L1 N y s t u r (k:Int) (stAt t u s r k).Port (stAt t u s r k).Early (stAt t u s r k).Late (stAt t u s r k).Open (stAt t u s r k).Long b =
   some (.inl (((k + 1:Nat):Int),(hopAt t u s r k).Port,(hopAt t u s r k).Early,(hopAt t u s r k).Late,(hopAt t u s r k).Open,(hopAt t u s r k).Long,b')):=by
 have hL:t.Links.length ≤ 1000:=by have:=g.l24; omega
 have hlen:=long_ok g hs (hp k hk)
 have hb:=hopAt_ok g hu hs hp k hk
 unfold stream_hops_1_L1
 rw [if_pos (by simp; omega),idx_k hk,Option.bind_some]
 have hat:r[k]=at0 r k:=(at0_k hk).symm
 have key:(if decide ((k:Int) > 0)=true then (idx t.Links (w64 (Int.tdiv (stAt t u s r k).Port 2))).bind fun e1020 =>
    (quoI .i64 (w64 ((w64 ((w64 ((w64 ((w64 ((w64 ((stAt t u s r k).Open + (stAt t u s r k).Long)) + e1020.Delay)) + u.Proc)) + (w64 (2 * u.Slack)))) + u.Grid)) - 1)) u.Grid).bind fun q1026 =>
    (some ((w64 ((w64 ((w64 ((w64 ((stAt t u s r k).Open + (stAt t u s r k).Long)) + e1020.Delay)) + u.Proc)) - (w64 (2 * u.Slack)))),(w64 ((w64 ((w64 ((w64 ((stAt t u s r k).Open + (stAt t u s r k).Long)) + e1020.Delay)) + u.Proc)) + (w64 (2 * u.Slack)))),(w64 (q1026 * u.Grid))))
   else some ((stAt t u s r k).Early,(stAt t u s r k).Late,(stAt t u s r k).Open))=some ((hopAt t u s r k).Early,(hopAt t u s r k).Late,(hopAt t u s r k).Open):=by
  cases k with
  | zero=>rw [if_neg (by simp)]; rfl
  | succ j =>
   rw [if_pos (by simp only [decide_eq_true_eq]; omega)]
   have hbj:=hopAt_ok g hu hs hp j (by omega)
   obtain ⟨o1,o2,o3⟩:=hbj.told g hu
   obtain ⟨_,_,d1,d2⟩:=plk_bounds g hbj.port
   obtain ⟨g1,g2,s1,s2,p1,p2⟩:=hu
   have l1:=hbj.long1; have l2:=hbj.long2; have l3:=hbj.op1; have l4:=hbj.op2
   have hj:(j:Int) ≤ 8:=by omega
   show ((idx t.Links (w64 (Int.tdiv (hopAt t u s r j).Port 2))).bind fun e1020=>_)=_
   rw [plk_eq hL hbj.port,Option.bind_some]
   have e1:w64 ((hopAt t u s r j).Open + (hopAt t u s r j).Long)=(hopAt t u s r j).Open + (hopAt t u s r j).Long:=w64_id (by omega) (by omega)
   have e2:w64 ((hopAt t u s r j).Open + (hopAt t u s r j).Long + (plk t (hopAt t u s r j).Port).Delay)=(hopAt t u s r j).Open + (hopAt t u s r j).Long + (plk t (hopAt t u s r j).Port).Delay:=w64_id (by omega) (by omega)
   have e3:w64 ((hopAt t u s r j).Open + (hopAt t u s r j).Long + (plk t (hopAt t u s r j).Port).Delay + u.Proc)=toldOf t u (hopAt t u s r j):=w64_id (by omega) (by omega)
   have e4:w64 (2 * u.Slack)=2 * u.Slack:=w64_id (by omega) (by omega)
   simp only [stAt,e1,e2,e3,e4]
   have e5:w64 (toldOf t u (hopAt t u s r j) + 2 * u.Slack)=toldOf t u (hopAt t u s r j) + 2 * u.Slack:=w64_id (by omega) (by omega)
   have e6:w64 (toldOf t u (hopAt t u s r j) - 2 * u.Slack)=toldOf t u (hopAt t u s r j) - 2 * u.Slack:=w64_id (by omega) (by omega)
   have e7:w64 (toldOf t u (hopAt t u s r j) + 2 * u.Slack + u.Grid)=toldOf t u (hopAt t u s r j) + 2 * u.Slack + u.Grid:=w64_id (by omega) (by omega)
   have e8:w64 (toldOf t u (hopAt t u s r j) + 2 * u.Slack + u.Grid - 1)=toldOf t u (hopAt t u s r j) + 2 * u.Slack + u.Grid - 1:=w64_id (by omega) (by omega)
   rw [e5,e6,e7,e8,quoI_pos (by omega),Option.bind_some]
   have hn:0 ≤ toldOf t u (hopAt t u s r j) + 2 * u.Slack + u.Grid - 1:=by omega
   rw [Int.tdiv_eq_ediv_of_nonneg hn]
   have q1:0 ≤ (toldOf t u (hopAt t u s r j) + 2 * u.Slack + u.Grid - 1) / u.Grid:=Int.ediv_nonneg hn (by omega)
   have q2:(toldOf t u (hopAt t u s r j) + 2 * u.Slack + u.Grid - 1) / u.Grid ≤ toldOf t u (hopAt t u s r j) + 2 * u.Slack + u.Grid - 1:=Int.ediv_le_self _ hn
   have e9:IntKind.i64.wrap ((toldOf t u (hopAt t u s r j) + 2 * u.Slack + u.Grid - 1) / u.Grid)=(toldOf t u (hopAt t u s r j) + 2 * u.Slack + u.Grid - 1) / u.Grid:=w64_id (by omega) (by omega)
   have c:=ceilG_ok ⟨g1,g2,s1,s2,p1,p2⟩ (x:=toldOf t u (hopAt t u s r j) + 2 * u.Slack) (by omega)
   have e10:w64 ((toldOf t u (hopAt t u s r j) + 2 * u.Slack + u.Grid - 1) / u.Grid * u.Grid)=ceilG u (toldOf t u (hopAt t u s r j) + 2 * u.Slack):=w64_id (by unfold ceilG at c; omega) (by unfold ceilG at c; omega)
   rw [e9,e10]
   rfl
 rw [key,Option.bind_some,hat,plk_eq hL (hp k hk),Option.bind_some]
 have e11:w64 (s.Size * (plk t (at0 r k)).Per)=s.Size * (plk t (at0 r k)).Per:=w64_id (by omega) (by omega)
 have e12:(api_Hop.mk (at0 r k) (hopAt t u s r k).Early (hopAt t u s r k).Late (hopAt t u s r k).Open (s.Size * (plk t (at0 r k)).Per))=hopAt t u s r k:=by
  cases k <;> rfl
 rw [e11]
 simp only
 rw [e12,hy,Option.bind_some,w64_succ (by omega)]
 simp only [Bool.not_true,Bool.false_eq_true,if_false,hopAt_port,hopAt_long]
theorem hops_all {σ:Type} (g:Good t) (hu:SetOK u) (hs:SizeOK s) {r:List Int} (hr:validR t r=true) {y:σ→api_Hop→Option (σ × Bool)} (G:Nat→σ) (hy:∀ k,k < r.length→y (G k) (hopAt t u s r k)=some (G (k + 1),true)) {kk:Int}
  (hk:idx s.Routes kk=some r) (hN:200 ≤ N):stream_hops_1 N y s kk t u (G 0)=some (G r.length):=by
 obtain ⟨h1,h8,hp⟩:=ports_of hr
 unfold stream_hops_1
 rw [hk,Option.bind_some]
 have key:∀ (M m N k:Nat),r.length - k=m→k ≤ r.length→m < N→iterF (fun x:Int × Int × Int × Int × Int × Int × σ=>stream_hops_1_L1 M y s t u r x.1 x.2.1 x.2.2.1 x.2.2.2.1 x.2.2.2.2.1 x.2.2.2.2.2.1 x.2.2.2.2.2.2) N ((k:Int),(stAt t u s r k).Port,(stAt t u s r k).Early,(stAt t u s r k).Late,(stAt t u s r k).Open,(stAt t u s r k).Long,G k)=some (.inl (G r.length)):=by
  intro M m
  induction m with
  | zero =>
   intro N k e1 e2 e3
   obtain rfl:k=r.length:=by omega
   cases N with
   | zero=>omega
   | succ N =>
    rw [iterF_inr (r:=(.inl (G r.length)))]
    show stream_hops_1_L1 _ y s t u r ((r.length:Nat):Int) _ _ _ _ _ _=_
    unfold stream_hops_1_L1
    rw [if_neg (by simp)]
  | succ m ih =>
   intro N k e1 e2 e3
   cases N with
   | zero=>omega
   | succ N =>
    have hst:=hops_next (N:=M) g hu hs h8 hp (k:=k) (by omega) (hy k (by omega))
    rw [iterF_inl (y:=(((k + 1:Nat):Int),(hopAt t u s r k).Port,(hopAt t u s r k).Early,(hopAt t u s r k).Late,(hopAt t u s r k).Open,(hopAt t u s r k).Long,G (k + 1))) hst]
    exact ih N (k + 1) (by omega) (by omega) (by omega)
 have:=key N r.length N 0 (by omega) (by omega) (by omega)
 rw [show ((0:Nat):Int)=0 from rfl] at this
 have e:(iterF (fun x:Int × Int × Int × Int × Int × Int × σ=>stream_hops_1_L1 N y s t u r x.1 x.2.1 x.2.2.1 x.2.2.2.1 x.2.2.2.2.1 x.2.2.2.2.2.1 x.2.2.2.2.2.2) N (0,0,0,0,0,0,G 0))=some (.inl (G r.length)):=this
 rw [e]
 rfl
theorem stream_due_eq (k:Int) (hN:200 ≤ N):stream_due N t u s k=some (if topoB t then (if setupB u then (if streamB t s then (if s.Class=7∧0 ≤ k∧k < s.Routes.length then 0 else 2) else 321) else 320) else 260):=by
 unfold stream_due
 rw [topo_Check_eq (by omega),Option.bind_some]
 cases hT:topoB t with
 | false=>rfl
 | true =>
  simp only [if_true,bne_self_eq_false,Bool.false_eq_true,if_false]
  rw [stream_CheckSetup_eq,Option.bind_some]
  cases hU:setupB u with
  | false=>rfl
  | true =>
   simp only [if_true,bne_self_eq_false,Bool.false_eq_true,if_false]
   rw [stream_valid_eq (topoB_good.1 hT) s hN,Option.bind_some]
   cases hS:streamB t s with
   | false=>rfl
   | true =>
    rw [if_neg (by simp:¬ (!true)=true),if_pos (rfl:true=true)]
    have hl:1 ≤ s.Routes.length∧s.Routes.length ≤ 2:=by
     simp only [streamB,lenB,Bool.and_eq_true,decide_eq_true_eq] at hS
     exact hS.2.2.1
    rw [w64_id (by omega) (by omega),stream_between_eq]
    have hb:inB k 0 ((s.Routes.length:Int) - 1)=decide (0 ≤ k∧k < (s.Routes.length:Int)):=by
     rw [Bool.eq_iff_iff]
     simp only [inB,Bool.and_eq_true,decide_eq_true_eq]
     omega
    rw [hb]
    by_cases hc:s.Class=7
    ·have h7:(s.Class != 7)=false:=by simp [hc]
     rw [h7]
     by_cases hk:0 ≤ k∧k < (s.Routes.length:Int)
     ·simp only [decide_eq_true hk,hc,hk,and_self,if_true]; rfl
     ·simp only [decide_eq_false hk,hc,hk,and_false,if_false]; rfl
    ·have h7:(s.Class != 7)=true:=by simp [hc]
     rw [h7]
     simp only [hc,false_and,if_false,if_true]; rfl
def routeK (s:api_Stream) (k:Int):List Int:=s.Routes.getD k.toNat []
theorem streamB_size (h:streamB t s=true):SizeOK s:=by
 simp only [streamB,headB,inB,Bool.and_eq_true,decide_eq_true_eq] at h
 exact h.1.2.2.2.2.1
theorem streamB_routes (h:streamB t s=true):(1 ≤ s.Routes.length∧s.Routes.length ≤ 2)∧s.Routes.all (joinB t s)=true:=by
 simp only [streamB,lenB,Bool.and_eq_true,decide_eq_true_eq] at h
 exact ⟨h.2.2.1,h.2.2.2.1⟩
theorem routeK_ok (h:streamB t s=true) {k:Int} (h0:0 ≤ k) (hk:k < s.Routes.length):idx s.Routes k=some (routeK s k)∧validR t (routeK s k)=true:=by
 refine ⟨idx_getD [] h0 hk,(routes_ok (streamB_routes h).2 (k:=k.toNat) (by omega)).1⟩
theorem stream_Hops_fine (hT:topoB t=true) (hU:setupB u=true) (hS:streamB t s=true) {k:Int} (hc:s.Class=7) (h0:0 ≤ k) (hk:k < s.Routes.length) (hN:200 ≤ N) :
  stream_Hops N t u s k=some ((List.range (routeK s k).length).map (hopAt t u s (routeK s k)),0):=by
 obtain ⟨e1,e2⟩:=routeK_ok hS h0 hk
 have h8:=(ports_of e2).2.1
 unfold stream_Hops
 rw [stream_due_eq k hN,hT,hU,hS,if_pos rfl,if_pos rfl,if_pos rfl,if_pos ⟨hc,h0,hk⟩,Option.bind_some,if_neg (by decide)]
 show (stream_hops_1 N _ s k t u []).bind _=_
 have:=hops_all (N:=N) (topoB_good.1 hT) (setupB_ok hU) (streamB_size hS) e2 (y:=fun (s:(List api_Hop)) (x12:api_Hop)=>yieldT (fun v:(List api_Hop)=>stream_Hops_R1 N v x12) s) (fun j=>(List.range j).map (hopAt t u s (routeK s k))) (fun j hj=>by
  show yieldT (fun v=>stream_Hops_R1 N v (hopAt t u s (routeK s k) j)) _=_
  unfold yieldT stream_Hops_R1
  simp only
  rw [app_eq (by simp; omega) (by omega),List.range_succ,List.map_append]
  rfl) e1 hN
 simp only [List.range_zero,List.map_nil] at this
 rw [this]
 rfl
theorem stream_Told_fine (hT:topoB t=true) (hU:setupB u=true) (hS:streamB t s=true) {k:Int} (hc:s.Class=7) (h0:0 ≤ k) (hk:k < s.Routes.length) (hN:200 ≤ N) :
  stream_Told N t u s k=some (toldOf t u (hopAt t u s (routeK s k) ((routeK s k).length - 1)),0):=by
 obtain ⟨e1,e2⟩:=routeK_ok hS h0 hk
 obtain ⟨h1,h8,hp⟩:=ports_of e2
 have g:=topoB_good.1 hT
 have hL:t.Links.length ≤ 1000:=by have:=g.l24; omega
 unfold stream_Told
 rw [stream_due_eq k hN,hT,hU,hS,if_pos rfl,if_pos rfl,if_pos rfl,if_pos ⟨hc,h0,hk⟩,Option.bind_some,if_neg (by decide)]
 show (stream_hops_1 N _ s k t u 0).bind _=_
 have:=hops_all (N:=N) g (setupB_ok hU) (streamB_size hS) e2 (y:=fun (s:Int) (x21:api_Hop)=>yieldT (fun v:Int=>stream_Told_R1 N t u v x21) s) (fun j=>if j=0 then 0 else toldOf t u (hopAt t u s (routeK s k) (j - 1))) (fun j hj=>by
  show yieldT (fun v=>stream_Told_R1 N t u v (hopAt t u s (routeK s k) j)) _=_
  unfold yieldT stream_Told_R1
  have hb:=hopAt_ok g (setupB_ok hU) (streamB_size hS) hp j hj
  obtain ⟨o1,o2,o3⟩:=hb.told g (setupB_ok hU)
  obtain ⟨_,_,d1,d2⟩:=plk_bounds g hb.port
  have l1:=hb.long1; have l2:=hb.long2; have l3:=hb.op1; have l4:=hb.op2
  have q:=(setupB_ok hU).p1; have q':=(setupB_ok hU).p2
  simp only
  rw [plk_eq hL hb.port,Option.bind_some,w64_id (x:=(hopAt t u s (routeK s k) j).Open + (hopAt t u s (routeK s k) j).Long) (by omega) (by omega),w64_id (x:=(hopAt t u s (routeK s k) j).Open + (hopAt t u s (routeK s k) j).Long + _) (by omega) (by omega)]
  rw [show w64 ((hopAt t u s (routeK s k) j).Open + (hopAt t u s (routeK s k) j).Long + (plk t (hopAt t u s (routeK s k) j).Port).Delay + u.Proc)=toldOf t u (hopAt t u s (routeK s k) j) from w64_id (by omega) (by omega)]
  rw [if_neg (Nat.succ_ne_zero j)]
  rfl) e1 hN
 rw [if_pos rfl] at this
 rw [this,Option.bind_some,if_neg (by omega)]
theorem stream_Hops_bad {k e:Int} (h:stream_due N t u s k=some e) (he:e ≠ 0):stream_Hops N t u s k=some ([],e)∧stream_Told N t u s k=some (0,e):=by
 have:(e != 0)=true:=by simpa using he
 constructor
 ·unfold stream_Hops; rw [h,Option.bind_some,this]; rfl
 ·unfold stream_Told; rw [h,Option.bind_some,this]; rfl
theorem stream_Check_eq (hN:200 ≤ N):stream_Check N t s=some (if topoB t then (if streamB t s then 0 else 321) else 260):=by
 unfold stream_Check
 rw [topo_Check_eq (by omega),Option.bind_some]
 cases hT:topoB t with
 | false=>rfl
 | true =>
  simp only [if_true,bne_self_eq_false,Bool.false_eq_true,if_false]
  rw [stream_valid_eq (topoB_good.1 hT) s hN,Option.bind_some]
  cases streamB t s <;> rfl
def dS:api_Stream:=⟨0,0,0,0,0,0,⟨0,0⟩,0,[]⟩
def idAt (l:List api_Stream) (k:Nat):Int:=(l.getD k dS).Id
def newId (l:List api_Stream) (k:Nat):Bool := !((List.range k).any fun j=>idAt l j == idAt l k)
def allR (t:api_Topo) (l:List api_Stream):Int:=if topoB t then (if l.length ≤ 12 then (if l.all (streamB t) then (if allB l.length (newId l) then 0 else 322) else 321) else 3) else 260
theorem stream_CheckAll_eq (l:List api_Stream) (hN:200 ≤ N):stream_CheckAll N t l=some (allR t l):=by
 unfold stream_CheckAll allR
 rw [topo_Check_eq (by omega),Option.bind_some]
 cases hT:topoB t with
 | false=>rfl
 | true =>
  have g:=topoB_good.1 hT
  simp only [if_true,bne_self_eq_false,Bool.false_eq_true,if_false]
  by_cases h12:l.length ≤ 12
  ·rw [if_neg (by simp; omega),if_pos h12]
   have:=iterF_allN (n:=l.length) (p:=fun k=>streamB t (l.getD k dS)) (body:=fun x:Int=>stream_CheckAll_L1 N t l x) (bad:=.inr 321) (fin:=.inl ()) (fun k hk=>by
    unfold stream_CheckAll_L1
    rw [if_pos (by simp; omega),idx_k hk,Option.bind_some,getD_k hk,stream_valid_eq g _ hN,Option.bind_some,w64_succ (by omega)]
    cases streamB t l[k] <;> rfl) (by unfold stream_CheckAll_L1; rw [if_neg (by simp)]) (N:=N) (by omega)
   rw [this,allB_list l dS (streamB t)]
   cases l.all (streamB t) with
   | false=>rfl
   | true =>
    simp only [if_true,Option.bind_some]
    have:=(iterF_foldN (n:=l.length) (p:=newId l) (f:=fun (b:List (Int × Bool)) k=>msetL b (idAt l k) true) (body:=fun x:Int × (List (Int × Bool))=>stream_CheckAll_L2 N l x.1 x.2) (bad:=.inr 322) (fin:=fun _=>.inl ())
     (fun k b=>∀ x,mgetD b x false=(List.range k).any fun j=>idAt l j == x)
     (fun k b hk hb=>by
      show stream_CheckAll_L2 N l (k:Int) b=_
      unfold stream_CheckAll_L2
      rw [if_pos (by simp; omega),idx_k hk,Option.bind_some]
      have hid:l[k].Id=idAt l k:=by unfold idAt; rw [getD_k hk]
      rw [hid,hb,w64_succ (by omega)]
      unfold newId
      cases (List.range k).any fun j=>idAt l j == idAt l k <;> rfl)
     (fun k b hk hb _ x=>by
      rw [mgetD_msetL,hb,List.range_succ,List.any_append]
      by_cases e:x=idAt l k
      ·subst e; simp
      ·have:(idAt l k == x)=false:=by simpa using Ne.symm e
       simp [e,this])
     (fun b hb=>by show stream_CheckAll_L2 N l (l.length:Int) b=_; unfold stream_CheckAll_L2; rw [if_neg (by simp)]) (N:=N) (by omega) (b0:=[]) (fun x=>rfl)).1
    rw [this]
    cases allB l.length (newId l) <;> rfl
  ·rw [if_pos (by simp; omega),if_neg h12]
end
end Go.Sh

