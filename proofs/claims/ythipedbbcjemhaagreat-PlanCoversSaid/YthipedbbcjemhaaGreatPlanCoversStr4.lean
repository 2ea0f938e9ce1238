/- Part of the proof; written by a program out of the texts in wip/. -/
import Derived.Test.YthipedbbcjemhaaGreatPlanCoversTop9
import Derived.Test.YthipedbbcjemhaaGreatPlanCoversRd
import Derived.KernelRfl
import Derived.Test.YthipedbbcjemhaaGreatPlanCoversPla2
set_option linter.unusedVariables false
set_option linter.unusedSimpArgs false
namespace Go.Sh
open Go Go.Eng
section
variable {N:Nat} {t:Zh} {u:ZE} {s:Zj}
theorem ZoN {α:Type} {n k:Nat} (f:Nat→α) (h:k<n):idx ((List.range n).map f) (k:Int)=some (f k):=by
 rw [Zcz (by simpa using h)]
 simp
theorem Zrc (g:Good t) (hu:ZgH u) (hs:Zjy s) {r:List Int} (hp:∀ k,k<r.length→ZbS t (at0 r k)=true) {k:Nat} (hk:k+1<r.length) :
  (Z4 t u s r (k+1)).Early=ZaY t u (Z4 t u s r k) - 2 * u.Slack∧(Z4 t u s r (k+1)).Late=ZaY t u (Z4 t u s r k)+2 * u.Slack ∧
  (Z4 t u s r (k+1)).Late≤(Z4 t u s r (k+1)).Open∧(Z4 t u s r (k+1)).Open<(Z4 t u s r (k+1)).Late+u.Grid∧(Z4 t u s r (k+1)).Open % u.Grid=0∧(Z4 t u s r k).Open<(Z4 t u s r (k+1)).Open:=by
 have hb:=Zgn g hu hs hp k (by omega)
 obtain ⟨o1,o2,o3⟩:=hb.told g hu
 have h0:=hb.op1
 have c:=ZmO hu (x:=ZaY t u (Z4 t u s r k)+2 * u.Slack) (by have:=hu.s1;omega)
 have:=hu.s1
 refine ⟨rfl,rfl,c.1,c.2.1,c.2.2,?_⟩
 show _<Zk2 u (ZaY t u (Z4 t u s r k)+2 * u.Slack)
 omega
theorem Zhr (g:Good t) (hu:ZgH u) (hs:Zjy s) {r:List Int} (hp:∀ k,k<r.length→ZbS t (at0 r k)=true) (h8:r.length≤8) {k:Nat} (hk:k<r.length) :
  0≤(Z4 t u s r k).Open∧(Z4 t u s r k).Open≤20000000∧0≤ZaY t u (Z4 t u s r k)∧ZaY t u (Z4 t u s r k)≤20000000:=by
 have hb:=Zgn g hu hs hp k hk
 obtain ⟨o1,o2,o3⟩:=hb.told g hu
 have h0:=hb.op1
 have h1:=hb.op2
 omega
theorem SL.all {l:List Zj} (hT:Zeo t=true) (h:SL t l):allR t l=0:=by
 unfold allR
 have h6:=h.len
 have a1:l.all (ZaI t)=true:=by
  rw [List.all_eq_true]
  intro x hx
  obtain ⟨k,hk,rfl⟩:=List.getElem_of_mem hx
  have:=(h.ok k hk).1
  rwa [Zc4 hk] at this
 have a2:allB l.length (Zpi l)=true:=by
  rw [Zba]
  intro k hk
  unfold Zpi
  rw [Bool.not_eq_true',Bool.eq_false_iff,ne_eq,List.any_eq_true]
  rintro ⟨j,hj,he⟩
  rw [List.mem_range] at hj
  rw [beq_iff_eq,(h.ok k hk).2,(h.ok j (by omega)).2] at he
  omega
 rw [hT,if_pos rfl,if_pos (by omega),a1,if_pos rfl,a2,if_pos rfl]
theorem SDOK.of {d:ZaB} (h:ZfK d):SDOK d:=by
 obtain ⟨_,_,h1,h2,h3,h4,h5,h6⟩:=h
 refine ⟨ZdX h1,ZdX h2,ZdX h3,ZdX h4,ZdX h5,?_⟩
 simpa [InK,Lit.wf,IntKind.min,IntKind.max,IntKind.signed,IntKind.bits] using h6
end
end Go.Sh
set_option linter.unusedVariables false
set_option linter.unusedSimpArgs false
namespace Go.Sh
open Go Go.Eng
theorem ZoU {a G q:Int} (hG:0<G) (h1:q * G≤a) (h2:a<q * G+G):a / G=q:=by
 have e1:=Int.mul_ediv_add_emod a G
 have e2:=Int.emod_nonneg a (show G ≠ 0 by omega)
 have e3:=Int.emod_lt_of_pos a hG
 rw [Int.mul_comm] at e1
 generalize a / G=p at *
 rcases Int.lt_trichotomy p q with h | h | h
 ·have:(p+1) * G≤q * G:=Int.mul_le_mul_of_nonneg_right (by omega) (by omega)
  rw [Int.add_mul] at this
  omega
 ·exact h
 ·have:(q+1) * G≤p * G:=Int.mul_le_mul_of_nonneg_right (by omega) (by omega)
  rw [Int.add_mul] at this
  omega
theorem Zhu {a G:Int} (hG:0<G):a / G * G≤a∧a<a / G * G+G:=by
 have e1:=Int.mul_ediv_add_emod a G
 have e2:=Int.emod_nonneg a (show G ≠ 0 by omega)
 have e3:=Int.emod_lt_of_pos a hG
 rw [Int.mul_comm] at e1
 omega
theorem Zdv {a G B:Int} (hG:1≤G) (h1 : -B≤a) (h2:a≤B) (hB:0≤B) : -B≤a / G∧a / G≤B:=by
 constructor
 ·rw [Int.le_ediv_iff_mul_le (by omega)]
  have:B * 1≤B * G:=Int.mul_le_mul_of_nonneg_left hG hB
  rw [Int.neg_mul]
  omega
 ·have:a / G<B+1:=by
   rw [Int.ediv_lt_iff_lt_mul (by omega)]
   have:(B+1) * 1≤(B+1) * G:=Int.mul_le_mul_of_nonneg_left hG (by omega)
   omega
  omega
theorem Zgi (N:Nat) {a b:Int} (hb:1≤b) (h1 : -100000000≤a) (h2:a≤100000000):ZcJ N a b=some (a / b):=by
 unfold ZcJ
 have e:=Int.mul_tdiv_add_tmod a b
 have l1:=Int.lt_tmod_of_pos a (show 0<b by omega)
 have l2:=Int.tmod_lt_of_pos a (show 0<b by omega)
 rw [Int.mul_comm] at e
 have hq : -100000000≤a.tdiv b∧a.tdiv b≤100000000:=by
  generalize a.tdiv b=q at *
  rcases Int.lt_or_le q 0 with c | c
  ·have:q * b≤q * 1:=Int.mul_le_mul_of_nonpos_left (by omega) (by omega)
   by_cases d:q ≤ -1
   ·have h3:(q+1) * b≤(q+1) * 1:=Int.mul_le_mul_of_nonpos_left (by omega) (by omega)
    rw [Int.add_mul] at h3
    omega
   ·omega
  ·have:q * 1≤q * b:=Int.mul_le_mul_of_nonneg_left (by omega) c
   by_cases d:1≤q
   ·have h3:(q - 1) * 1≤(q - 1) * b:=Int.mul_le_mul_of_nonneg_left (by omega) (by omega)
    simp only [Int.sub_mul,Int.one_mul,Int.mul_one] at h3
    omega
   ·omega
 rw [ZjQ (by omega),Zmp (by omega)]
 have ew:IntKind.i64.wrap (a.tdiv b)=a.tdiv b:=ZP (by omega) (by omega)
 rw [ew]
 simp only [Option.bind_some]
 by_cases c:a.tmod b<0
 ·rw [if_pos (by simpa using c),Option.bind_some,ZP (by omega) (by omega)]
  congr 1
  symm
  refine ZoU (by omega) ?_ ?_
  ·rw [Int.sub_mul];omega
  ·rw [Int.sub_mul];omega
 ·rw [if_neg (by simpa using c),Option.bind_some]
  congr 1
  symm
  refine ZoU (by omega) ?_ ?_<;>omega
section
variable {N:Nat} {t:Zh} {u:ZE} {s:Zj}
def useH (u:ZE) (n P:Int) (h:ZR):ZB:=⟨n,h.Port,(h.Early / u.Grid) % P,(h.Open+h.Long+u.Grid - 1) / u.Grid - h.Early / u.Grid⟩
def Zhd (t:Zh) (u:ZE) (s:Zj) (r:List Int):List ZR:=(List.range r.length).map (Z4 t u s r)
def ZbX (t:Zh) (u:ZE) (n:Int) (s:Zj) (r:List Int):List ZB:=(Zhd t u s r).map (useH u n s.Period)
def ZmI (t:Zh) (u:ZE) (s:Zj) (r:List Int):Bool:=decide (ZaY t u (Z4 t u s r (r.length - 1))+2 * u.Slack > s.Deadline)
structure HN (u:ZE) (h:ZR):Prop where
 e1 : -2000≤h.Early
 e2:h.Early≤20000000
 o1:0≤h.Open
 o2:h.Open≤20000000
 l1:84≤h.Long
 l2:h.Long≤1542000
 eo:h.Early≤h.Open
theorem Zok (g:Good t) (hu:ZgH u) (hs:Zjy s) {r:List Int} (hv:ZaE t r=true) {h:ZR} (hh:h ∈ Zhd t u s r):HN u h∧ZbS t h.Port=true:=by
 obtain ⟨h1,h8,hp⟩:=Zb3 hv
 obtain ⟨k,hk,rfl⟩:=List.mem_map.1 hh
 rw [List.mem_range] at hk
 have hb:=Zgn g hu hs hp k hk
 obtain ⟨b1,b2,b3,b4⟩:=Zhr g hu hs hp h8 hk
 have s1:=hu.s1;have s2:=hu.s2
 refine ⟨?_,hb.port⟩
 cases k with
 | zero=>exact ⟨by show -2000≤(0:Int);omega,by show (0:Int)≤20000000;omega,b1,b2,hb.long1,hb.long2,by show (0:Int)≤0;omega⟩
 | succ k =>
  obtain ⟨n1,n2,n3,n4,n5,n6⟩:=Zrc g hu hs hp hk
  obtain ⟨c1,c2,c3,c4⟩:=Zhr g hu hs hp h8 (show k<r.length by omega)
  exact ⟨by omega,by omega,b1,b2,hb.long1,hb.long2,by omega⟩
theorem add_use (hu:ZgH u) {h:ZR} (hn:HN u h) {n P:Int} (hP:1≤P) (hP2:P≤1000):∃ r2,ZcJ N h.Early u.Grid=some (h.Early / u.Grid)∧ZcJ N (w64 ((w64 ((w64 (h.Open+h.Long))+u.Grid)) - 1)) u.Grid=some ((h.Open+h.Long+u.Grid - 1) / u.Grid) ∧
  ZcJ N (h.Early / u.Grid) P=some r2∧ZB.mk n h.Port (w64 (h.Early / u.Grid - (w64 (r2 * P)))) (w64 ((h.Open+h.Long+u.Grid - 1) / u.Grid - h.Early / u.Grid))=useH u n P h:=by
 obtain ⟨e1,e2,o1,o2,l1,l2,_⟩:=hn
 have g1:=hu.g1;have g2:=hu.g2
 have d1:=Zdv (a:=h.Early) (B:=20000000) g1 (by omega) e2 (by omega)
 have d2:=Zdv (a:=h.Open+h.Long+u.Grid - 1) (B:=22000000) g1 (by omega) (by omega) (by omega)
 have m0:=Int.emod_nonneg (h.Early / u.Grid) (show P ≠ 0 by omega)
 have m1:=Int.emod_lt_of_pos (h.Early / u.Grid) (show 0<P by omega)
 have em:h.Early / u.Grid / P * P=h.Early / u.Grid - h.Early / u.Grid % P:=by have:=Int.mul_ediv_add_emod (h.Early / u.Grid) P;rw [Int.mul_comm] at this;omega
 refine ⟨h.Early / u.Grid / P,Zgi N g1 (by omega) (by omega),?_,Zgi N hP (by omega) (by omega),?_⟩
 ·rw [ZP (x:=h.Open+h.Long) (by omega) (by omega),ZP (x:=h.Open+h.Long+u.Grid) (by omega) (by omega),ZP (x:=h.Open+h.Long+u.Grid - 1) (by omega) (by omega)]
  exact Zgi N g1 (by omega) (by omega)
 ·unfold useH
  rw [em,ZP (x:=h.Early / u.Grid - h.Early / u.Grid % P) (by omega) (by omega),ZP (x:=h.Early / u.Grid - (h.Early / u.Grid - h.Early / u.Grid % P)) (by omega) (by omega),ZP (x:=(h.Open+h.Long+u.Grid - 1) / u.Grid - h.Early / u.Grid) (by omega) (by omega)]
  congr 1
  omega
structure Ac where
 late:Bool
 P:List Int
 U:List ZB
def ZfP (t:Zh) (u:ZE) (a:Ac) (s:Zj):Ac :=
 if s.Class=7 then ⟨a.late||s.Routes.any (ZmI t u s),a.P++[s.Period],a.U++s.Routes.flatMap (ZbX t u (a.P.length:Int) s)⟩ else a
def accA (t:Zh) (u:ZE) (l:List Zj):Ac:=l.foldl (ZfP t u) ⟨false,[],[]⟩
structure SS (t:Zh) (s:Zj):Prop where
 str:ZaI t s=true
 cls:s.Class=7
 per1:1≤s.Period
 per2:s.Period≤240
 dl:s.Deadline≤1099511627776
 r1:1≤s.Routes.length
 r2:s.Routes.length≤2
 rt:∀ r ∈ s.Routes,ZaE t r=true
theorem SS.of (h:ZaI t s=true) (hc:s.Class=7):SS t s:=by
 obtain ⟨⟨r1,r2⟩,hr⟩:=ZhE h
 have h':=h
 simp only [ZaI,Zol,inB,ZlX,Bool.and_eq_true,decide_eq_true_eq] at h'
 obtain ⟨h1,h2,_⟩:=h'
 rw [if_pos (by simp [hc])] at h2
 simp only [inB,Bool.and_eq_true,decide_eq_true_eq] at h2
 refine ⟨h,hc,h2.1.1,h2.1.2,h1.2.2.2.2.2.2,r1,r2,fun r hm => ?_⟩
 obtain ⟨k,hk,rfl⟩:=List.getElem_of_mem hm
 have:=(ZfU hr hk).1
 rwa [Zc4 hk] at this
theorem Zm0 (g:Good t) {r:List Int} (hv:ZaE t r=true) (n:Int):(ZbX t u n s r).length≤8:=by
 have:=(Zb3 hv).2.1
 simp [ZbX,Zhd];omega
theorem ZdA {α:Type} {l:List α} {k:Nat} (hk:k<l.length):l.take (k+1)=l.take k++[l[k]]:=by
 rw [List.take_succ_eq_append_getElem hk]
theorem ZmJ {α β:Type} (f:α→List β) {B:Nat}:∀ (l:List α),(∀ x ∈ l,(f x).length≤B)→(l.flatMap f).length≤B * l.length
 | [],_=>by simp
 | x::l,h=>by
  have h1:=ZmJ f l fun y hy=>h y (by simp [hy])
  have h2:=h x (by simp)
  simp only [List.flatMap_cons,List.length_append,List.length_cons]
  rw [Nat.mul_add]
  omega
theorem Zhj (k:Nat) (hk:k<s.Routes.length):ZdF s (k:Int)=s.Routes[k]:=by
 unfold ZdF
 rw [Int.toNat_natCast,Zc4 hk]
theorem ZiW (hT:Zeo t=true) (hU:ZeJ u=true) (h:SS t s) {b:Bool} {P:List Int} {U:List ZB} (hP:P.length≤100) (hUl:U.length≤900) (hN:2000≤N) :
  Zdq N ⟨⟨P,U⟩,b⟩ t u s=some (0,⟨⟨(ZfP t u ⟨b,P,U⟩ s).P,(ZfP t u ⟨b,P,U⟩ s).U⟩,(ZfP t u ⟨b,P,U⟩ s).late⟩):=by
 have g:=ZaX.1 hT
 have hu:=ZcB hU
 have hs:=ZcU h.str
 have p1:=h.per1;have p2:=h.per2;have r1:=h.r1;have r2:=h.r2
 unfold Zdq ZfP
 rw [if_pos h.cls]
 simp only
 rw [Zk8 (by omega) (by omega),Option.bind_some]
 obtain ⟨o,ho,eo⟩:=Zb4 (body:=fun x:Int × Bool × (List ZB)=>ZbL N ⟨⟨P,U⟩,b⟩ t u s (P++[s.Period]) x.1 x.2.1 x.2.2)
  (fun x=>∃ k:Nat,x.1=k∧k≤s.Routes.length∧x.2.1=(b||(s.Routes.take k).any (ZmI t u s))∧x.2.2=U++(s.Routes.take k).flatMap (ZbX t u (P.length:Int) s)) (fun x=>(s.Routes.length - x.1).toNat)
  (fun r=>r = .inl (b||s.Routes.any (ZmI t u s),U++s.Routes.flatMap (ZbX t u (P.length:Int) s))) (fun x hx=>by
   obtain ⟨i,b',U'⟩:=x
   obtain ⟨k,k1,k2,k3,k4⟩:=hx
   simp only at k1 k3 k4
   subst k1 k3 k4
   simp only [ZbL]
   by_cases c:k<s.Routes.length
   ·left
    have hv:=h.rt _ (List.getElem_mem c)
    obtain ⟨v1,v8,vp⟩:=Zb3 hv
    refine ⟨(((k+1:Nat):Int),b||(s.Routes.take (k+1)).any (ZmI t u s),U++(s.Routes.take (k+1)).flatMap (ZbX t u (P.length:Int) s)),?_,⟨k+1,rfl,by omega,rfl,rfl⟩,by simp;omega⟩
    rw [if_pos (by simpa using c),Zgx hT hU h.str h.cls (by omega) (by omega) (by omega),Option.bind_some,Zhj k c,Zgw hT hU h.str h.cls (by omega) (by omega) (by omega),Zhj k c]
    simp only [bne_self_eq_false,Bool.false_eq_true,if_false,Option.bind_some]
    have hfl:((s.Routes.take k).flatMap (ZbX t u (P.length:Int) s)).length≤8 * (s.Routes.take k).length:=ZmJ _ _ fun r hr=>Zm0 g (h.rt r (List.mem_of_mem_take hr)) _
    have htl:(s.Routes.take k).length≤2:=by simp;omega
    obtain ⟨q,hq,eq⟩:=Zb4 (body:=fun x:Int × (List ZB)=>ZbK N ⟨⟨P,U⟩,b⟩ u s ((List.range s.Routes[k].length).map (Z4 t u s s.Routes[k]),0) x.1 x.2)
     (fun x=>∃ j:Nat,x.1=j∧j≤s.Routes[k].length∧x.2=U++(s.Routes.take k).flatMap (ZbX t u (P.length:Int) s)++(ZbX t u (P.length:Int) s s.Routes[k]).take j) (fun x=>(s.Routes[k].length - x.1).toNat)
     (fun r=>r=U++(s.Routes.take k).flatMap (ZbX t u (P.length:Int) s)++ZbX t u (P.length:Int) s s.Routes[k]) (fun x hx=>by
      obtain ⟨i,U'⟩:=x
      obtain ⟨j,j1,j2,j3⟩:=hx
      simp only at j1 j3
      subst j1 j3
      simp only [ZbK]
      have hlen:(ZbX t u (P.length:Int) s s.Routes[k]).length=s.Routes[k].length:=by simp [ZbX,Zhd]
      by_cases d:j<s.Routes[k].length
      ·left
       refine ⟨(((j+1:Nat):Int),U++(s.Routes.take k).flatMap (ZbX t u (P.length:Int) s)++(ZbX t u (P.length:Int) s s.Routes[k]).take (j+1)),?_,⟨j+1,rfl,by omega,rfl⟩,by simp;omega⟩
       have hmem:Z4 t u s s.Routes[k] j ∈ Zhd t u s s.Routes[k]:=List.mem_map.2 ⟨j,List.mem_range.2 d,rfl⟩
       obtain ⟨x2,f1,f2,f3,f4⟩:=add_use (N:=N) hu (Zok g hu hs hv hmem).1 (n:=(P.length:Int)) p1 (by omega)
       have eh:(ZbX t u (P.length:Int) s s.Routes[k])[j]'(by omega)=useH u (P.length:Int) s.Period (Z4 t u s s.Routes[k] j):=by simp [ZbX,Zhd]
       rw [if_pos (by simpa using d),ZoN _ d,Option.bind_some,f1,Option.bind_some,f2,Option.bind_some,f3,Option.bind_some,f4,Zk8 (by simp only [List.length_append,List.length_take];omega) (by omega),Option.bind_some,ZT (by omega),ZdA (by omega),eh]
       simp only [List.append_assoc]
      ·right
       obtain rfl:j=s.Routes[k].length:=by omega
       refine ⟨U++(s.Routes.take k).flatMap (ZbX t u (P.length:Int) s)++ZbX t u (P.length:Int) s s.Routes[k],?_,rfl⟩
       rw [if_neg (by simp),List.take_of_length_le (Nat.le_of_eq hlen)]) N (0,U++(s.Routes.take k).flatMap (ZbX t u (P.length:Int) s)) ⟨0,rfl,by omega,by simp⟩ (by simp;omega)
    rw [hq,Option.bind_some,eq]
    have hj:s.Routes[k].length - 1<s.Routes[k].length:=by omega
    obtain ⟨b1,b2,b3,b4⟩:=Zhr g hu hs vp v8 hj
    have s1:=hu.s1;have s2:=hu.s2
    rw [ZP (x:=2 * u.Slack) (by omega) (by omega),ZP (x:=ZaY t u (Z4 t u s s.Routes[k] (s.Routes[k].length - 1))+2 * u.Slack) (by omega) (by omega),ZT (by omega),ZdA c,List.any_append,List.flatMap_append]
    have el:decide (ZaY t u (Z4 t u s s.Routes[k] (s.Routes[k].length - 1))+2 * u.Slack > s.Deadline)=ZmI t u s s.Routes[k]:=rfl
    rw [el]
    simp only [List.any_cons,List.any_nil,Bool.or_false,List.flatMap_cons,List.flatMap_nil,List.append_nil,List.append_assoc]
    cases b<;>cases (s.Routes.take k).any (ZmI t u s)<;>simp
   ·right
    obtain rfl:k=s.Routes.length:=by omega
    exact ⟨_,by rw [if_neg (by simp)],by simp⟩) N (0,b,U) ⟨0,rfl,by omega,by simp,by simp⟩ (by simp;omega)
 rw [ho,Option.bind_some,eo]
end
end Go.Sh

set_option linter.unusedVariables false
set_option linter.unusedSimpArgs false
namespace Go.Sh
open Go Go.Eng
section
variable {N:Nat} {t:Zh} {u:ZE} {s:Zj}
structure AcOK (t:Zh) (u:ZE) (n:Nat) (a:Ac):Prop where
 pl:a.P.length≤n
 ul:a.U.length≤16 * a.P.length
 per:a.P.all perB=true
 st:∀ x ∈ a.U,0≤x.Stream∧x.Stream<(a.P.length:Int)
 port:∀ x ∈ a.U,ZbS t x.Port=true
 fr:∀ x ∈ a.U,0≤x.From∧x.From<perU a.P x
 lg:∀ x ∈ a.U,1≤x.Long∧x.Long≤100000000
theorem Zq2 {P Q:List Int} {x:ZB} (h0:0≤x.Stream) (h1:x.Stream<(P.length:Int)):perU (P++Q) x=perU P x:=by
 unfold perU
 rw [List.getD_eq_getElem?_getD,List.getD_eq_getElem?_getD,List.getElem?_append_left (by omega)]
theorem Zq1 {P:List Int} {q:Int} {x:ZB} (h:x.Stream=(P.length:Int)):perU (P++[q]) x=q:=by
 unfold perU
 rw [h,Int.toNat_natCast,List.getD_eq_getElem?_getD,List.getElem?_append_right (Nat.le_refl _)]
 simp
theorem useH_ok (g:Good t) (hu:ZgH u) (h:SS t s) {r:List Int} (hr:r ∈ s.Routes) {n:Int} {x:ZB} (hx:x ∈ ZbX t u n s r) :
  x.Stream=n∧ZbS t x.Port=true∧0≤x.From∧x.From<s.Period∧1≤x.Long∧x.Long≤100000000:=by
 obtain ⟨h',hh,rfl⟩:=List.mem_map.1 hx
 obtain ⟨⟨e1,e2,o1,o2,l1,l2,eo⟩,hp⟩:=Zok g hu (ZcU h.str) (h.rt r hr) hh
 have p1:=h.per1
 have g1:=hu.g1;have g2:=hu.g2
 have d1:=Zdv (a:=h'.Early) (B:=20000000) g1 (by omega) e2 (by omega)
 have d2:=Zdv (a:=h'.Open+h'.Long+u.Grid - 1) (B:=22000000) g1 (by omega) (by omega) (by omega)
 refine ⟨rfl,hp,Int.emod_nonneg _ (by omega),Int.emod_lt_of_pos _ (by omega),?_,?_⟩
 ·show 1≤(h'.Open+h'.Long+u.Grid - 1) / u.Grid - h'.Early / u.Grid
  obtain ⟨a1,a2⟩:=Zhu (a:=h'.Open+h'.Long+u.Grid - 1) (G:=u.Grid) (by omega)
  obtain ⟨b1,b2⟩:=Zhu (a:=h'.Early) (G:=u.Grid) (by omega)
  generalize (h'.Open+h'.Long+u.Grid - 1) / u.Grid=p at *
  generalize h'.Early / u.Grid=q at *
  rcases Int.lt_or_le q p with c | c
  ·omega
  ·have:p * u.Grid≤q * u.Grid:=Int.mul_le_mul_of_nonneg_right c (by omega)
   omega
 ·show (h'.Open+h'.Long+u.Grid - 1) / u.Grid - h'.Early / u.Grid≤100000000
  omega
theorem AcOK.step (g:Good t) (hu:ZgH u) {n:Nat} {a:Ac} (h:AcOK t u n a) (hs:ZaI t s=true):AcOK t u (n+1) (ZfP t u a s):=by
 obtain ⟨h1,h2,h3,h4,h5,h6,h7⟩:=h
 unfold ZfP
 by_cases c:s.Class=7
 ·rw [if_pos c]
  have q:=SS.of hs c
  have p1:=q.per1;have p2:=q.per2;have r2:=q.r2
  have hfl:(s.Routes.flatMap (ZbX t u (a.P.length:Int) s)).length≤8 * s.Routes.length:=ZmJ _ _ fun r hr=>Zm0 g (q.rt r hr) _
  have new:∀ x ∈ s.Routes.flatMap (ZbX t u (a.P.length:Int) s),x.Stream=(a.P.length:Int)∧ZbS t x.Port=true∧0≤x.From∧x.From<s.Period∧1≤x.Long∧x.Long≤100000000:=fun x hx=>by
   obtain ⟨r,hr,hx⟩:=List.mem_flatMap.1 hx
   exact useH_ok g hu q hr hx
  refine ⟨by simp;omega,by simp only [List.length_append,List.length_cons,List.length_nil];omega,?_,fun x hx => ?_,fun x hx => ?_,fun x hx => ?_,fun x hx => ?_⟩
  ·simp only [List.all_append,h3,Bool.true_and,List.all_cons,List.all_nil,Bool.and_true]
   exact ZjR.2 (by omega)
  ·simp only [List.length_append,List.length_cons,List.length_nil]
   rcases List.mem_append.1 hx with hx | hx
   ·have:=h4 x hx;omega
   ·have:=(new x hx).1;omega
  ·rcases List.mem_append.1 hx with hx | hx
   ·exact h5 x hx
   ·exact (new x hx).2.1
  ·rcases List.mem_append.1 hx with hx | hx
   ·have:=h4 x hx
    simp only
    rw [Zq2 this.1 this.2]
    exact h6 x hx
   ·have:=new x hx
    simp only
    rw [Zq1 this.1]
    exact ⟨this.2.2.1,this.2.2.2.1⟩
  ·rcases List.mem_append.1 hx with hx | hx
   ·exact h7 x hx
   ·exact (new x hx).2.2.2.2
 ·rw [if_neg c]
  exact ⟨by omega,h2,h3,h4,h5,h6,h7⟩
theorem Zrz (g:Good t) (hu:ZgH u):∀ (l:List Zj) (n:Nat) (a:Ac),AcOK t u n a→(∀ x ∈ l,ZaI t x=true)→AcOK t u (n+l.length) (l.foldl (ZfP t u) a)
 | [],n,a,h,_=>h
 | x::l,n,a,h,hl=>by
  have:=Zrz g hu l (n+1) _ (h.step g hu (hl x (by simp))) fun y hy=>hl y (by simp [hy])
  simp only [List.length_cons,List.foldl_cons]
  rwa [show n+(l.length+1)=n+1+l.length by omega]
theorem acc0:AcOK t u 0 ⟨false,[],[]⟩:=⟨by simp,by simp,rfl,by simp,by simp,by simp,by simp⟩
theorem ZmT (g:Good t) (hu:ZgH u) {l:List Zj} (hl:∀ x ∈ l,ZaI t x=true):AcOK t u l.length (accA t u l):=by
 have:=Zrz (t:=t) (u:=u) g hu l 0 _ acc0 hl
 rwa [Nat.zero_add] at this
theorem ZnX (l:List Zj) (k:Nat) (hk:k<l.length):accA t u (l.take (k+1))=ZfP t u (accA t u (l.take k)) l[k]:=by
 unfold accA
 rw [ZdA hk,List.foldl_append]
 rfl
theorem Znn (hT:Zeo t=true) (hU:ZeJ u=true) {l:List Zj} (hl:∀ x ∈ l,ZaI t x=true) (h12:l.length≤12) (hN:2000≤N) :
  Z2 (fun x:Int × Bool × (List Int) × (List ZB)=>Zea N t u l x.1 x.2.1 x.2.2.1 x.2.2.2) N (0,false,[],[])=some (.inl ((accA t u l).late,(accA t u l).P,(accA t u l).U)):=by
 have g:=ZaX.1 hT
 have hu:=ZcB hU
 obtain ⟨o,ho,eo⟩:=Zb4 (body:=fun x:Int × Bool × (List Int) × (List ZB)=>Zea N t u l x.1 x.2.1 x.2.2.1 x.2.2.2)
  (fun x=>∃ k:Nat,x.1=k∧k≤l.length∧x.2=((accA t u (l.take k)).late,(accA t u (l.take k)).P,(accA t u (l.take k)).U)) (fun x=>(l.length - x.1).toNat)
  (fun r=>r = .inl ((accA t u l).late,(accA t u l).P,(accA t u l).U)) (fun x hx=>by
   obtain ⟨i,y⟩:=x
   obtain ⟨k,k1,k2,k3⟩:=hx
   simp only at k1 k3
   subst k1 k3
   simp only [Zea]
   by_cases c:k<l.length
   ·left
    have hs:=hl _ (List.getElem_mem c)
    have ha:=ZmT (t:=t) (u:=u) g hu (l:=l.take k) fun x hx=>hl x (List.mem_of_mem_take hx)
    have a1:=ha.pl;have a2:=ha.ul
    have htl:(l.take k).length≤12:=by simp;omega
    refine ⟨(((k+1:Nat):Int),(accA t u (l.take (k+1))).late,(accA t u (l.take (k+1))).P,(accA t u (l.take (k+1))).U),?_,⟨k+1,rfl,by omega,rfl⟩,by simp;omega⟩
    rw [if_pos (by simpa using c),Zcz c,Option.bind_some,ZT (by omega),ZnX l k c]
    by_cases hc:l[k].Class=7
    ·rw [if_neg (by simpa using hc),ZiW hT hU (SS.of hs hc) (by omega) (by omega) hN,Option.bind_some]
     rfl
    ·rw [if_pos (by simpa using hc)]
     unfold ZfP
     rw [if_neg hc]
   ·right
    obtain rfl:k=l.length:=by omega
    exact ⟨.inl ((accA t u l).late,(accA t u l).P,(accA t u l).U),by rw [if_neg (by simp),List.take_length],rfl⟩) N (0,false,[],[]) ⟨0,rfl,by omega,by simp [accA]⟩ (by simp;omega)
 rw [ho,eo]
def sumC (P:List Int) (C:Int):List ZB→Int
 | []=>0
 | x::l=>C.tdiv (perU P x)+sumC P C l
theorem ZqO (P:List Int) (C:Int) (a b:List ZB):sumC P C (a++b)=sumC P C a+sumC P C b:=by
 induction a with
 | nil=>simp [sumC]
 | cons x a ih=>simp only [List.cons_append,sumC,ih];omega
def portW (P:List Int) (C:Int) (U:List ZB) (q:Int):Int:=sumC P C (U.filter fun x=>x.Port==q)
def Zqm (P:List Int) (C:Int) (U:List ZB):Bool:=U.any fun x=>decide (portW P C U x.Port > 63)
def Zl8 (P:List Int) (U:List ZB):Bool:=U.any fun x=>decide (x.Long > perU P x)
def errC (a:Ac):Int:=if lcmL a.P≤960 then (if Zqm a.P (lcmL a.P) a.U=true then 7 else if Zl8 a.P a.U=true then 341 else if a.late=true then 342 else 0) else 6
theorem ZlB {P:List Int} {C:Int} (h0:0≤C) (h1:C≤960):∀ {U:List ZB},(∀ x ∈ U,1≤perU P x)→0≤sumC P C U∧sumC P C U≤960 * U.length
 | [],_=>by simp [sumC]
 | x::U,h=>by
  have ih:=ZlB h0 h1 (U:=U) fun y hy=>h y (by simp [hy])
  have hx:=h x (by simp)
  simp only [sumC,List.length_cons]
  rw [Int.tdiv_eq_ediv_of_nonneg h0]
  have d:=Zdv (a:=C) (B:=C) hx (by omega) (by omega) h0
  have e:0≤C / perU P x:=Int.ediv_nonneg h0 (by omega)
  omega
structure Grp (U:List ZB) (m:List (Int × List ZB)):Prop where
 nd:(m.map (·.1)).Nodup
 val:∀ p ∈ m,p.2=U.filter (fun x=>x.Port==p.1)∧p.2 ≠ []
 key:∀ x ∈ U,∃ p ∈ m,p.1=x.Port
theorem Zp9 {κ υ:Type} [DecidableEq κ] {m:List (κ × υ)} {z:υ}:∀ {p:κ × υ},(m.map (·.1)).Nodup→p ∈ m→ZfJ m p.1 z=p.2:=by
 intro p hn hp
 induction m with
 | nil=>simp at hp
 | cons q m ih =>
  rw [Zi0]
  simp only [List.map_cons,List.nodup_cons] at hn
  rcases List.mem_cons.1 hp with rfl | hp
  ·rw [if_pos rfl]
  ·rw [if_neg,ih hn.2 hp]
   intro e
   exact hn.1 (List.mem_map.2 ⟨p,hp,e.symm⟩)
theorem Zpn {κ υ:Type} [DecidableEq κ] {m:List (κ × υ)} {x:κ} {z:υ} (h:∀ p ∈ m,p.1 ≠ x):ZfJ m x z=z:=by
 induction m with
 | nil=>rfl
 | cons q m ih =>
  rw [Zi0,if_neg (h q (by simp)),ih fun p hp=>h p (by simp [hp])]
theorem Zpk {κ υ:Type} [DecidableEq κ] (m:List (κ × υ)) (x:κ) (v:υ):(ZcT m x v).map (·.1)=if x ∈ m.map (·.1) then m.map (·.1) else m.map (·.1)++[x]:=by
 induction m with
 | nil=>simp [ZcT]
 | cons q m ih =>
  unfold ZcT
  by_cases e:q.1=x
  ·rw [if_pos e]
   simp [e]
  ·rw [if_neg e,List.map_cons,ih]
   by_cases c:x ∈ m.map (·.1)
   ·rw [if_pos c,if_pos (by simp [c])];rfl
   ·have hx:¬ x ∈ (q::m).map (·.1):=by
     rw [List.map_cons,List.mem_cons]
     rintro (r | r)
     ·exact e r.symm
     ·exact c r
    rw [if_neg c,if_neg hx];rfl
theorem Zir {κ υ:Type} [DecidableEq κ] {m:List (κ × υ)} {x:κ} {v:υ} (hn:(m.map (·.1)).Nodup) {p:κ × υ}:p ∈ ZcT m x v↔p=(x,v)∨(p ∈ m∧p.1 ≠ x):=by
 induction m with
 | nil=>simp [ZcT]
 | cons q m ih =>
  simp only [List.map_cons,List.nodup_cons] at hn
  unfold ZcT
  by_cases e:q.1=x
  ·rw [if_pos e,List.mem_cons,List.mem_cons]
   constructor
   ·rintro (r | r)
    ·exact .inl r
    ·refine .inr ⟨.inr r,fun e2=>hn.1 (List.mem_map.2 ⟨p,r,by rw [e2,e]⟩)⟩
   ·rintro (r | ⟨r | r,e2⟩)
    ·exact .inl r
    ·subst r;exact absurd e e2
    ·exact .inr r
  ·rw [if_neg e,List.mem_cons,ih hn.2,List.mem_cons]
   constructor
   ·rintro (r | r | ⟨r,e2⟩)
    ·subst r;exact .inr ⟨.inl rfl,e⟩
    ·exact .inl r
    ·exact .inr ⟨.inr r,e2⟩
   ·rintro (r | ⟨r | r,e2⟩)
    ·exact .inr (.inl r)
    ·exact .inl r
    ·exact .inr (.inr ⟨r,e2⟩)
theorem Grp.get {U:List ZB} {m:List (Int × List ZB)} (h:Grp U m) (q:Int):ZfJ m q []=U.filter (fun x=>x.Port==q):=by
 by_cases c:∃ p ∈ m,p.1=q
 ·obtain ⟨p,hp,rfl⟩:=c
  rw [Zp9 h.nd hp,(h.val p hp).1]
 ·rw [Zpn fun p hp e=>c ⟨p,hp,e⟩]
  symm
  rw [List.filter_eq_nil_iff]
  intro x hx hq
  obtain ⟨p,hp,e⟩:=h.key x hx
  exact c ⟨p,hp,by rw [e];simpa using hq⟩
theorem Grp.add {U:List ZB} {m:List (Int × List ZB)} (h:Grp U m) (x:ZB):Grp (U++[x]) (ZcT m x.Port (ZfJ m x.Port []++[x])):=by
 refine ⟨?_,fun p hp => ?_,fun y hy => ?_⟩
 ·rw [Zpk]
  by_cases c:x.Port ∈ m.map (·.1)
  ·rw [if_pos c];exact h.nd
  ·rw [if_neg c,List.nodup_append]
   refine ⟨h.nd,by simp,fun a ha b hb e => ?_⟩
   simp only [List.mem_singleton] at hb
   subst hb e
   exact c ha
 ·rw [List.filter_append]
  rcases (Zir h.nd).1 hp with rfl | ⟨hp,hne⟩
  ·simp only
   rw [h.get]
   refine ⟨by simp,by simp⟩
  ·refine ⟨?_,(h.val p hp).2⟩
   rw [← (h.val p hp).1]
   simp [Ne.symm hne]
 ·rcases List.mem_append.1 hy with hy | hy
  ·obtain ⟨p,hp,e⟩:=h.key y hy
   by_cases c:p.1=x.Port
   ·exact ⟨_,(Zir h.nd).2 (.inl rfl),by rw [← e,c]⟩
   ·exact ⟨p,(Zir h.nd).2 (.inr ⟨hp,c⟩),e⟩
  ·simp only [List.mem_singleton] at hy
   subst hy
   exact ⟨_,(Zir h.nd).2 (.inl rfl),rfl⟩
theorem Zrv {f:List ZB→Option Bool} {g:List ZB→Bool}:∀ {m:List (Int × List ZB)},(∀ p ∈ m,f p.2=some (g p.2))→rgF f m=some (m.any fun p=>g p.2)
 | [],_=>rfl
 | p::m,h=>by
  unfold rgF
  rw [h p (by simp),Option.bind_some,Zrv fun q hq=>h q (by simp [hq]),Option.bind_some,List.any_cons]
theorem ZpI {P:List Int} {U:List ZB} {b:Bool} (hU:U.length≤300) (hst:∀ x ∈ U,0≤x.Stream∧x.Stream<(P.length:Int)) (hN:2000≤N) :
  Z2 (fun x:Int=>ZaQ N ⟨⟨P,U⟩,b⟩ x) N 0=some (if Zl8 P U=true then .inr 341 else .inl ()):=by
 rw [Zi5 (l:=U) (p:=fun x => !decide (x.Long > perU P x)) (bad:=.inr 341) (fin:=.inl ()) (fun k hk => ?_) (by simp [ZaQ]) (by omega)]
 ·have e:(U.all fun x => !decide (x.Long > perU P x)) = !Zl8 P U:=by
   unfold Zl8
   rw [List.not_any_eq_all_not]
  rw [e]
  cases Zl8 P U<;>rfl
 ·obtain ⟨a,c⟩:=hst _ (List.getElem_mem hk)
  simp only [ZaQ]
  rw [if_pos (by simpa using hk),Zcz hk,Option.bind_some,Zoj a c,Option.bind_some,ZT (by omega)]
  by_cases d:U[k].Long > perU P U[k]
  ·rw [if_pos (by simpa using d),if_neg (by simpa using d)]
  ·rw [if_neg (by simpa using d),if_pos (by simpa using d)]
theorem W_eq {P:List Int} {U us:List ZB} {b:Bool} {C:Int} (h0:0≤C) (h1:C≤960) (hl:us.length≤300) (hst:∀ x ∈ us,0≤x.Stream∧x.Stream<(P.length:Int)) (hp:∀ x ∈ us,1≤perU P x) (e:Int) (hN:2000≤N) :
  Zbs N ⟨⟨P,U⟩,b⟩ (C,e) us=some (decide (sumC P C us > 63)):=by
 unfold Zbs
 obtain ⟨o,ho,eo⟩:=Zb4 (body:=fun x:Int × Int=>Zbh N ⟨⟨P,U⟩,b⟩ (C,e) us x.1 x.2)
  (fun x=>∃ k:Nat,x.2=k∧k≤us.length∧x.1=sumC P C (us.take k)) (fun x=>(us.length - x.2).toNat) (fun r=>r=sumC P C us) (fun x hx=>by
   obtain ⟨c,i⟩:=x
   obtain ⟨k,k1,k2,k3⟩:=hx
   simp only at k1 k3
   subst k1 k3
   simp only [Zbh]
   by_cases c:k<us.length
   ·left
    have hm:=List.getElem_mem c
    obtain ⟨a1,a2⟩:=hst _ hm
    have q:=hp _ hm
    have s1:=ZlB (P:=P) h0 h1 (U:=us.take k) fun x hx=>hp x (List.mem_of_mem_take hx)
    have hlen:(us.take k).length≤300:=by simp;omega
    have d:=Zdv (a:=C) (B:=C) q (by omega) (by omega) h0
    have d0:0≤C / perU P us[k]:=Int.ediv_nonneg h0 (by omega)
    have et:C.tdiv (perU P us[k])=C / perU P us[k]:=Int.tdiv_eq_ediv_of_nonneg h0
    refine ⟨(sumC P C (us.take (k+1)),((k+1:Nat):Int)),?_,⟨k+1,rfl,by omega,rfl⟩,by simp;omega⟩
    rw [if_pos (by simpa using c),Zcz c,Option.bind_some,Zoj a1 a2,Option.bind_some,ZjQ (by omega),Option.bind_some,et]
    have ew:IntKind.i64.wrap (C / perU P us[k])=C / perU P us[k]:=ZP (by omega) (by omega)
    have es:sumC P C (us.take (k+1))=sumC P C (us.take k)+C / perU P us[k]:=by
     rw [ZdA c,ZqO];simp [sumC,et]
    rw [ew,ZP (by omega) (by omega),ZT (by omega),es]
   ·right
    obtain rfl:k=us.length:=by omega
    exact ⟨sumC P C us,by rw [if_neg (by simp),List.take_length],rfl⟩) N (0,0) ⟨0,rfl,by omega,by simp [sumC]⟩ (by simp;omega)
 rw [ho,Option.bind_some,eo]
theorem Zrd {P:List Int} {C:Int} {U:List ZB} {m:List (Int × List ZB)} (h:Grp U m):(m.any fun p=>decide (sumC P C p.2 > 63))=Zqm P C U:=by
 unfold Zqm portW
 rw [Bool.eq_iff_iff,List.any_eq_true,List.any_eq_true]
 constructor
 ·rintro ⟨p,hp,hs⟩
  obtain ⟨e,ne⟩:=h.val p hp
  obtain ⟨x,hx⟩:=List.exists_mem_of_ne_nil _ ne
  rw [e] at hx
  obtain ⟨hx1,hx2⟩:=List.mem_filter.1 hx
  have:x.Port=p.1:=by simpa using hx2
  refine ⟨x,hx1,?_⟩
  rw [this,← e]
  exact hs
 ·rintro ⟨x,hx,hs⟩
  obtain ⟨p,hp,e⟩:=h.key x hx
  refine ⟨p,hp,?_⟩
  rw [(h.val p hp).1,e]
  exact hs
theorem Zh0 {a:Ac} {n:Nat} (h:AcOK t u n a) (hn:n≤12) (hN:2000≤N):ZcE N ⟨⟨a.P,a.U⟩,a.late⟩=some (errC a):=by
 obtain ⟨h1,h2,h3,h4,h5,h6,h7⟩:=h
 have hper:∀ x ∈ a.U,1≤perU a.P x:=fun x hx=>by
  obtain ⟨c,d⟩:=h4 x hx
  have:=ZjR.1 (List.all_eq_true.1 h3 _ (perU_in c d))
  omega
 unfold ZcE errC
 simp only
 rw [Zg1 hN (by omega) h3,Option.bind_some]
 by_cases hc:lcmL a.P≤960
 ·rw [if_pos hc,if_pos hc]
  simp only [bne_self_eq_false,Bool.false_eq_true,if_false]
  obtain ⟨m,hm,em⟩:=Zb4 (body:=fun x:Int × (List (Int × (List ZB)))=>Zbi N ⟨⟨a.P,a.U⟩,a.late⟩ x.1 x.2)
   (fun x=>∃ k:Nat,x.1=k∧k≤a.U.length∧Grp (a.U.take k) x.2) (fun x=>(a.U.length - x.1).toNat) (fun r=>Grp a.U r) (fun x hx=>by
    obtain ⟨i,m⟩:=x
    obtain ⟨k,k1,k2,k3⟩:=hx
    simp only at k1 k3
    subst k1
    simp only [Zbi]
    by_cases c:k<a.U.length
    ·left
     have hlen:(ZfJ m a.U[k].Port []).length≤192:=by
      rw [k3.get]
      have:=List.length_filter_le (fun x=>x.Port==a.U[k].Port) (a.U.take k)
      have e:(a.U.take k).length≤192:=by simp;omega
      omega
     refine ⟨(((k+1:Nat):Int),ZcT m a.U[k].Port (ZfJ m a.U[k].Port []++[a.U[k]])),?_,⟨k+1,rfl,by omega,?_⟩,by simp;omega⟩
     ·rw [if_pos (by simpa using c),Zcz c,Option.bind_some,Zk8 (by omega) (by omega),Option.bind_some,ZT (by omega)]
     ·simp only
      rw [ZdA c]
      exact k3.add _
    ·right
     obtain rfl:k=a.U.length:=by omega
     rw [List.take_length] at k3
     exact ⟨m,by rw [if_neg (by simp)],k3⟩) N (0,[]) ⟨0,rfl,by omega,⟨by simp,by simp,by simp⟩⟩ (by simp;omega)
  rw [hm,Option.bind_some]
  rw [Zrv (g:=fun us=>decide (sumC a.P (lcmL a.P) us > 63)) (fun p hp=>by
   have e:=(em.val p hp).1
   have hsub:∀ x ∈ p.2,x ∈ a.U:=fun x hx=>by rw [e] at hx;exact (List.mem_filter.1 hx).1
   have hl:p.2.length≤192:=by
    rw [e]
    have:=List.length_filter_le (fun x=>x.Port==p.1) a.U
    omega
   exact W_eq (by omega) (by omega) (by omega) (fun x hx=>h4 x (hsub x hx)) (fun x hx=>hper x (hsub x hx)) 0 hN),Option.bind_some,Zrd em]
  cases hf:Zqm a.P (lcmL a.P) a.U with
  | true=>rfl
  | false =>
   simp only [Bool.false_eq_true,if_false]
   rw [ZpI (by omega) h4 hN,Option.bind_some]
   cases Zl8 a.P a.U with
   | true=>rfl
   | false=>cases a.late<;>rfl
 ·rw [if_neg hc,if_neg hc]
  rfl
def ZoI:Zs:=⟨[],[]⟩
def ofS (t:Zh) (u:ZE) (l:List Zj):Zs × Int :=
 if Zeo t=true then (if ZeJ u=true then (if allR t l=0 then (if errC (accA t u l)=0 then (⟨(accA t u l).P,(accA t u l).U⟩,0) else (ZoI,errC (accA t u l))) else (ZoI,allR t l)) else (ZoI,320)) else (ZoI,260)
theorem Zro:allR t []=if Zeo t=true then 0 else 260:=by
 unfold allR
 cases Zeo t<;>simp [allB]
theorem ZqA {l:List Zj} (h:allR t l=0):l.length≤12∧∀ x ∈ l,ZaI t x=true:=by
 unfold allR at h
 by_cases c:Zeo t=true
 ·rw [if_pos c] at h
  by_cases d:l.length≤12
  ·rw [if_pos d] at h
   by_cases e:l.all (ZaI t)=true
   ·exact ⟨d,List.all_eq_true.1 e⟩
   ·rw [if_neg e] at h;omega
  ·rw [if_neg d] at h;omega
 ·rw [if_neg c] at h;omega
theorem Zpe (l:List Zj) (hN:2000≤N):ZiX N t u l=some (ofS t u l):=by
 unfold ZiX ofS
 rw [Zfk _ (by omega),Option.bind_some,Zro]
 cases hT:Zeo t with
 | false=>rfl
 | true =>
  simp only [if_true,bne_self_eq_false,Bool.false_eq_true,if_false]
  rw [ZeI,Option.bind_some]
  cases hU:ZeJ u with
  | false=>rfl
  | true =>
   simp only [if_true,bne_self_eq_false,Bool.false_eq_true,if_false]
   rw [Zfk _ (by omega),Option.bind_some]
   by_cases hA:allR t l=0
   ·obtain ⟨h12,hl⟩:=ZqA hA
    rw [if_pos hA,hA,if_neg (by simp),Znn hT hU hl h12 hN,Option.bind_some]
    simp only
    rw [Zh0 (ZmT (ZaX.1 hT) (ZcB hU) hl) h12 hN,Option.bind_some]
    by_cases e:errC (accA t u l)=0
    ·rw [if_pos e,e];rfl
    ·rw [if_neg e,if_pos (by simpa using e)];rfl
   ·rw [if_neg hA,if_pos (by simpa using hA)];rfl
end
end Go.Sh

