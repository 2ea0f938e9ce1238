/- Part of the proof; written by a program out of the texts in wip/. -/
import Derived.Test.YthipedbbcjemhaaPlanChecksBase
set_option linter.unusedVariables false
set_option linter.unusedSimpArgs false
namespace Go.Sh
open Go Go.Eng
theorem ZgM {α:Type} {b:Nat} {l m:List α} (h:l.length+m.length≤100000) (hb:b≤100000):appI b l m=some (l++m):=by
 unfold appI
 rw [if_pos]
 have:(l.length+m.length) * b≤100000 * 100000:=Nat.mul_le_mul h hb
 omega
def allV (l:List Zt):Bool:=l.all fun s=>decide (VSpan s)
theorem ZfO {N:Nat} (hN:100≤N) (l:List Zt):Zbp N l=some (if 32<l.length then 3 else if allV l then 0 else 330):=by
 unfold Zbp
 by_cases h:32<l.length
 ·rw [if_pos (by simp;omega),if_pos h]
 ·rw [if_neg (by simp;omega),if_neg h]
  have:=Zkn (l:=l) (p:=fun s=>decide (VSpan s)) (body:=fun x:Int=>Zah N l x) (bad:=.inr 330) (fin:=.inl ()) (fun k hk=>by
   simp only [Zah]
   rw [if_pos (by simpa using hk),Ze6,List.getElem?_eq_getElem hk,Option.bind_some,Zhj,Option.bind_some]
   by_cases hv:VSpan l[k]
   ·simp only [hv,if_true,bne_self_eq_false,Bool.false_eq_true,if_false,decide_true]
    rw [Zcf (by omega) (by omega)];simp
   ·simp [hv]) (by simp [Zah]) l.length N 0 (by omega) (by omega) (by omega)
  rw [show ((0:Nat):Int)=0 from rfl] at this
  rw [this,Option.bind_some,List.drop_zero]
  have e:(l.all fun s=>decide (VSpan s))=allV l:=rfl
  rw [e]
  cases allV l<;>rfl
end Go.Sh
set_option linter.unusedVariables false
set_option linter.unusedSimpArgs false
namespace Go.Sh
open Go Go.Eng
def lcmP:List Zt→Nat
 | []=>1
 | s::l=>Nat.lcm s.Period.toNat (lcmP l)
theorem Zlg:∀ {l:List Zt},(∀ s ∈ l,VSpan s)→0<lcmP l
 | [],_=>by decide
 | s::l,h=>by
  have h1:=(h s (by simp)).bounds
  exact Nat.lcm_pos (by omega) (Zlg fun t ht=>h t (by simp [ht]))
theorem Zg4:∀ {l:List Zt} {n:Nat},lcmP l ∣ n↔∀ s ∈ l,s.Period.toNat ∣ n
 | [],n=>by simp [lcmP]
 | s::l,n=>by
  simp only [lcmP,List.mem_cons,forall_eq_or_imp]
  rw [Nat.lcm_dvd_iff,Zg4]
theorem Zgu {N:Nat} (hN:2000≤N) {ps:List Int} (hps:∀ p ∈ ps,1≤p∧p≤960):∀ (n M k:Nat) (m:Nat),ps.length - k=n→k≤ps.length→n<M→1≤m→m≤960→ps.length≤1000 →
  ∃ r,Zai (fun x:Int × Int=>Zal N 960 ps x.1 x.2) M ((m:Int),(k:Int))=some r ∧
   (r≤960→r=((ps.drop k).foldl (fun a p=>Nat.lcm a p.toNat) m:Nat))∧(960<r→960<(ps.drop k).foldl (fun a p=>Nat.lcm a p.toNat) m):=by
 have mono:∀ (l:List Int) (a:Nat),(∀ p ∈ l,1≤p)→0<a→a≤l.foldl (fun a p=>Nat.lcm a p.toNat) a:=by
  intro l
  induction l with
  | nil=>intro a _ _;exact Nat.le_refl _
  | cons p l ih =>
   intro a hp ha
   simp only [List.foldl_cons]
   have h1:=hp p (by simp)
   have hpos:0<Nat.lcm a p.toNat:=Nat.lcm_pos ha (by omega)
   exact Nat.le_trans (Nat.le_of_dvd hpos (Nat.dvd_lcm_left _ _)) (ih _ (fun q hq=>hp q (by simp [hq])) hpos)
 intro n
 induction n with
 | zero =>
  intro M k m hn hk hM hm hm2 hl
  have:k=ps.length:=by omega
  subst this
  cases M with
  | zero=>omega
  | succ M =>
   refine ⟨(m:Int),ZbH (by simp only [Zal];rw [if_neg (by simp)]),fun _ => ?_,fun h => ?_⟩
   ·simp
   ·omega
 | succ n ih =>
  intro M k m hn hk hM hm hm2 hl
  cases M with
  | zero=>omega
  | succ M =>
   have hlt:k<ps.length:=by omega
   obtain ⟨p1,p2⟩:=hps ps[k] (List.getElem_mem hlt)
   have hg:0<Nat.gcd m ps[k].toNat:=Nat.gcd_pos_of_pos_left _ (by omega)
   have hq:(m:Int).tdiv (Nat.gcd m ps[k].toNat:Int)=((m / Nat.gcd m ps[k].toNat:Nat):Int):=by
    rw [Int.tdiv_eq_ediv_of_nonneg (by omega)];rfl
   have hqle:m / Nat.gcd m ps[k].toNat≤m:=Nat.div_le_self _ _
   have hmul:((m / Nat.gcd m ps[k].toNat:Nat):Int) * ps[k]=(Nat.lcm m ps[k].toNat:Int):=by
    have e1:ps[k]=(ps[k].toNat:Int):=by omega
    have e2:Nat.lcm m ps[k].toNat=m / Nat.gcd m ps[k].toNat * ps[k].toNat:=by
     rw [Nat.lcm,Nat.mul_comm m,Nat.mul_div_assoc _ (Nat.gcd_dvd_left _ _),Nat.mul_comm]
    rw [e2,Int.natCast_mul,← e1]
   have hlcm:Nat.lcm m ps[k].toNat≤960 * 960:=by
    have h1:m / Nat.gcd m ps[k].toNat * ps[k].toNat≤960 * 960:=Nat.mul_le_mul (by omega) (by omega)
    have e2:Nat.lcm m ps[k].toNat=m / Nat.gcd m ps[k].toNat * ps[k].toNat:=by
     rw [Nat.lcm,Nat.mul_comm m,Nat.mul_div_assoc _ (Nat.gcd_dvd_left _ _),Nat.mul_comm]
    omega
   have hlpos:0<Nat.lcm m ps[k].toNat:=Nat.lcm_pos (by omega) (by omega)
   have hbody:Zal N 960 ps (m:Int) (k:Int)=if 960<Nat.lcm m ps[k].toNat then some (.inr (Nat.lcm m ps[k].toNat:Int)) else some (.inl ((Nat.lcm m ps[k].toNat:Int),((k+1:Nat):Int))):=by
    simp only [Zal]
    rw [if_pos (by simpa using hlt),Ze6,List.getElem?_eq_getElem hlt,Option.bind_some,ZiA (by omega) (by omega) (by omega),Option.bind_some,Int.toNat_natCast,ZmN (by omega),Option.bind_some,hq]
    have hq0:(0:Int)≤((m / Nat.gcd m ps[k].toNat:Nat):Int):=Int.natCast_nonneg _
    have hq1:((m / Nat.gcd m ps[k].toNat:Nat):Int)≤960:=Int.ofNat_le.2 (Nat.le_trans hqle hm2)
    have e3:IntKind.i64.wrap ((m / Nat.gcd m ps[k].toNat:Nat):Int)=((m / Nat.gcd m ps[k].toNat:Nat):Int):=Zcf (Int.le_trans (by decide) hq0) (Int.le_trans hq1 (by decide))
    rw [e3,hmul,Zcf (by omega) (by omega),Zcf (by omega) (by omega)]
    by_cases hc:960<Nat.lcm m ps[k].toNat
    ·rw [if_pos (by simp;omega),if_pos hc]
    ·rw [if_neg (by simp;omega),if_neg hc];simp
   rw [Zik hlt,List.foldl_cons]
   by_cases hc:960<Nat.lcm m ps[k].toNat
   ·refine ⟨(Nat.lcm m ps[k].toNat:Int),ZbH (by rw [hbody,if_pos hc]),fun h => ?_,fun _ => ?_⟩
    ·omega
    ·exact Nat.lt_of_lt_of_le hc (mono _ _ (fun q hq=>(hps q (List.mem_of_mem_drop hq)).1) hlpos)
   ·rw [ZcL (by rw [hbody,if_neg hc])]
    exact ih M (k+1) _ (by omega) (by omega) (by omega) (by omega) (by omega) hl
theorem ZiU:∀ (l:List Zt) (m:Nat),(l.map Zt.Period).foldl (fun a p=>Nat.lcm a p.toNat) m=Nat.lcm m (lcmP l)
 | [],m=>by simp [lcmP,Nat.lcm_one_right]
 | s::l,m=>by simp only [List.map_cons,List.foldl_cons,lcmP];rw [ZiU l,Nat.lcm_assoc]
def Zlj (l:List Zt):Int × Int:=if 32<l.length then (0,3) else if allV l=true then (if lcmP l≤960 then ((lcmP l:Int),0) else (0,6)) else (0,330)
theorem Zln {l:List Zt} (h:allV l=true):∀ s ∈ l,VSpan s:=by
 unfold allV at h
 rw [List.all_eq_true] at h
 exact fun s hs=>by simpa using h s hs
theorem Zhi {N:Nat} (hN:2000≤N) (l:List Zt):Zcl N l=some (Zlj l):=by
 unfold Zcl Zlj
 rw [ZfO (by omega)]
 simp only [Option.bind_some]
 by_cases h:32<l.length
 ·simp [h]
 ·by_cases hv:allV l=true
  ·simp only [h,hv,if_true,if_false,bne_self_eq_false,Bool.false_eq_true]
   have hmk:Zh6 8 (l.length:Int) (l.length:Int) (0:Int)=some (List.replicate l.length 0):=by
    unfold Zh6;rw [if_pos (by omega)];simp
   rw [hmk,Option.bind_some]
   have hloop:∀ (n M k:Nat),l.length - k=n→k≤l.length→n<M→Zai (fun x:Int × List Int=>ZaE N l x.1 x.2) M ((k:Int),(l.map Zt.Period).take k++List.replicate (l.length - k) 0)=some (l.map Zt.Period):=by
    intro n
    induction n with
    | zero =>
     intro M k hn hk hM
     have:k=l.length:=by omega
     subst this
     cases M with
     | zero=>omega
     | succ M =>
      refine ZbH ?_
      simp only [ZaE]
      rw [if_neg (by simp)]
      simp [List.take_of_length_le]
    | succ n ih =>
     intro M k hn hk hM
     cases M with
     | zero=>omega
     | succ M =>
      have hlt:k<l.length:=by omega
      have hc:=ih M (k+1) (by omega) (by omega) (by omega)
      rw [ZcL (y:=(((k+1:Nat):Int),(l.map Zt.Period).take (k+1)++List.replicate (l.length - (k+1)) 0)),hc]
      simp only [ZaE]
      have hlen:((l.map Zt.Period).take k++List.replicate (l.length - k) 0).length=l.length:=by simp;omega
      rw [if_pos (by simpa using hlt),Ze6,List.getElem?_eq_getElem hlt,Option.bind_some,Ze6,List.getElem?_eq_getElem (by omega),Option.bind_some,Zcf (by omega) (by omega)]
      have hset:List.set ((l.map Zt.Period).take k++List.replicate (l.length - k) 0) k l[k].Period=(l.map Zt.Period).take (k+1)++List.replicate (l.length - (k+1)) 0:=by
       rw [List.set_append_right _ _ (by simp;omega)]
       have e1:k - ((l.map Zt.Period).take k).length=0:=by simp;omega
       rw [e1,show l.length - k=(l.length - (k+1))+1 by omega,List.replicate_succ,List.set_cons_zero,List.take_succ_eq_append_getElem (by simpa using hlt)]
       simp
      simp only [Int.toNat_natCast,hset]
      rfl
   have hc:=hloop l.length N 0 (by omega) (by omega) (by omega)
   simp only [List.take_zero,List.nil_append,Nat.sub_zero] at hc
   rw [show ((0:Nat):Int)=0 from rfl] at hc
   rw [hc,Option.bind_some]
   have hVl:=Zln hv
   obtain ⟨r,h1,h2,h3⟩:=Zgu hN (ps:=l.map Zt.Period) (fun p hp=>by
    obtain ⟨s,hs,rfl⟩:=List.mem_map.1 hp
    have:=(hVl s hs).bounds;omega) l.length N 0 1 (by simp) (by omega) (by omega) (by omega) (by omega) (by simp;omega)
   rw [List.drop_zero,ZiU,Nat.lcm_one_left] at h2 h3
   have hf:ZcK N 960 (l.map Zt.Period)=some r:=by
    unfold ZcK
    have h1':Zai (fun x:Int × Int=>Zal N 960 (l.map Zt.Period) x.1 x.2) N (1,0)=some r:=h1
    rw [h1',Option.bind_some]
   rw [hf,Option.bind_some]
   by_cases hc2:960<r
   ·rw [if_pos (by simpa using hc2),if_neg (by have:=h3 hc2;omega)]
   ·have:=h2 (by omega)
    rw [if_neg (by simpa using hc2),if_pos (by omega),this]
  ·simp [h,hv]
end Go.Sh
set_option linter.unusedVariables false
set_option linter.unusedSimpArgs false
namespace Go.Sh
open Go Go.Eng
theorem Zfc {n:Nat} (h:n<1000000):w64 ((n:Int)+1)=((n+1:Nat):Int):=by rw [Zcf (by omega) (by omega)];omega
theorem ZjE {α:Type} {l:List α} {k:Nat} (h:k<l.length):idx l (k:Int)=some l[k]:=by rw [Ze6,List.getElem?_eq_getElem h]
theorem Zlh {α:Type} {l:List α} {i:Int} (d:α) (h0:0≤i) (h:i<l.length):idx l i=some (l.getD i.toNat d):=by
 rw [Zib h0 (by omega)]
 simp [List.getD_eq_getElem?_getD,List.getElem?_eq_getElem (show i.toNat<l.length by omega)]
end Go.Sh
