/- Part of the proof; written by a program out of the texts in wip/. -/
import Derived.Test.YthipedbbcjemhaaPlanMovesBase
import Derived.KernelRfl
set_option linter.unusedVariables false
set_option linter.unusedSimpArgs false
namespace Go.Sh
open Go Go.Eng
theorem ZlT {α:Type} {b:Nat} {l m:List α} (h:l.length+m.length≤100000) (hb:b≤100000):appI b l m=some (l++m):=by
 unfold appI
 rw [if_pos]
 have:(l.length+m.length) * b≤100000 * 100000:=Nat.mul_le_mul h hb
 omega
def allV (l:List Zs):Bool:=l.all fun s=>decide (VSpan s)
theorem ZfH {N:Nat} (hN:100≤N) (l:List Zs):Zbi N l=some (if 32<l.length then 3 else if allV l then 0 else 330):=by
 unfold Zbi
 by_cases h:32<l.length
 ·rw [if_pos (by simp;omega),if_pos h]
 ·rw [if_neg (by simp;omega),if_neg h]
  have:=Zki (l:=l) (p:=fun s=>decide (VSpan s)) (body:=fun x:Int=>Zag N l x) (bad:=.inr 330) (fin:=.inl ()) (fun k hk=>by
   simp only [Zag]
   rw [if_pos (by simpa using hk),ZfL,List.getElem?_eq_getElem hk,Option.bind_some,ZcP,Option.bind_some]
   by_cases hv:VSpan l[k]
   ·simp only [hv,if_true,bne_self_eq_false,Bool.false_eq_true,if_false,decide_true]
    rw [Zb7 (by omega) (by omega)];simp
   ·simp [hv]) (by simp [Zag]) l.length N 0 (by omega) (by omega) (by omega)
  rw [show ((0:Nat):Int)=0 from rfl] at this
  rw [this,Option.bind_some,List.drop_zero]
  have e:(l.all fun s=>decide (VSpan s))=allV l:=rfl
  rw [e]
  cases allV l<;>rfl
def shift (b:Zs) (k:Int):Zs:=⟨b.Period,(b.From+k) % b.Period,b.Long⟩
end Go.Sh
set_option linter.unusedVariables false
set_option linter.unusedSimpArgs false
namespace Go.Sh
open Go Go.Eng
def lcmP:List Zs→Nat
 | []=>1
 | s::l=>Nat.lcm s.Period.toNat (lcmP l)
theorem Zlf:∀ {l:List Zs},(∀ s ∈ l,VSpan s)→0<lcmP l
 | [],_=>by decide
 | s::l,h=>by
  have h1:=(h s (by simp)).bounds
  exact Nat.lcm_pos (by omega) (Zlf fun t ht=>h t (by simp [ht]))
theorem Zg0:∀ {l:List Zs} {n:Nat},lcmP l ∣ n↔∀ s ∈ l,s.Period.toNat ∣ n
 | [],n=>by simp [lcmP]
 | s::l,n=>by
  simp only [lcmP,List.mem_cons,forall_eq_or_imp]
  rw [Nat.lcm_dvd_iff,Zg0]
theorem Zgs {N:Nat} (hN:2000≤N) {ps:List Int} (hps:∀ p ∈ ps,1≤p∧p≤960):∀ (n M k:Nat) (m:Nat),ps.length - k=n→k≤ps.length→n<M→1≤m→m≤960→ps.length≤1000 →
  ∃ r,Zaf (fun x:Int × Int=>Zaj N 960 ps x.1 x.2) M ((m:Int),(k:Int))=some r ∧
   (r≤960→r=((ps.drop k).foldl (fun a p=>Nat.lcm a p.toNat) m:Nat))∧(960<r→960<(ps.drop k).foldl (fun a p=>Nat.lcm a p.toNat) m):=by
 have mono:∀ (l:List Int) (a:Nat),(∀ p ∈ l,1≤p)→0<a→a≤l.foldl (fun a p=>Nat.lcm a p.toNat) a:=by
  intro l
  induction l with
  | nil=>intro a _ _;exact Nat.le_refl _
  | cons p l ih =>
   intro a hp ha
   simp only [List.foldl_cons]
   have h1:=hp p (by simp)
   have hpos:0<Nat.lcm a p.toNat:=Nat.lcm_pos ha (by omega)
   exact Nat.le_trans (Nat.le_of_dvd hpos (Nat.dvd_lcm_left _ _)) (ih _ (fun q hq=>hp q (by simp [hq])) hpos)
 intro n
 induction n with
 | zero =>
  intro M k m hn hk hM hm hm2 hl
  have:k=ps.length:=by omega
  subst this
  cases M with
  | zero=>omega
  | succ M =>
   refine ⟨(m:Int),Zbk (by simp only [Zaj];rw [if_neg (by simp)]),fun _ => ?_,fun h => ?_⟩
   ·simp
   ·omega
 | succ n ih =>
  intro M k m hn hk hM hm hm2 hl
  cases M with
  | zero=>omega
  | succ M =>
   have hlt:k<ps.length:=by omega
   obtain ⟨p1,p2⟩:=hps ps[k] (List.getElem_mem hlt)
   have hg:0<Nat.gcd m ps[k].toNat:=Nat.gcd_pos_of_pos_left _ (by omega)
   have hq:(m:Int).tdiv (Nat.gcd m ps[k].toNat:Int)=((m / Nat.gcd m ps[k].toNat:Nat):Int):=by
    rw [Int.tdiv_eq_ediv_of_nonneg (by omega)];rfl
   have hqle:m / Nat.gcd m ps[k].toNat≤m:=Nat.div_le_self _ _
   have hmul:((m / Nat.gcd m ps[k].toNat:Nat):Int) * ps[k]=(Nat.lcm m ps[k].toNat:Int):=by
    have e1:ps[k]=(ps[k].toNat:Int):=by omega
    have e2:Nat.lcm m ps[k].toNat=m / Nat.gcd m ps[k].toNat * ps[k].toNat:=by
     rw [Nat.lcm,Nat.mul_comm m,Nat.mul_div_assoc _ (Nat.gcd_dvd_left _ _),Nat.mul_comm]
    rw [e2,Int.natCast_mul,← e1]
   have hlcm:Nat.lcm m ps[k].toNat≤960 * 960:=by
    have h1:m / Nat.gcd m ps[k].toNat * ps[k].toNat≤960 * 960:=Nat.mul_le_mul (by omega) (by omega)
    have e2:Nat.lcm m ps[k].toNat=m / Nat.gcd m ps[k].toNat * ps[k].toNat:=by
     rw [Nat.lcm,Nat.mul_comm m,Nat.mul_div_assoc _ (Nat.gcd_dvd_left _ _),Nat.mul_comm]
    omega
   have hlpos:0<Nat.lcm m ps[k].toNat:=Nat.lcm_pos (by omega) (by omega)
   have hbody:Zaj N 960 ps (m:Int) (k:Int)=if 960<Nat.lcm m ps[k].toNat then some (.inr (Nat.lcm m ps[k].toNat:Int)) else some (.inl ((Nat.lcm m ps[k].toNat:Int),((k+1:Nat):Int))):=by
    simp only [Zaj]
    rw [if_pos (by simpa using hlt),ZfL,List.getElem?_eq_getElem hlt,Option.bind_some,Zfx (by omega) (by omega) (by omega),Option.bind_some,Int.toNat_natCast,ZmV (by omega),Option.bind_some,hq]
    have hq0:(0:Int)≤((m / Nat.gcd m ps[k].toNat:Nat):Int):=Int.natCast_nonneg _
    have hq1:((m / Nat.gcd m ps[k].toNat:Nat):Int)≤960:=Int.ofNat_le.2 (Nat.le_trans hqle hm2)
    have e3:IntKind.i64.wrap ((m / Nat.gcd m ps[k].toNat:Nat):Int)=((m / Nat.gcd m ps[k].toNat:Nat):Int):=Zb7 (Int.le_trans (by decide) hq0) (Int.le_trans hq1 (by decide))
    rw [e3,hmul,Zb7 (by omega) (by omega),Zb7 (by omega) (by omega)]
    by_cases hc:960<Nat.lcm m ps[k].toNat
    ·rw [if_pos (by simp;omega),if_pos hc]
    ·rw [if_neg (by simp;omega),if_neg hc];simp
   rw [Zkp hlt,List.foldl_cons]
   by_cases hc:960<Nat.lcm m ps[k].toNat
   ·refine ⟨(Nat.lcm m ps[k].toNat:Int),Zbk (by rw [hbody,if_pos hc]),fun h => ?_,fun _ => ?_⟩
    ·omega
    ·exact Nat.lt_of_lt_of_le hc (mono _ _ (fun q hq=>(hps q (List.mem_of_mem_drop hq)).1) hlpos)
   ·rw [ZcG (by rw [hbody,if_neg hc])]
    exact ih M (k+1) _ (by omega) (by omega) (by omega) (by omega) (by omega) hl
theorem ZiQ:∀ (l:List Zs) (m:Nat),(l.map Zs.Period).foldl (fun a p=>Nat.lcm a p.toNat) m=Nat.lcm m (lcmP l)
 | [],m=>by simp [lcmP,Nat.lcm_one_right]
 | s::l,m=>by simp only [List.map_cons,List.foldl_cons,lcmP];rw [ZiQ l,Nat.lcm_assoc]
def Zli (l:List Zs):Int × Int:=if 32<l.length then (0,3) else if allV l=true then (if lcmP l≤960 then ((lcmP l:Int),0) else (0,6)) else (0,330)
theorem Zlm {l:List Zs} (h:allV l=true):∀ s ∈ l,VSpan s:=by
 unfold allV at h
 rw [List.all_eq_true] at h
 exact fun s hs=>by simpa using h s hs
theorem Zhf {N:Nat} (hN:2000≤N) (l:List Zs):Zce N l=some (Zli l):=by
 unfold Zce Zli
 rw [ZfH (by omega)]
 simp only [Option.bind_some]
 by_cases h:32<l.length
 ·simp [h]
 ·by_cases hv:allV l=true
  ·simp only [h,hv,if_true,if_false,bne_self_eq_false,Bool.false_eq_true]
   have hmk:Zh6 8 (l.length:Int) (l.length:Int) (0:Int)=some (List.replicate l.length 0):=by
    unfold Zh6;rw [if_pos (by omega)];simp
   rw [hmk,Option.bind_some]
   have hloop:∀ (n M k:Nat),l.length - k=n→k≤l.length→n<M→Zaf (fun x:Int × List Int=>ZaB N l x.1 x.2) M ((k:Int),(l.map Zs.Period).take k++List.replicate (l.length - k) 0)=some (l.map Zs.Period):=by
    intro n
    induction n with
    | zero =>
     intro M k hn hk hM
     have:k=l.length:=by omega
     subst this
     cases M with
     | zero=>omega
     | succ M =>
      refine Zbk ?_
      simp only [ZaB]
      rw [if_neg (by simp)]
      simp [List.take_of_length_le]
    | succ n ih =>
     intro M k hn hk hM
     cases M with
     | zero=>omega
     | succ M =>
      have hlt:k<l.length:=by omega
      have hc:=ih M (k+1) (by omega) (by omega) (by omega)
      rw [ZcG (y:=(((k+1:Nat):Int),(l.map Zs.Period).take (k+1)++List.replicate (l.length - (k+1)) 0)),hc]
      simp only [ZaB]
      have hlen:((l.map Zs.Period).take k++List.replicate (l.length - k) 0).length=l.length:=by simp;omega
      rw [if_pos (by simpa using hlt),ZfL,List.getElem?_eq_getElem hlt,Option.bind_some,ZfL,List.getElem?_eq_getElem (by omega),Option.bind_some,Zb7 (by omega) (by omega)]
      have hset:List.set ((l.map Zs.Period).take k++List.replicate (l.length - k) 0) k l[k].Period=(l.map Zs.Period).take (k+1)++List.replicate (l.length - (k+1)) 0:=by
       rw [List.set_append_right _ _ (by simp;omega)]
       have e1:k - ((l.map Zs.Period).take k).length=0:=by simp;omega
       rw [e1,show l.length - k=(l.length - (k+1))+1 by omega,List.replicate_succ,List.set_cons_zero,List.take_succ_eq_append_getElem (by simpa using hlt)]
       simp
      simp only [Int.toNat_natCast,hset]
      rfl
   have hc:=hloop l.length N 0 (by omega) (by omega) (by omega)
   simp only [List.take_zero,List.nil_append,Nat.sub_zero] at hc
   rw [show ((0:Nat):Int)=0 from rfl] at hc
   rw [hc,Option.bind_some]
   have hVl:=Zlm hv
   obtain ⟨r,h1,h2,h3⟩:=Zgs hN (ps:=l.map Zs.Period) (fun p hp=>by
    obtain ⟨s,hs,rfl⟩:=List.mem_map.1 hp
    have:=(hVl s hs).bounds;omega) l.length N 0 1 (by simp) (by omega) (by omega) (by omega) (by omega) (by simp;omega)
   rw [List.drop_zero,ZiQ,Nat.lcm_one_left] at h2 h3
   have hf:ZcE N 960 (l.map Zs.Period)=some r:=by
    unfold ZcE
    have h1':Zaf (fun x:Int × Int=>Zaj N 960 (l.map Zs.Period) x.1 x.2) N (1,0)=some r:=h1
    rw [h1',Option.bind_some]
   rw [hf,Option.bind_some]
   by_cases hc2:960<r
   ·rw [if_pos (by simpa using hc2),if_neg (by have:=h3 hc2;omega)]
   ·have:=h2 (by omega)
    rw [if_neg (by simpa using hc2),if_pos (by omega),this]
  ·simp [h,hv]
end Go.Sh
set_option linter.unusedVariables false
set_option linter.unusedSimpArgs false
namespace Go.Sh
open Go Go.Eng
theorem ZmX {d g:Int} (hg:0<g):(-d) % g=if d % g=0 then 0 else g - d % g:=by
 have h0:=Int.emod_nonneg d (show g ≠ 0 by omega)
 have h1:=Int.emod_lt_of_pos d hg
 have hd:=Int.mul_ediv_add_emod d g
 split
 ·rename_i h
  have : -d=g * (-(d / g)):=by rw [Int.mul_neg];omega
  rw [this];exact Int.mul_emod_right _ _
 ·rename_i h
  have : -d=(g - d % g)+g * (-(d / g) - 1):=by rw [Int.mul_sub,Int.mul_neg];omega
  rw [this,Int.add_mul_emod_self_left]
  exact Int.emod_eq_of_lt (by omega) (by omega)
theorem ZmP {a b:Zs} (ha:VSpan a) (hb:VSpan b):SepD b a (a.From - b.From)↔SepD a b (b.From - a.From):=by
 obtain ⟨a1,a2,a3,a4,a5,a6⟩:=ha.bounds
 obtain ⟨b1,b2,b3,b4,b5,b6⟩:=hb.bounds
 have hg0:0<gP a b:=Zmq a1
 have h0:=Int.emod_nonneg (b.From - a.From) (show gP a b ≠ 0 by omega)
 have h1:=Int.emod_lt_of_pos (b.From - a.From) hg0
 unfold SepD
 rw [gP_comm b a,show a.From - b.From = -(b.From - a.From) by omega,ZmX hg0]
 split<;>omega
theorem Zl7 {a b:Zs} (ha:VSpan a) (hb:VSpan b) (k:Int):SepD (shift a k) (shift b k) ((shift b k).From - (shift a k).From)↔SepD a b (b.From - a.From):=by
 obtain ⟨a1,a2,a3,a4,a5,a6⟩:=ha.bounds
 obtain ⟨b1,b2,b3,b4,b5,b6⟩:=hb.bounds
 have hga:gP a b ∣ a.Period:=ZkS a1
 have hgb:gP a b ∣ b.Period:=Zkl b1
 have hg:gP (shift a k) (shift b k)=gP a b:=rfl
 have hd:((shift b k).From - (shift a k).From) % gP a b=(b.From - a.From) % gP a b:=by
  show ((b.From+k) % b.Period - (a.From+k) % a.Period) % gP a b=_
  rw [Int.sub_emod,Int.emod_emod_of_dvd _ hgb,Int.emod_emod_of_dvd _ hga,← Int.sub_emod]
  congr 1;omega
 unfold SepD
 rw [hg,hd]
 rfl
end Go.Sh
