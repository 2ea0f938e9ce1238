/- Part of the proof; written by a program out of the texts in wip/. -/
import Derived.Test.YthipedbbcjemhaaPlanMeansBase
import Derived.KernelRfl
set_option linter.unusedVariables false
set_option linter.unusedSimpArgs false
namespace Go.Sh
open Go Go.Eng
theorem ZlV {α:Type} {b:Nat} {l m:List α} (h:l.length+m.length≤100000) (hb:b≤100000):appI b l m=some (l++m):=by
 unfold appI
 rw [if_pos]
 have:(l.length+m.length) * b≤100000 * 100000:=Nat.mul_le_mul h hb
 omega
def allV (l:List Zs):Bool:=l.all fun s=>decide (VSpan s)
theorem ZfD {N:Nat} (hN:100≤N) (l:List Zs):Zbl N l=some (if 32<l.length then 3 else if allV l then 0 else 330):=by
 unfold Zbl
 by_cases h:32<l.length
 ·rw [if_pos (by simp;omega),if_pos h]
 ·rw [if_neg (by simp;omega),if_neg h]
  have:=Zkj (l:=l) (p:=fun s=>decide (VSpan s)) (body:=fun x:Int=>Zag N l x) (bad:=.inr 330) (fin:=.inl ()) (fun k hk=>by
   simp only [Zag]
   rw [if_pos (by simpa using hk),ZfI,List.getElem?_eq_getElem hk,Option.bind_some,ZcS,Option.bind_some]
   by_cases hv:VSpan l[k]
   ·simp only [hv,if_true,bne_self_eq_false,Bool.false_eq_true,if_false,decide_true]
    rw [ZbR (by omega) (by omega)];simp
   ·simp [hv]) (by simp [Zag]) l.length N 0 (by omega) (by omega) (by omega)
  rw [show ((0:Nat):Int)=0 from rfl] at this
  rw [this,Option.bind_some,List.drop_zero]
  have e:(l.all fun s=>decide (VSpan s))=allV l:=rfl
  rw [e]
  cases allV l<;>rfl
end Go.Sh
set_option linter.unusedVariables false
set_option linter.unusedSimpArgs false
namespace Go.Sh
open Go Go.Eng
def lcmP:List Zs→Nat
 | []=>1
 | s::l=>Nat.lcm s.Period.toNat (lcmP l)
theorem Zli:∀ {l:List Zs},(∀ s ∈ l,VSpan s)→0<lcmP l
 | [],_=>by decide
 | s::l,h=>by
  have h1:=(h s (by simp)).bounds
  exact Nat.lcm_pos (by omega) (Zli fun t ht=>h t (by simp [ht]))
theorem ZgX:∀ {l:List Zs} {n:Nat},lcmP l ∣ n↔∀ s ∈ l,s.Period.toNat ∣ n
 | [],n=>by simp [lcmP]
 | s::l,n=>by
  simp only [lcmP,List.mem_cons,forall_eq_or_imp]
  rw [Nat.lcm_dvd_iff,ZgX]
theorem Zgq {N:Nat} (hN:2000≤N) {ps:List Int} (hps:∀ p ∈ ps,1≤p∧p≤960):∀ (n M k:Nat) (m:Nat),ps.length - k=n→k≤ps.length→n<M→1≤m→m≤960→ps.length≤1000 →
  ∃ r,Zac (fun x:Int × Int=>Zaj N 960 ps x.1 x.2) M ((m:Int),(k:Int))=some r ∧
   (r≤960→r=((ps.drop k).foldl (fun a p=>Nat.lcm a p.toNat) m:Nat))∧(960<r→960<(ps.drop k).foldl (fun a p=>Nat.lcm a p.toNat) m):=by
 have mono:∀ (l:List Int) (a:Nat),(∀ p ∈ l,1≤p)→0<a→a≤l.foldl (fun a p=>Nat.lcm a p.toNat) a:=by
  intro l
  induction l with
  | nil=>intro a _ _;exact Nat.le_refl _
  | cons p l ih =>
   intro a hp ha
   simp only [List.foldl_cons]
   have h1:=hp p (by simp)
   have hpos:0<Nat.lcm a p.toNat:=Nat.lcm_pos ha (by omega)
   exact Nat.le_trans (Nat.le_of_dvd hpos (Nat.dvd_lcm_left _ _)) (ih _ (fun q hq=>hp q (by simp [hq])) hpos)
 intro n
 induction n with
 | zero =>
  intro M k m hn hk hM hm hm2 hl
  have:k=ps.length:=by omega
  subst this
  cases M with
  | zero=>omega
  | succ M =>
   refine ⟨(m:Int),Zbn (by simp only [Zaj];rw [if_neg (by simp)]),fun _ => ?_,fun h => ?_⟩
   ·simp
   ·omega
 | succ n ih =>
  intro M k m hn hk hM hm hm2 hl
  cases M with
  | zero=>omega
  | succ M =>
   have hlt:k<ps.length:=by omega
   obtain ⟨p1,p2⟩:=hps ps[k] (List.getElem_mem hlt)
   have hg:0<Nat.gcd m ps[k].toNat:=Nat.gcd_pos_of_pos_left _ (by omega)
   have hq:(m:Int).tdiv (Nat.gcd m ps[k].toNat:Int)=((m / Nat.gcd m ps[k].toNat:Nat):Int):=by
    rw [Int.tdiv_eq_ediv_of_nonneg (by omega)];rfl
   have hqle:m / Nat.gcd m ps[k].toNat≤m:=Nat.div_le_self _ _
   have hmul:((m / Nat.gcd m ps[k].toNat:Nat):Int) * ps[k]=(Nat.lcm m ps[k].toNat:Int):=by
    have e1:ps[k]=(ps[k].toNat:Int):=by omega
    have e2:Nat.lcm m ps[k].toNat=m / Nat.gcd m ps[k].toNat * ps[k].toNat:=by
     rw [Nat.lcm,Nat.mul_comm m,Nat.mul_div_assoc _ (Nat.gcd_dvd_left _ _),Nat.mul_comm]
    rw [e2,Int.natCast_mul,← e1]
   have hlcm:Nat.lcm m ps[k].toNat≤960 * 960:=by
    have h1:m / Nat.gcd m ps[k].toNat * ps[k].toNat≤960 * 960:=Nat.mul_le_mul (by omega) (by omega)
    have e2:Nat.lcm m ps[k].toNat=m / Nat.gcd m ps[k].toNat * ps[k].toNat:=by
     rw [Nat.lcm,Nat.mul_comm m,Nat.mul_div_assoc _ (Nat.gcd_dvd_left _ _),Nat.mul_comm]
    omega
   have hlpos:0<Nat.lcm m ps[k].toNat:=Nat.lcm_pos (by omega) (by omega)
   have hbody:Zaj N 960 ps (m:Int) (k:Int)=if 960<Nat.lcm m ps[k].toNat then some (.inr (Nat.lcm m ps[k].toNat:Int)) else some (.inl ((Nat.lcm m ps[k].toNat:Int),((k+1:Nat):Int))):=by
    simp only [Zaj]
    rw [if_pos (by simpa using hlt),ZfI,List.getElem?_eq_getElem hlt,Option.bind_some,Zft (by omega) (by omega) (by omega),Option.bind_some,Int.toNat_natCast,ZmW (by omega),Option.bind_some,hq]
    have hq0:(0:Int)≤((m / Nat.gcd m ps[k].toNat:Nat):Int):=Int.natCast_nonneg _
    have hq1:((m / Nat.gcd m ps[k].toNat:Nat):Int)≤960:=Int.ofNat_le.2 (Nat.le_trans hqle hm2)
    have e3:IntKind.i64.wrap ((m / Nat.gcd m ps[k].toNat:Nat):Int)=((m / Nat.gcd m ps[k].toNat:Nat):Int):=ZbR (Int.le_trans (by decide) hq0) (Int.le_trans hq1 (by decide))
    rw [e3,hmul,ZbR (by omega) (by omega),ZbR (by omega) (by omega)]
    by_cases hc:960<Nat.lcm m ps[k].toNat
    ·rw [if_pos (by simp;omega),if_pos hc]
    ·rw [if_neg (by simp;omega),if_neg hc];simp
   rw [Zkq hlt,List.foldl_cons]
   by_cases hc:960<Nat.lcm m ps[k].toNat
   ·refine ⟨(Nat.lcm m ps[k].toNat:Int),Zbn (by rw [hbody,if_pos hc]),fun h => ?_,fun _ => ?_⟩
    ·omega
    ·exact Nat.lt_of_lt_of_le hc (mono _ _ (fun q hq=>(hps q (List.mem_of_mem_drop hq)).1) hlpos)
   ·rw [ZcJ (by rw [hbody,if_neg hc])]
    exact ih M (k+1) _ (by omega) (by omega) (by omega) (by omega) (by omega) hl
theorem ZiM:∀ (l:List Zs) (m:Nat),(l.map Zs.Period).foldl (fun a p=>Nat.lcm a p.toNat) m=Nat.lcm m (lcmP l)
 | [],m=>by simp [lcmP,Nat.lcm_one_right]
 | s::l,m=>by simp only [List.map_cons,List.foldl_cons,lcmP];rw [ZiM l,Nat.lcm_assoc]
def Zll (l:List Zs):Int × Int:=if 32<l.length then (0,3) else if allV l=true then (if lcmP l≤960 then ((lcmP l:Int),0) else (0,6)) else (0,330)
theorem Zlq {l:List Zs} (h:allV l=true):∀ s ∈ l,VSpan s:=by
 unfold allV at h
 rw [List.all_eq_true] at h
 exact fun s hs=>by simpa using h s hs
theorem Zhb {N:Nat} (hN:2000≤N) (l:List Zs):Zcg N l=some (Zll l):=by
 unfold Zcg Zll
 rw [ZfD (by omega)]
 simp only [Option.bind_some]
 by_cases h:32<l.length
 ·simp [h]
 ·by_cases hv:allV l=true
  ·simp only [h,hv,if_true,if_false,bne_self_eq_false,Bool.false_eq_true]
   have hmk:ZhZ 8 (l.length:Int) (l.length:Int) (0:Int)=some (List.replicate l.length 0):=by
    unfold ZhZ;rw [if_pos (by omega)];simp
   rw [hmk,Option.bind_some]
   have hloop:∀ (n M k:Nat),l.length - k=n→k≤l.length→n<M→Zac (fun x:Int × List Int=>ZaD N l x.1 x.2) M ((k:Int),(l.map Zs.Period).take k++List.replicate (l.length - k) 0)=some (l.map Zs.Period):=by
    intro n
    induction n with
    | zero =>
     intro M k hn hk hM
     have:k=l.length:=by omega
     subst this
     cases M with
     | zero=>omega
     | succ M =>
      refine Zbn ?_
      simp only [ZaD]
      rw [if_neg (by simp)]
      simp [List.take_of_length_le]
    | succ n ih =>
     intro M k hn hk hM
     cases M with
     | zero=>omega
     | succ M =>
      have hlt:k<l.length:=by omega
      have hc:=ih M (k+1) (by omega) (by omega) (by omega)
      rw [ZcJ (y:=(((k+1:Nat):Int),(l.map Zs.Period).take (k+1)++List.replicate (l.length - (k+1)) 0)),hc]
      simp only [ZaD]
      have hlen:((l.map Zs.Period).take k++List.replicate (l.length - k) 0).length=l.length:=by simp;omega
      rw [if_pos (by simpa using hlt),ZfI,List.getElem?_eq_getElem hlt,Option.bind_some,ZfI,List.getElem?_eq_getElem (by omega),Option.bind_some,ZbR (by omega) (by omega)]
      have hset:List.set ((l.map Zs.Period).take k++List.replicate (l.length - k) 0) k l[k].Period=(l.map Zs.Period).take (k+1)++List.replicate (l.length - (k+1)) 0:=by
       rw [List.set_append_right _ _ (by simp;omega)]
       have e1:k - ((l.map Zs.Period).take k).length=0:=by simp;omega
       rw [e1,show l.length - k=(l.length - (k+1))+1 by omega,List.replicate_succ,List.set_cons_zero,List.take_succ_eq_append_getElem (by simpa using hlt)]
       simp
      simp only [Int.toNat_natCast,hset]
      rfl
   have hc:=hloop l.length N 0 (by omega) (by omega) (by omega)
   simp only [List.take_zero,List.nil_append,Nat.sub_zero] at hc
   rw [show ((0:Nat):Int)=0 from rfl] at hc
   rw [hc,Option.bind_some]
   have hVl:=Zlq hv
   obtain ⟨r,h1,h2,h3⟩:=Zgq hN (ps:=l.map Zs.Period) (fun p hp=>by
    obtain ⟨s,hs,rfl⟩:=List.mem_map.1 hp
    have:=(hVl s hs).bounds;omega) l.length N 0 1 (by simp) (by omega) (by omega) (by omega) (by omega) (by simp;omega)
   rw [List.drop_zero,ZiM,Nat.lcm_one_left] at h2 h3
   have hf:ZcH N 960 (l.map Zs.Period)=some r:=by
    unfold ZcH
    have h1':Zac (fun x:Int × Int=>Zaj N 960 (l.map Zs.Period) x.1 x.2) N (1,0)=some r:=h1
    rw [h1',Option.bind_some]
   rw [hf,Option.bind_some]
   by_cases hc2:960<r
   ·rw [if_pos (by simpa using hc2),if_neg (by have:=h3 hc2;omega)]
   ·have:=h2 (by omega)
    rw [if_neg (by simpa using hc2),if_pos (by omega),this]
  ·simp [h,hv]
end Go.Sh
set_option linter.unusedVariables false
set_option linter.unusedSimpArgs false
namespace Go.Sh
open Go Go.Eng
theorem bezout:∀ (b a:Nat),∃ p q:Int,(Nat.gcd a b:Int)=a * p+b * q:=by
 intro b
 induction b using Nat.strongRecOn with
 | _ b ih =>
  intro a
  by_cases hb:b=0
  ·subst hb;exact ⟨1,0,by simp⟩
  ·obtain ⟨p,q,h⟩:=ih (a % b) (Nat.mod_lt _ (Nat.pos_of_ne_zero hb)) b
   refine ⟨q,p - (a / b:Nat) * q,?_⟩
   have e1:Nat.gcd a b=Nat.gcd b (a % b):=by rw [Nat.gcd_comm a b,Nat.gcd_rec b a,Nat.gcd_comm]
   have e2:((a % b:Nat):Int)=(a:Int) - b * (a / b:Nat):=by
    have:=Nat.div_add_mod a b
    have:((b * (a / b)+a % b:Nat):Int)=(a:Int):=by rw [this]
    rw [Int.natCast_add,Int.natCast_mul] at this
    omega
   rw [e1,h,e2,Int.sub_mul,Int.mul_sub,Int.mul_assoc]
   omega
theorem crt {m n:Nat} (hm:0<m) (hn:0<n) {x y:Int} (h:(y - x) % (Nat.gcd m n:Int)=0):∃ z:Int,0≤z∧z<(m:Int) * n∧(z - x) % m=0∧(z - y) % n=0:=by
 obtain ⟨p,q,hpq⟩:=bezout n m
 obtain ⟨c,hc⟩:=Int.dvd_of_emod_eq_zero h
 have hmn:0<(m:Int) * n:=Int.mul_pos (by omega) (by omega)
 refine ⟨(x+m * (p * c)) % (m * n),Int.emod_nonneg _ (by omega),Int.emod_lt_of_pos _ hmn,?_,?_⟩
 ·rw [Int.sub_emod,Int.emod_emod_of_dvd _ (Int.dvd_mul_right _ _),← Int.sub_emod]
  rw [show x+(m:Int) * (p * c) - x=m * (p * c) by omega]
  exact Int.mul_emod_right _ _
 ·rw [Int.sub_emod,Int.emod_emod_of_dvd _ (Int.dvd_mul_left _ _),← Int.sub_emod]
  have:x+(m:Int) * (p * c) - y=n * (-(q * c)):=by
   have h1:y - x=(m:Int) * p * c+n * q * c:=by rw [hc,hpq,Int.add_mul]
   rw [Int.mul_neg,← Int.mul_assoc,← Int.mul_assoc]
   omega
  rw [this]
  exact Int.mul_emod_right _ _
theorem Zf3 {a b g:Int}:(a - b) % g=0↔a % g=b % g:=by
 constructor
 ·intro h
  exact Int.emod_eq_emod_iff_emod_sub_eq_zero.2 h
 ·intro h
  exact Int.emod_eq_emod_iff_emod_sub_eq_zero.1 h
theorem Zky {a b:Zs} (ha:VSpan a) (hb:VSpan b):SepD a b (b.From - a.From)↔∀ x:Nat,(x:Int)<a.Period * b.Period→¬ (((x:Int) - a.From) % a.Period<a.Long∧((x:Int) - b.From) % b.Period<b.Long):=by
 obtain ⟨a1,a2,a3,a4,a5,a6⟩:=ha.bounds
 obtain ⟨b1,b2,b3,b4,b5,b6⟩:=hb.bounds
 have hg0:0<gP a b:=Zlj a1
 have hga:gP a b ∣ a.Period:=ZkU a1
 have hgb:gP a b ∣ b.Period:=Zkm b1
 have hs:=sep_iff (d:=b.From - a.From) hg0 a5 b5
 unfold SepD
 rw [← hs]
 constructor
 ·rintro h x _ ⟨hx1,hx2⟩
  have m0:=Int.emod_nonneg ((x:Int) - a.From) (show a.Period ≠ 0 by omega)
  have n0:=Int.emod_nonneg ((x:Int) - b.From) (show b.Period ≠ 0 by omega)
  refine h (((x:Int) - a.From) % a.Period - ((x:Int) - b.From) % b.Period) (by omega) (by omega) ?_
  obtain ⟨q1,hq1⟩:=hga
  obtain ⟨q2,hq2⟩:=hgb
  have e1:=Int.mul_ediv_add_emod ((x:Int) - a.From) a.Period
  have e2:=Int.mul_ediv_add_emod ((x:Int) - b.From) b.Period
  generalize ((x:Int) - a.From) / a.Period=k1 at e1
  generalize ((x:Int) - b.From) / b.Period=k2 at e2
  have e3:b.From - a.From - (((x:Int) - a.From) % a.Period - ((x:Int) - b.From) % b.Period)=gP a b * (q1 * k1 - q2 * k2):=by
   have f1:a.Period * k1=gP a b * (q1 * k1):=by rw [← Int.mul_assoc,← hq1]
   have f2:b.Period * k2=gP a b * (q2 * k2):=by rw [← Int.mul_assoc,← hq2]
   rw [Int.mul_sub]
   omega
  rw [e3]
  exact Int.mul_emod_right _ _
 ·intro h y hy1 hy2 hy
  have hcrt:∀ u v:Int,u - v=y→0≤u→u<a.Long→0≤v→v<b.Long→False:=by
   intro u v huv u0 u1 v0 v1
   obtain ⟨z,z0,z1,z2,z3⟩:=crt (m:=a.Period.toNat) (n:=b.Period.toNat) (by omega) (by omega) (x:=a.From+u) (y:=b.From+v) (by
    rw [show b.From+v - (a.From+u)=b.From - a.From - y by omega];exact hy)
   rw [Int.toNat_of_nonneg (by omega)] at z1 z2
   rw [Int.toNat_of_nonneg (by omega)] at z1 z3
   refine h z.toNat (by rw [Int.toNat_of_nonneg z0];exact z1) ⟨?_,?_⟩
   ·rw [Int.toNat_of_nonneg z0]
    have:(z - a.From) % a.Period=u % a.Period:=Zf3.1 (by rw [show z - a.From - u=z - (a.From+u) by omega];exact z2)
    rw [this,Int.emod_eq_of_lt u0 (by omega)]
    exact u1
   ·rw [Int.toNat_of_nonneg z0]
    have:(z - b.From) % b.Period=v % b.Period:=Zf3.1 (by rw [show z - b.From - v=z - (b.From+v) by omega];exact z3)
    rw [this,Int.emod_eq_of_lt v0 (by omega)]
    exact v1
  by_cases h0:0≤y
  ·exact hcrt y 0 (by omega) h0 hy2 (by omega) (by omega)
  ·exact hcrt 0 (-y) (by omega) (by omega) (by omega) (by omega) (by omega)
theorem ZmY {d g:Int} (hg:0<g):(-d) % g=if d % g=0 then 0 else g - d % g:=by
 have h0:=Int.emod_nonneg d (show g ≠ 0 by omega)
 have h1:=Int.emod_lt_of_pos d hg
 have hd:=Int.mul_ediv_add_emod d g
 split
 ·rename_i h
  have : -d=g * (-(d / g)):=by rw [Int.mul_neg];omega
  rw [this];exact Int.mul_emod_right _ _
 ·rename_i h
  have : -d=(g - d % g)+g * (-(d / g) - 1):=by rw [Int.mul_sub,Int.mul_neg];omega
  rw [this,Int.add_mul_emod_self_left]
  exact Int.emod_eq_of_lt (by omega) (by omega)
theorem ZmQ {a b:Zs} (ha:VSpan a) (hb:VSpan b):SepD b a (a.From - b.From)↔SepD a b (b.From - a.From):=by
 obtain ⟨a1,a2,a3,a4,a5,a6⟩:=ha.bounds
 obtain ⟨b1,b2,b3,b4,b5,b6⟩:=hb.bounds
 have hg0:0<gP a b:=Zlj a1
 have h0:=Int.emod_nonneg (b.From - a.From) (show gP a b ≠ 0 by omega)
 have h1:=Int.emod_lt_of_pos (b.From - a.From) hg0
 unfold SepD
 rw [gP_comm b a,show a.From - b.From = -(b.From - a.From) by omega,ZmY hg0]
 split<;>omega
end Go.Sh
