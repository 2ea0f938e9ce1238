/- Part of the proof; written by a program out of the texts in wip/. -/
import Derived.Test.YthipedbbcjemhaaGreatPlanCoversBase
set_option linter.unusedVariables false
set_option linter.unusedSimpArgs false
namespace Go.Sh
open Go Go.Eng
theorem ZpG {α:Type} {b:Nat} {l m:List α} (h:l.length+m.length≤100000) (hb:b≤100000):appI b l m=some (l++m):=by
 unfold appI
 rw [if_pos]
 have:(l.length+m.length) * b≤100000 * 100000:=Nat.mul_le_mul h hb
 omega
def allV (l:List ZF):Bool:=l.all fun s=>decide (VSpan s)
theorem ZhT {N:Nat} (hN:100≤N) (l:List ZF):ZcC N l=some (if 32<l.length then 3 else if allV l then 0 else 330):=by
 unfold ZcC
 by_cases h:32<l.length
 ·rw [if_pos (by simp;omega),if_pos h]
 ·rw [if_neg (by simp;omega),if_neg h]
  have:=ZnF (l:=l) (p:=fun s=>decide (VSpan s)) (body:=fun x:Int=>ZaO N l x) (bad:=.inr 330) (fin:=.inl ()) (fun k hk=>by
   simp only [ZaO]
   rw [if_pos (by simpa using hk),Zhc,List.getElem?_eq_getElem hk,Option.bind_some,ZjG,Option.bind_some]
   by_cases hv:VSpan l[k]
   ·simp only [hv,if_true,bne_self_eq_false,Bool.false_eq_true,if_false,decide_true]
    rw [ZP (by omega) (by omega)];simp
   ·simp [hv]) (by simp [ZaO]) l.length N 0 (by omega) (by omega) (by omega)
  rw [show ((0:Nat):Int)=0 from rfl] at this
  rw [this,Option.bind_some,List.drop_zero]
  have e:(l.all fun s=>decide (VSpan s))=allV l:=rfl
  rw [e]
  cases allV l<;>rfl
end Go.Sh
set_option linter.unusedVariables false
set_option linter.unusedSimpArgs false
namespace Go.Sh
open Go Go.Eng
def lcmP:List ZF→Nat
 | []=>1
 | s::l=>Nat.lcm s.Period.toNat (lcmP l)
theorem ZiR {N:Nat} (hN:2000≤N) {ps:List Int} (hps:∀ p ∈ ps,1≤p∧p≤960):∀ (n M k:Nat) (m:Nat),ps.length - k=n→k≤ps.length→n<M→1≤m→m≤960→ps.length≤1000 →
  ∃ r,Z2 (fun x:Int × Int=>Za6 N 960 ps x.1 x.2) M ((m:Int),(k:Int))=some r ∧
   (r≤960→r=((ps.drop k).foldl (fun a p=>Nat.lcm a p.toNat) m:Nat))∧(960<r→960<(ps.drop k).foldl (fun a p=>Nat.lcm a p.toNat) m):=by
 have mono:∀ (l:List Int) (a:Nat),(∀ p ∈ l,1≤p)→0<a→a≤l.foldl (fun a p=>Nat.lcm a p.toNat) a:=by
  intro l
  induction l with
  | nil=>intro a _ _;exact Nat.le_refl _
  | cons p l ih =>
   intro a hp ha
   simp only [List.foldl_cons]
   have h1:=hp p (by simp)
   have hpos:0<Nat.lcm a p.toNat:=Nat.lcm_pos ha (by omega)
   exact Nat.le_trans (Nat.le_of_dvd hpos (Nat.dvd_lcm_left _ _)) (ih _ (fun q hq=>hp q (by simp [hq])) hpos)
 intro n
 induction n with
 | zero =>
  intro M k m hn hk hM hm hm2 hl
  have:k=ps.length:=by omega
  subst this
  cases M with
  | zero=>omega
  | succ M =>
   refine ⟨(m:Int),ZaH (by simp only [Za6];rw [if_neg (by simp)]),fun _ => ?_,fun h => ?_⟩
   ·simp
   ·omega
 | succ n ih =>
  intro M k m hn hk hM hm hm2 hl
  cases M with
  | zero=>omega
  | succ M =>
   have hlt:k<ps.length:=by omega
   obtain ⟨p1,p2⟩:=hps ps[k] (List.getElem_mem hlt)
   have hg:0<Nat.gcd m ps[k].toNat:=Nat.gcd_pos_of_pos_left _ (by omega)
   have hq:(m:Int).tdiv (Nat.gcd m ps[k].toNat:Int)=((m / Nat.gcd m ps[k].toNat:Nat):Int):=by
    rw [Int.tdiv_eq_ediv_of_nonneg (by omega)];rfl
   have hqle:m / Nat.gcd m ps[k].toNat≤m:=Nat.div_le_self _ _
   have hmul:((m / Nat.gcd m ps[k].toNat:Nat):Int) * ps[k]=(Nat.lcm m ps[k].toNat:Int):=by
    have e1:ps[k]=(ps[k].toNat:Int):=by omega
    have e2:Nat.lcm m ps[k].toNat=m / Nat.gcd m ps[k].toNat * ps[k].toNat:=by
     rw [Nat.lcm,Nat.mul_comm m,Nat.mul_div_assoc _ (Nat.gcd_dvd_left _ _),Nat.mul_comm]
    rw [e2,Int.natCast_mul,← e1]
   have hlcm:Nat.lcm m ps[k].toNat≤960 * 960:=by
    have h1:m / Nat.gcd m ps[k].toNat * ps[k].toNat≤960 * 960:=Nat.mul_le_mul (by omega) (by omega)
    have e2:Nat.lcm m ps[k].toNat=m / Nat.gcd m ps[k].toNat * ps[k].toNat:=by
     rw [Nat.lcm,Nat.mul_comm m,Nat.mul_div_assoc _ (Nat.gcd_dvd_left _ _),Nat.mul_comm]
    omega
   have hlpos:0<Nat.lcm m ps[k].toNat:=Nat.lcm_pos (by omega) (by omega)
   have hbody:Za6 N 960 ps (m:Int) (k:Int)=if 960<Nat.lcm m ps[k].toNat then some (.inr (Nat.lcm m ps[k].toNat:Int)) else some (.inl ((Nat.lcm m ps[k].toNat:Int),((k+1:Nat):Int))):=by
    simp only [Za6]
    rw [if_pos (by simpa using hlt),Zhc,List.getElem?_eq_getElem hlt,Option.bind_some,Zlm (by omega) (by omega) (by omega),Option.bind_some,Int.toNat_natCast,ZjQ (by omega),Option.bind_some,hq]
    have hq0:(0:Int)≤((m / Nat.gcd m ps[k].toNat:Nat):Int):=Int.natCast_nonneg _
    have hq1:((m / Nat.gcd m ps[k].toNat:Nat):Int)≤960:=Int.ofNat_le.2 (Nat.le_trans hqle hm2)
    have e3:IntKind.i64.wrap ((m / Nat.gcd m ps[k].toNat:Nat):Int)=((m / Nat.gcd m ps[k].toNat:Nat):Int):=ZP (Int.le_trans (by decide) hq0) (Int.le_trans hq1 (by decide))
    rw [e3,hmul,ZP (by omega) (by omega),ZP (by omega) (by omega)]
    by_cases hc:960<Nat.lcm m ps[k].toNat
    ·rw [if_pos (by simp;omega),if_pos hc]
    ·rw [if_neg (by simp;omega),if_neg hc];simp
   rw [ZnN hlt,List.foldl_cons]
   by_cases hc:960<Nat.lcm m ps[k].toNat
   ·refine ⟨(Nat.lcm m ps[k].toNat:Int),ZaH (by rw [hbody,if_pos hc]),fun h => ?_,fun _ => ?_⟩
    ·omega
    ·exact Nat.lt_of_lt_of_le hc (mono _ _ (fun q hq=>(hps q (List.mem_of_mem_drop hq)).1) hlpos)
   ·rw [Zb5 (by rw [hbody,if_neg hc])]
    exact ih M (k+1) _ (by omega) (by omega) (by omega) (by omega) (by omega) hl
theorem ZlT:∀ (l:List ZF) (m:Nat),(l.map ZF.Period).foldl (fun a p=>Nat.lcm a p.toNat) m=Nat.lcm m (lcmP l)
 | [],m=>by simp [lcmP,Nat.lcm_one_right]
 | s::l,m=>by simp only [List.map_cons,List.foldl_cons,lcmP];rw [ZlT l,Nat.lcm_assoc]
def ZoV (l:List ZF):Int × Int:=if 32<l.length then (0,3) else if allV l=true then (if lcmP l≤960 then ((lcmP l:Int),0) else (0,6)) else (0,330)
theorem Zrn {l:List ZF} (h:allV l=true):∀ s ∈ l,VSpan s:=by
 unfold allV at h
 rw [List.all_eq_true] at h
 exact fun s hs=>by simpa using h s hs
theorem ZjF {N:Nat} (hN:2000≤N) (l:List ZF):ZdN N l=some (ZoV l):=by
 unfold ZdN ZoV
 rw [ZhT (by omega)]
 simp only [Option.bind_some]
 by_cases h:32<l.length
 ·simp [h]
 ·by_cases hv:allV l=true
  ·simp only [h,hv,if_true,if_false,bne_self_eq_false,Bool.false_eq_true]
   have hmk:Zh2 8 (l.length:Int) (l.length:Int) (0:Int)=some (List.replicate l.length 0):=by
    unfold Zh2;rw [if_pos (by omega)];simp
   rw [hmk,Option.bind_some]
   have hloop:∀ (n M k:Nat),l.length - k=n→k≤l.length→n<M→Z2 (fun x:Int × List Int=>Zbu N l x.1 x.2) M ((k:Int),(l.map ZF.Period).take k++List.replicate (l.length - k) 0)=some (l.map ZF.Period):=by
    intro n
    induction n with
    | zero =>
     intro M k hn hk hM
     have:k=l.length:=by omega
     subst this
     cases M with
     | zero=>omega
     | succ M =>
      refine ZaH ?_
      simp only [Zbu]
      rw [if_neg (by simp)]
      simp [List.take_of_length_le]
    | succ n ih =>
     intro M k hn hk hM
     cases M with
     | zero=>omega
     | succ M =>
      have hlt:k<l.length:=by omega
      have hc:=ih M (k+1) (by omega) (by omega) (by omega)
      rw [Zb5 (y:=(((k+1:Nat):Int),(l.map ZF.Period).take (k+1)++List.replicate (l.length - (k+1)) 0)),hc]
      simp only [Zbu]
      have hlen:((l.map ZF.Period).take k++List.replicate (l.length - k) 0).length=l.length:=by simp;omega
      rw [if_pos (by simpa using hlt),Zhc,List.getElem?_eq_getElem hlt,Option.bind_some,Zhc,List.getElem?_eq_getElem (by omega),Option.bind_some,ZP (by omega) (by omega)]
      have hset:List.set ((l.map ZF.Period).take k++List.replicate (l.length - k) 0) k l[k].Period=(l.map ZF.Period).take (k+1)++List.replicate (l.length - (k+1)) 0:=by
       rw [List.set_append_right _ _ (by simp;omega)]
       have e1:k - ((l.map ZF.Period).take k).length=0:=by simp;omega
       rw [e1,show l.length - k=(l.length - (k+1))+1 by omega,List.replicate_succ,List.set_cons_zero,List.take_succ_eq_append_getElem (by simpa using hlt)]
       simp
      simp only [Int.toNat_natCast,hset]
      rfl
   have hc:=hloop l.length N 0 (by omega) (by omega) (by omega)
   simp only [List.take_zero,List.nil_append,Nat.sub_zero] at hc
   rw [show ((0:Nat):Int)=0 from rfl] at hc
   rw [hc,Option.bind_some]
   have hVl:=Zrn hv
   obtain ⟨r,h1,h2,h3⟩:=ZiR hN (ps:=l.map ZF.Period) (fun p hp=>by
    obtain ⟨s,hs,rfl⟩:=List.mem_map.1 hp
    have:=(hVl s hs).bounds;omega) l.length N 0 1 (by simp) (by omega) (by omega) (by omega) (by omega) (by simp;omega)
   rw [List.drop_zero,ZlT,Nat.lcm_one_left] at h2 h3
   have hf:Zes N 960 (l.map ZF.Period)=some r:=by
    unfold Zes
    have h1':Z2 (fun x:Int × Int=>Za6 N 960 (l.map ZF.Period) x.1 x.2) N (1,0)=some r:=h1
    rw [h1',Option.bind_some]
   rw [hf,Option.bind_some]
   by_cases hc2:960<r
   ·rw [if_pos (by simpa using hc2),if_neg (by have:=h3 hc2;omega)]
   ·have:=h2 (by omega)
    rw [if_neg (by simpa using hc2),if_pos (by omega),this]
  ·simp [h,hv]
end Go.Sh
set_option linter.unusedVariables false
set_option linter.unusedSimpArgs false
namespace Go.Sh
open Go Go.Eng
def allB (n:Nat) (p:Nat→Bool):Bool:=(List.range n).all p
theorem Zba {n:Nat} {p:Nat→Bool}:allB n p=true↔∀ k,k<n→p k=true:=by simp [allB]
theorem Zl3 {n:Nat} {p q:Nat→Bool} (h:∀ k,k<n→p k=q k):allB n p=allB n q:=by
 rw [Bool.eq_iff_iff,Zba,Zba]
 exact ⟨fun hp k hk=>by rw [← h k hk];exact hp k hk,fun hp k hk=>by rw [h k hk];exact hp k hk⟩
theorem Zrp (n:Nat) (p q:Nat→Bool):allB n (fun k=>p k&&q k)=(allB n p&&allB n q):=by
 rw [Bool.eq_iff_iff,Bool.and_eq_true,Zba,Zba,Zba]
 simp only [Bool.and_eq_true]
 exact ⟨fun h=>⟨fun k hk=>(h k hk).1,fun k hk=>(h k hk).2⟩,fun h k hk=>⟨h.1 k hk,h.2 k hk⟩⟩
theorem Zbl {ρ:Type} {n:Nat} {p:Nat→Bool} {body:Int→Option (Int ⊕ ρ)} {bad fin:ρ} (hstep:∀ k:Nat,k<n→body (k:Int)=if p k=true then some (.inl ((k+1:Nat):Int)) else some (.inr bad))
  (hend:body (n:Int)=some (.inr fin)) {N:Nat} (hN:n<N):Z2 body N 0=some (if allB n p then fin else bad):=by
 have key:∀ (m N k:Nat),n - k=m→k≤n→m<N→Z2 body N (k:Int)=some (if (List.range' k m).all p then fin else bad):=by
  intro m
  induction m with
  | zero =>
   intro N k h1 h2 h3
   obtain rfl:k=n:=by omega
   cases N with
   | zero=>omega
   | succ N=>rw [ZaH hend];rfl
  | succ m ih =>
   intro N k h1 h2 h3
   cases N with
   | zero=>omega
   | succ N =>
    rw [List.range'_succ,List.all_cons]
    by_cases hp:p k=true
    ·rw [Zb5 (by rw [hstep k (by omega),if_pos hp]),ih N (k+1) (by omega) (by omega) (by omega),hp,Bool.true_and]
    ·rw [ZaH (by rw [hstep k (by omega),if_neg hp])]
     simp [hp]
 have:=key n N 0 (by omega) (by omega) hN
 rw [← List.range_eq_range'] at this
 exact this
theorem Zoi {β ρ:Type} {n:Nat} {p:Nat→Bool} {f:β→Nat→β} {body:Int × β→Option ((Int × β) ⊕ ρ)} {bad:ρ} {fin:β→ρ} (I:Nat→β→Prop)
  (hstep:∀ k b,k<n→I k b→body ((k:Int),b)=if p k=true then some (.inl (((k+1:Nat):Int),f b k)) else some (.inr bad)) (hI:∀ k b,k<n→I k b→p k=true→I (k+1) (f b k))
  (hend:∀ b,I n b→body ((n:Int),b)=some (.inr (fin b))) {N:Nat} (hN:n<N) {b0:β} (h0:I 0 b0):Z2 body N (0,b0)=some (if allB n p then fin ((List.range n).foldl f b0) else bad)∧(allB n p=true→I n ((List.range n).foldl f b0)):=by
 have key:∀ (m N k:Nat) (b:β),n - k=m→k≤n→m<N→I k b→Z2 body N ((k:Int),b)=some (if (List.range' k m).all p then fin ((List.range' k m).foldl f b) else bad)∧((List.range' k m).all p=true→I n ((List.range' k m).foldl f b)):=by
  intro m
  induction m with
  | zero =>
   intro N k b h1 h2 h3 hb
   obtain rfl:k=n:=by omega
   cases N with
   | zero=>omega
   | succ N=>exact ⟨by rw [ZaH (hend b hb)];rfl,fun _=>hb⟩
  | succ m ih =>
   intro N k b h1 h2 h3 hb
   cases N with
   | zero=>omega
   | succ N =>
    rw [List.range'_succ,List.all_cons,List.foldl_cons]
    by_cases hp:p k=true
    ·obtain ⟨i1,i2⟩:=ih N (k+1) (f b k) (by omega) (by omega) (by omega) (hI k b (by omega) hb hp)
     rw [hp,Bool.true_and]
     exact ⟨by rw [Zb5 (by rw [hstep k b (by omega) hb,if_pos hp]),i1],i2⟩
    ·refine ⟨?_,fun h => ?_⟩
     ·rw [ZaH (by rw [hstep k b (by omega) hb,if_neg hp])];simp [hp]
     ·simp [hp] at h
 obtain ⟨h1,h2⟩:=key n N 0 b0 (by omega) (by omega) hN h0
 rw [← List.range_eq_range'] at h1 h2
 exact ⟨h1,h2⟩
theorem ZdJ {β ρ:Type} {n:Nat} {f:β→Nat→β} {body:Int × β→Option ((Int × β) ⊕ ρ)} {fin:β→ρ} (I:Nat→β→Prop)
  (hstep:∀ k b,k<n→I k b→body ((k:Int),b)=some (.inl (((k+1:Nat):Int),f b k))) (hI:∀ k b,k<n→I k b→I (k+1) (f b k))
  (hend:∀ b,I n b→body ((n:Int),b)=some (.inr (fin b))) {N:Nat} (hN:n<N) {b0:β} (h0:I 0 b0):Z2 body N (0,b0)=some (fin ((List.range n).foldl f b0))∧I n ((List.range n).foldl f b0):=by
 have key:∀ (m N k:Nat) (b:β),n - k=m→k≤n→m<N→I k b→Z2 body N ((k:Int),b)=some (fin ((List.range' k m).foldl f b))∧I n ((List.range' k m).foldl f b):=by
  intro m
  induction m with
  | zero =>
   intro N k b h1 h2 h3 hb
   obtain rfl:k=n:=by omega
   cases N with
   | zero=>omega
   | succ N=>exact ⟨by rw [ZaH (hend b hb)];rfl,hb⟩
  | succ m ih =>
   intro N k b h1 h2 h3 hb
   cases N with
   | zero=>omega
   | succ N =>
    obtain ⟨i1,i2⟩:=ih N (k+1) (f b k) (by omega) (by omega) (by omega) (hI k b (by omega) hb)
    exact ⟨by rw [Zb5 (hstep k b (by omega) hb),i1];rfl,i2⟩
 obtain ⟨h1,h2⟩:=key n N 0 b0 (by omega) (by omega) hN h0
 rw [← List.range_eq_range'] at h1 h2
 exact ⟨h1,h2⟩
theorem ZkT {α β:Type} (d:α) (l:List α) (f:β→α→β) (b:β):(List.range l.length).foldl (fun b k=>f b (l.getD k d)) b=l.foldl f b:=by
 have h:(List.range l.length).map (fun k=>l.getD k d)=l:=Zp7 l.length d l rfl rfl
 conv=>rhs;rw [← h]
 rw [List.foldl_map]
theorem ZT {n:Nat} (h:n<1000000):w64 ((n:Int)+1)=((n+1:Nat):Int):=by rw [ZP (by omega) (by omega)];omega
theorem Zcz {α:Type} {l:List α} {k:Nat} (h:k<l.length):idx l (k:Int)=some l[k]:=by rw [Zhc,List.getElem?_eq_getElem h]
theorem ZcR {α:Type} {l:List α} {i:Int} (d:α) (h0:0≤i) (h:i<l.length):idx l i=some (l.getD i.toNat d):=by
 rw [ZlO h0 (by omega)]
 simp [List.getD_eq_getElem?_getD,List.getElem?_eq_getElem (show i.toNat<l.length by omega)]
theorem ZkZ {α:Type} [BEq α] [LawfulBEq α] (l:List α) (x:α):(match (List.range' 0 l.length).find? (fun k=>x==l.getD k x) with | some j=>(j:Int) | none => -1) ≥ 0↔l.contains x=true:=by
 rw [← List.range_eq_range']
 cases h:(List.range l.length).find? (fun k=>x==l.getD k x) with
 | none =>
  simp only [List.find?_eq_none,List.mem_range] at h
  constructor
  ·intro h;exact absurd h (by decide)
  ·intro hc
   rw [List.contains_iff_mem] at hc
   obtain ⟨k,hk,rfl⟩:=List.getElem_of_mem hc
   exact absurd (by simp [List.getD_eq_getElem?_getD,hk]) (h k hk)
 | some j =>
  have h1:=List.find?_some h
  have h2:=List.mem_of_find?_eq_some h
  simp only [List.mem_range] at h2
  constructor
  ·intro _
   rw [List.contains_iff_mem]
   have:l.getD j x=l[j]:=by simp [List.getD_eq_getElem?_getD,h2]
   rw [this] at h1
   rw [eq_of_beq h1]
   exact List.getElem_mem h2
  ·intro _;exact Int.natCast_nonneg j
theorem ZeD {N:Nat} {l:List Bool} (h:l.length<N) (h':l.length<1000) (x:Bool):ZaF N l x=some (l.contains x):=by
 unfold ZaF ZbB
 have:=ZkN (q:=fun k=>x==l.getD k x) (P:=l.length) (body:=fun i=>Zad N l x i) (bad:=.inl ()) (good:=fun k=>.inr (k:Int)) (fun k hk=>by
  unfold Zad
  rw [if_pos (by simp;omega),Zcz hk,Option.bind_some]
  have:l.getD k x=l[k]:=by simp [List.getD_eq_getElem?_getD,hk]
  simp only [this]
  split
  ·rfl
  ·rw [ZT (by omega)]) (by unfold Zad;rw [if_neg (by simp)]) l.length N 0 (by omega) (by omega) h
 rw [show ((0:Nat):Int)=0 from rfl] at this
 rw [this]
 have hc:=ZkZ l x
 cases hf:(List.range' 0 l.length).find? (fun k=>x==l.getD k x) with
 | none =>
  rw [hf] at hc
  have hcf:l.contains x=false:=by
   cases hl:l.contains x with
   | false=>rfl
   | true=>exact absurd (hc.2 hl) (by decide)
  rw [hcf];rfl
 | some j =>
  rw [hf] at hc
  have:=hc.1 (Int.natCast_nonneg j)
  simp only [Option.bind_some,this]
  simp
theorem Ze3 {N:Nat} {l:List Int} (h:l.length<N) (h':l.length<1000) (x:Int):ZaZ N l x=some (l.contains x):=by
 unfold ZaZ ZbZ
 have:=ZkN (q:=fun k=>x==l.getD k x) (P:=l.length) (body:=fun i=>Zal N l x i) (bad:=.inl ()) (good:=fun k=>.inr (k:Int)) (fun k hk=>by
  unfold Zal
  rw [if_pos (by simp;omega),Zcz hk,Option.bind_some]
  have:l.getD k x=l[k]:=by simp [List.getD_eq_getElem?_getD,hk]
  simp only [this]
  split
  ·rfl
  ·rw [ZT (by omega)]) (by unfold Zal;rw [if_neg (by simp)]) l.length N 0 (by omega) (by omega) h
 rw [show ((0:Nat):Int)=0 from rfl] at this
 rw [this]
 have hc:=ZkZ l x
 cases hf:(List.range' 0 l.length).find? (fun k=>x==l.getD k x) with
 | none =>
  rw [hf] at hc
  have hcf:l.contains x=false:=by
   cases hl:l.contains x with
   | false=>rfl
   | true=>exact absurd (hc.2 hl) (by decide)
  rw [hcf];rfl
 | some j =>
  rw [hf] at hc
  have:=hc.1 (Int.natCast_nonneg j)
  simp only [Option.bind_some,this]
  simp
theorem ZhW {N:Nat} {l:List Int} (h:l.length<N) (h':l.length<1000) (x:Int):Zgg N l x=some (l.contains x):=by
 unfold Zgg
 have:=Zbl (n:=l.length) (p:=fun k => !(l.getD k 0==x)) (body:=fun i=>ZdD N l x i) (bad:=.inr true) (fin:=.inl ()) (fun k hk=>by
  unfold ZdD
  rw [if_pos (by simp;omega),Zcz hk,Option.bind_some]
  have:l.getD k 0=l[k]:=by simp [List.getD_eq_getElem?_getD,hk]
  simp only [this,ZT (show k<1000000 by omega)]
  cases l[k]==x<;>rfl) (by unfold ZdD;rw [if_neg (by simp)]) h
 rw [this]
 by_cases hc:l.contains x=true
 ·rw [if_neg,hc];rfl
  rw [Zba]
  rw [List.contains_iff_mem] at hc
  obtain ⟨k,hk,rfl⟩:=List.getElem_of_mem hc
  intro h
  have:=h k hk
  simp [List.getD_eq_getElem?_getD,hk] at this
 ·rw [if_pos]
  ·simp only [Bool.not_eq_true] at hc;rw [hc];rfl
  ·rw [Zba]
   intro k hk
   have hne:l[k] ≠ x:=fun e=>hc (by rw [List.contains_iff_mem,← e];exact List.getElem_mem hk)
   simp [List.getD_eq_getElem?_getD,hk,hne]
end Go.Sh

