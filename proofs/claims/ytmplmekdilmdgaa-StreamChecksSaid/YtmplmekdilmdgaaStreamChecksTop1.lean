/- Part of the proof; written by a program out of the texts in wip/. -/
import Derived.Test.YtmplmekdilmdgaaStreamChecksBase
set_option linter.unusedVariables false
set_option linter.unusedSimpArgs false
namespace Go.Sh
open Go Go.Eng
def allB (n:Nat) (p:Nat→Bool):Bool:=(List.range n).all p
theorem ZaV {n:Nat} {p:Nat→Bool}:allB n p=true↔∀ k,k<n→p k=true:=by simp [allB]
theorem ZkJ {n:Nat} {p q:Nat→Bool} (h:∀ k,k<n→p k=q k):allB n p=allB n q:=by
 rw [Bool.eq_iff_iff,ZaV,ZaV]
 exact ⟨fun hp k hk=>by rw [← h k hk];exact hp k hk,fun hp k hk=>by rw [h k hk];exact hp k hk⟩
theorem Zpi (n:Nat) (p q:Nat→Bool):allB n (fun k=>p k&&q k)=(allB n p&&allB n q):=by
 rw [Bool.eq_iff_iff,Bool.and_eq_true,ZaV,ZaV,ZaV]
 simp only [Bool.and_eq_true]
 exact ⟨fun h=>⟨fun k hk=>(h k hk).1,fun k hk=>(h k hk).2⟩,fun h k hk=>⟨h.1 k hk,h.2 k hk⟩⟩
theorem Zau {ρ:Type} {n:Nat} {p:Nat→Bool} {body:Int→Option (Int ⊕ ρ)} {bad fin:ρ} (hstep:∀ k:Nat,k<n→body (k:Int)=if p k=true then some (.inl ((k+1:Nat):Int)) else some (.inr bad))
  (hend:body (n:Int)=some (.inr fin)) {N:Nat} (hN:n<N):Z2 body N 0=some (if allB n p then fin else bad):=by
 have key:∀ (m N k:Nat),n - k=m→k≤n→m<N→Z2 body N (k:Int)=some (if (List.range' k m).all p then fin else bad):=by
  intro m
  induction m with
  | zero =>
   intro N k h1 h2 h3
   obtain rfl:k=n:=by omega
   cases N with
   | zero=>omega
   | succ N=>rw [Zbr hend];rfl
  | succ m ih =>
   intro N k h1 h2 h3
   cases N with
   | zero=>omega
   | succ N =>
    rw [List.range'_succ,List.all_cons]
    by_cases hp:p k=true
    ·rw [Zdp (by rw [hstep k (by omega),if_pos hp]),ih N (k+1) (by omega) (by omega) (by omega),hp,Bool.true_and]
    ·rw [Zbr (by rw [hstep k (by omega),if_neg hp])]
     simp [hp]
 have:=key n N 0 (by omega) (by omega) hN
 rw [← List.range_eq_range'] at this
 exact this
theorem Zjy {β ρ:Type} {n:Nat} {p:Nat→Bool} {f:β→Nat→β} {body:Int × β→Option ((Int × β) ⊕ ρ)} {bad:ρ} {fin:β→ρ} (I:Nat→β→Prop)
  (hstep:∀ k b,k<n→I k b→body ((k:Int),b)=if p k=true then some (.inl (((k+1:Nat):Int),f b k)) else some (.inr bad)) (hI:∀ k b,k<n→I k b→p k=true→I (k+1) (f b k))
  (hend:∀ b,I n b→body ((n:Int),b)=some (.inr (fin b))) {N:Nat} (hN:n<N) {b0:β} (h0:I 0 b0):Z2 body N (0,b0)=some (if allB n p then fin ((List.range n).foldl f b0) else bad)∧(allB n p=true→I n ((List.range n).foldl f b0)):=by
 have key:∀ (m N k:Nat) (b:β),n - k=m→k≤n→m<N→I k b→Z2 body N ((k:Int),b)=some (if (List.range' k m).all p then fin ((List.range' k m).foldl f b) else bad)∧((List.range' k m).all p=true→I n ((List.range' k m).foldl f b)):=by
  intro m
  induction m with
  | zero =>
   intro N k b h1 h2 h3 hb
   obtain rfl:k=n:=by omega
   cases N with
   | zero=>omega
   | succ N=>exact ⟨by rw [Zbr (hend b hb)];rfl,fun _=>hb⟩
  | succ m ih =>
   intro N k b h1 h2 h3 hb
   cases N with
   | zero=>omega
   | succ N =>
    rw [List.range'_succ,List.all_cons,List.foldl_cons]
    by_cases hp:p k=true
    ·obtain ⟨i1,i2⟩:=ih N (k+1) (f b k) (by omega) (by omega) (by omega) (hI k b (by omega) hb hp)
     rw [hp,Bool.true_and]
     exact ⟨by rw [Zdp (by rw [hstep k b (by omega) hb,if_pos hp]),i1],i2⟩
    ·refine ⟨?_,fun h => ?_⟩
     ·rw [Zbr (by rw [hstep k b (by omega) hb,if_neg hp])];simp [hp]
     ·simp [hp] at h
 obtain ⟨h1,h2⟩:=key n N 0 b0 (by omega) (by omega) hN h0
 rw [← List.range_eq_range'] at h1 h2
 exact ⟨h1,h2⟩
theorem ZcF {β ρ:Type} {n:Nat} {f:β→Nat→β} {body:Int × β→Option ((Int × β) ⊕ ρ)} {fin:β→ρ} (I:Nat→β→Prop)
  (hstep:∀ k b,k<n→I k b→body ((k:Int),b)=some (.inl (((k+1:Nat):Int),f b k))) (hI:∀ k b,k<n→I k b→I (k+1) (f b k))
  (hend:∀ b,I n b→body ((n:Int),b)=some (.inr (fin b))) {N:Nat} (hN:n<N) {b0:β} (h0:I 0 b0):Z2 body N (0,b0)=some (fin ((List.range n).foldl f b0))∧I n ((List.range n).foldl f b0):=by
 have key:∀ (m N k:Nat) (b:β),n - k=m→k≤n→m<N→I k b→Z2 body N ((k:Int),b)=some (fin ((List.range' k m).foldl f b))∧I n ((List.range' k m).foldl f b):=by
  intro m
  induction m with
  | zero =>
   intro N k b h1 h2 h3 hb
   obtain rfl:k=n:=by omega
   cases N with
   | zero=>omega
   | succ N=>exact ⟨by rw [Zbr (hend b hb)];rfl,hb⟩
  | succ m ih =>
   intro N k b h1 h2 h3 hb
   cases N with
   | zero=>omega
   | succ N =>
    obtain ⟨i1,i2⟩:=ih N (k+1) (f b k) (by omega) (by omega) (by omega) (hI k b (by omega) hb)
    exact ⟨by rw [Zdp (hstep k b (by omega) hb),i1];rfl,i2⟩
 obtain ⟨h1,h2⟩:=key n N 0 b0 (by omega) (by omega) hN h0
 rw [← List.range_eq_range'] at h1 h2
 exact ⟨h1,h2⟩
theorem ZjD {α β:Type} (d:α) (l:List α) (f:β→α→β) (b:β):(List.range l.length).foldl (fun b k=>f b (l.getD k d)) b=l.foldl f b:=by
 have h:(List.range l.length).map (fun k=>l.getD k d)=l:=Zol l.length d l rfl rfl
 conv=>rhs;rw [← h]
 rw [List.foldl_map]
theorem ZS {n:Nat} (h:n<1000000):w64 ((n:Int)+1)=((n+1:Nat):Int):=by rw [Z5 (by omega) (by omega)];omega
theorem ZcB {α:Type} {l:List α} {k:Nat} (h:k<l.length):idx l (k:Int)=some l[k]:=by rw [idx_nat,List.getElem?_eq_getElem h]
theorem Zbk {α:Type} {l:List α} {i:Int} (d:α) (h0:0≤i) (h:i<l.length):idx l i=some (l.getD i.toNat d):=by
 rw [Zkw h0 (by omega)]
 simp [List.getD_eq_getElem?_getD,List.getElem?_eq_getElem (show i.toNat<l.length by omega)]
theorem ZjJ {α:Type} [BEq α] [LawfulBEq α] (l:List α) (x:α):(match (List.range' 0 l.length).find? (fun k=>x==l.getD k x) with | some j=>(j:Int) | none => -1) ≥ 0↔l.contains x=true:=by
 rw [← List.range_eq_range']
 cases h:(List.range l.length).find? (fun k=>x==l.getD k x) with
 | none =>
  simp only [List.find?_eq_none,List.mem_range] at h
  constructor
  ·intro h;exact absurd h (by decide)
  ·intro hc
   rw [List.contains_iff_mem] at hc
   obtain ⟨k,hk,rfl⟩:=List.getElem_of_mem hc
   exact absurd (by simp [List.getD_eq_getElem?_getD,hk]) (h k hk)
 | some j =>
  have h1:=List.find?_some h
  have h2:=List.mem_of_find?_eq_some h
  simp only [List.mem_range] at h2
  constructor
  ·intro _
   rw [List.contains_iff_mem]
   have:l.getD j x=l[j]:=by simp [List.getD_eq_getElem?_getD,h2]
   rw [this] at h1
   rw [eq_of_beq h1]
   exact List.getElem_mem h2
  ·intro _;exact Int.natCast_nonneg j
theorem Zes {N:Nat} {l:List Bool} (h:l.length<N) (h':l.length<1000) (x:Bool):ZaD N l x=some (l.contains x):=by
 unfold ZaD Zbv
 have:=Zjz (q:=fun k=>x==l.getD k x) (P:=l.length) (body:=fun i=>Z7 N l x i) (bad:=.inl ()) (good:=fun k=>.inr (k:Int)) (fun k hk=>by
  unfold Z7
  rw [if_pos (by simp;omega),ZcB hk,Option.bind_some]
  have:l.getD k x=l[k]:=by simp [List.getD_eq_getElem?_getD,hk]
  simp only [this]
  split
  ·rfl
  ·rw [ZS (by omega)]) (by unfold Z7;rw [if_neg (by simp)]) l.length N 0 (by omega) (by omega) h
 rw [show ((0:Nat):Int)=0 from rfl] at this
 rw [this]
 have hc:=ZjJ l x
 cases hf:(List.range' 0 l.length).find? (fun k=>x==l.getD k x) with
 | none =>
  rw [hf] at hc
  have hcf:l.contains x=false:=by
   cases hl:l.contains x with
   | false=>rfl
   | true=>exact absurd (hc.2 hl) (by decide)
  rw [hcf];rfl
 | some j =>
  rw [hf] at hc
  have:=hc.1 (Int.natCast_nonneg j)
  simp only [Option.bind_some,this]
  simp
theorem ZeP {N:Nat} {l:List Int} (h:l.length<N) (h':l.length<1000) (x:Int):ZaM N l x=some (l.contains x):=by
 unfold ZaM ZbX
 have:=Zjz (q:=fun k=>x==l.getD k x) (P:=l.length) (body:=fun i=>Zaf N l x i) (bad:=.inl ()) (good:=fun k=>.inr (k:Int)) (fun k hk=>by
  unfold Zaf
  rw [if_pos (by simp;omega),ZcB hk,Option.bind_some]
  have:l.getD k x=l[k]:=by simp [List.getD_eq_getElem?_getD,hk]
  simp only [this]
  split
  ·rfl
  ·rw [ZS (by omega)]) (by unfold Zaf;rw [if_neg (by simp)]) l.length N 0 (by omega) (by omega) h
 rw [show ((0:Nat):Int)=0 from rfl] at this
 rw [this]
 have hc:=ZjJ l x
 cases hf:(List.range' 0 l.length).find? (fun k=>x==l.getD k x) with
 | none =>
  rw [hf] at hc
  have hcf:l.contains x=false:=by
   cases hl:l.contains x with
   | false=>rfl
   | true=>exact absurd (hc.2 hl) (by decide)
  rw [hcf];rfl
 | some j =>
  rw [hf] at hc
  have:=hc.1 (Int.natCast_nonneg j)
  simp only [Option.bind_some,this]
  simp
theorem ZfN {N:Nat} {l:List Int} (h:l.length<N) (h':l.length<1000) (x:Int):Zfb N l x=some (l.contains x):=by
 unfold Zfb
 have:=Zau (n:=l.length) (p:=fun k => !(l.getD k 0==x)) (body:=fun i=>Zdx N l x i) (bad:=.inr true) (fin:=.inl ()) (fun k hk=>by
  unfold Zdx
  rw [if_pos (by simp;omega),ZcB hk,Option.bind_some]
  have:l.getD k 0=l[k]:=by simp [List.getD_eq_getElem?_getD,hk]
  simp only [this,ZS (show k<1000000 by omega)]
  cases l[k]==x<;>rfl) (by unfold Zdx;rw [if_neg (by simp)]) h
 rw [this]
 by_cases hc:l.contains x=true
 ·rw [if_neg,hc];rfl
  rw [ZaV]
  rw [List.contains_iff_mem] at hc
  obtain ⟨k,hk,rfl⟩:=List.getElem_of_mem hc
  intro h
  have:=h k hk
  simp [List.getD_eq_getElem?_getD,hk] at this
 ·rw [if_pos]
  ·simp only [Bool.not_eq_true] at hc;rw [hc];rfl
  ·rw [ZaV]
   intro k hk
   have hne:l[k] ≠ x:=fun e=>hc (by rw [List.contains_iff_mem,← e];exact List.getElem_mem hk)
   simp [List.getD_eq_getElem?_getD,hk,hne]
end Go.Sh

