/- Part of the proof; written by a program out of the texts in wip/. -/
import Derived.Test.YtmplmekdilmdgaaStreamHopsSh
namespace Go.Sh
open Go Go.Eng
theorem ZV {x:Int} (h : -9223372036854775808≤x) (h2:x≤9223372036854775807):w64 x=x:=by
 unfold w64 IntKind.wrap
 simp only [IntKind.bits,IntKind.signed]
 by_cases h0:0≤x
 ·have:x % (2 ^ 64:Int)=x:=Int.emod_eq_of_lt h0 (by omega)
  simp only [this]
  rw [if_neg]
  simp;omega
 ·have:x % (2 ^ 64:Int)=x+2 ^ 64:=by
   rw [← Int.add_emod_right]
   exact Int.emod_eq_of_lt (by omega) (by omega)
  simp only [this]
  rw [if_pos]
  ·omega
  ·simp;omega
theorem Zku {σ ρ:Type} (body:σ→Option (σ ⊕ ρ)) (m:Nat) (x:σ):Zac body (m+1) x=match body x with
  | none=>none
  | some (.inl y)=>Zac body m y
  | some (.inr r)=>some r:=rfl
theorem ZcS {σ ρ:Type} {body:σ→Option (σ ⊕ ρ)} {m:Nat} {x y:σ} (h:body x=some (.inl y)):Zac body (m+1) x=Zac body m y:=by rw [Zku,h]
theorem Zbq {σ ρ:Type} {body:σ→Option (σ ⊕ ρ)} {m:Nat} {x:σ} {r:ρ} (h:body x=some (.inr r)):Zac body (m+1) x=some r:=by rw [Zku,h]
theorem Ze5 {σ ρ:Type} {body:σ→Option (σ ⊕ ρ)} (I:σ→Prop) (μ:σ→Nat) (Post:ρ→Prop)
  (step:∀ x,I x→(∃ y,body x=some (.inl y)∧I y∧μ y<μ x)∨(∃ r,body x=some (.inr r)∧Post r)):∀ (N:Nat) (x:σ),I x→μ x<N→∃ r,Zac body N x=some r∧Post r
 | 0,x,_,h=>by omega
 | N+1,x,hI,h=>by
  rcases step x hI with ⟨y,h1,h2,h3⟩ | ⟨r,h1,h2⟩
  ·rw [ZcS h1]
   exact Ze5 I μ Post step N y h2 (by omega)
  ·exact ⟨r,by rw [Zbq h1],h2⟩
theorem idx_nat {α:Type} (l:List α) (k:Nat):idx l (k:Int)=l[k]?:=by
 unfold idx
 rw [if_pos (by omega)]
 rfl
theorem Zkv {α:Type} {l:List α} {i:Int} (h0:0≤i) (h:i.toNat<l.length):idx l i=some l[i.toNat]:=by
 unfold idx
 rw [if_pos h0]
 exact List.getElem?_eq_getElem h
theorem ZoY {a b:Int} (h:b ≠ 0):remI a b=some (a.tmod b):=by unfold remI;rw [if_neg h]
theorem Zo0 {k:IntKind} {a b:Int} (h:b ≠ 0):quoI k a b=some (k.wrap (a.tdiv b)):=by unfold quoI;rw [if_neg h]
theorem ZjA {ρ:Type} {q:Nat→Bool} {P:Nat} {body:Int→Option (Int ⊕ ρ)} {bad:ρ} {good:Nat→ρ} (hstep:∀ k:Nat,k<P→body (k:Int)=if q k=true then some (.inr (good k)) else some (.inl ((k+1:Nat):Int)))
  (hend:body (P:Int)=some (.inr bad)):∀ (n N k:Nat),P - k=n→k≤P→n<N→Zac body N (k:Int)=some (match (List.range' k n).find? q with | some j=>good j | none=>bad):=by
 intro n
 induction n with
 | zero =>
  intro N k hn hk hN
  have:k=P:=by omega
  subst this
  cases N with
  | zero=>omega
  | succ N=>rw [Zbq hend];simp
 | succ n ih =>
  intro N k hn hk hN
  cases N with
  | zero=>omega
  | succ N =>
   have hlt:k<P:=by omega
   rw [List.range'_succ,List.find?_cons]
   by_cases hp:q k=true
   ·rw [Zbq (by rw [hstep k hlt,if_pos hp])]
    simp [hp]
   ·rw [ZcS (by rw [hstep k hlt,if_neg hp]),ih N (k+1) (by omega) (by omega) (by omega)]
    simp [hp]
end Go.Sh

set_option linter.unusedVariables false
set_option linter.unusedSimpArgs false
namespace Go.Sh
open Go Go.Eng
def allB (n:Nat) (p:Nat→Bool):Bool:=(List.range n).all p
theorem Za8 {n:Nat} {p:Nat→Bool}:allB n p=true↔∀ k,k<n→p k=true:=by simp [allB]
theorem ZkJ {n:Nat} {p q:Nat→Bool} (h:∀ k,k<n→p k=q k):allB n p=allB n q:=by
 rw [Bool.eq_iff_iff,Za8,Za8]
 exact ⟨fun hp k hk=>by rw [← h k hk];exact hp k hk,fun hp k hk=>by rw [h k hk];exact hp k hk⟩
theorem Zpg (n:Nat) (p q:Nat→Bool):allB n (fun k=>p k&&q k)=(allB n p&&allB n q):=by
 rw [Bool.eq_iff_iff,Bool.and_eq_true,Za8,Za8,Za8]
 simp only [Bool.and_eq_true]
 exact ⟨fun h=>⟨fun k hk=>(h k hk).1,fun k hk=>(h k hk).2⟩,fun h k hk=>⟨h.1 k hk,h.2 k hk⟩⟩
theorem Za0 {ρ:Type} {n:Nat} {p:Nat→Bool} {body:Int→Option (Int ⊕ ρ)} {bad fin:ρ} (hstep:∀ k:Nat,k<n→body (k:Int)=if p k=true then some (.inl ((k+1:Nat):Int)) else some (.inr bad))
  (hend:body (n:Int)=some (.inr fin)) {N:Nat} (hN:n<N):Zac body N 0=some (if allB n p then fin else bad):=by
 have key:∀ (m N k:Nat),n - k=m→k≤n→m<N→Zac body N (k:Int)=some (if (List.range' k m).all p then fin else bad):=by
  intro m
  induction m with
  | zero =>
   intro N k h1 h2 h3
   obtain rfl:k=n:=by omega
   cases N with
   | zero=>omega
   | succ N=>rw [Zbq hend];rfl
  | succ m ih =>
   intro N k h1 h2 h3
   cases N with
   | zero=>omega
   | succ N =>
    rw [List.range'_succ,List.all_cons]
    by_cases hp:p k=true
    ·rw [ZcS (by rw [hstep k (by omega),if_pos hp]),ih N (k+1) (by omega) (by omega) (by omega),hp,Bool.true_and]
    ·rw [Zbq (by rw [hstep k (by omega),if_neg hp])]
     simp [hp]
 have:=key n N 0 (by omega) (by omega) hN
 rw [← List.range_eq_range'] at this
 exact this
theorem Zjz {β ρ:Type} {n:Nat} {p:Nat→Bool} {f:β→Nat→β} {body:Int × β→Option ((Int × β) ⊕ ρ)} {bad:ρ} {fin:β→ρ} (I:Nat→β→Prop)
  (hstep:∀ k b,k<n→I k b→body ((k:Int),b)=if p k=true then some (.inl (((k+1:Nat):Int),f b k)) else some (.inr bad)) (hI:∀ k b,k<n→I k b→p k=true→I (k+1) (f b k))
  (hend:∀ b,I n b→body ((n:Int),b)=some (.inr (fin b))) {N:Nat} (hN:n<N) {b0:β} (h0:I 0 b0):Zac body N (0,b0)=some (if allB n p then fin ((List.range n).foldl f b0) else bad)∧(allB n p=true→I n ((List.range n).foldl f b0)):=by
 have key:∀ (m N k:Nat) (b:β),n - k=m→k≤n→m<N→I k b→Zac body N ((k:Int),b)=some (if (List.range' k m).all p then fin ((List.range' k m).foldl f b) else bad)∧((List.range' k m).all p=true→I n ((List.range' k m).foldl f b)):=by
  intro m
  induction m with
  | zero =>
   intro N k b h1 h2 h3 hb
   obtain rfl:k=n:=by omega
   cases N with
   | zero=>omega
   | succ N=>exact ⟨by rw [Zbq (hend b hb)];rfl,fun _=>hb⟩
  | succ m ih =>
   intro N k b h1 h2 h3 hb
   cases N with
   | zero=>omega
   | succ N =>
    rw [List.range'_succ,List.all_cons,List.foldl_cons]
    by_cases hp:p k=true
    ·obtain ⟨i1,i2⟩:=ih N (k+1) (f b k) (by omega) (by omega) (by omega) (hI k b (by omega) hb hp)
     rw [hp,Bool.true_and]
     exact ⟨by rw [ZcS (by rw [hstep k b (by omega) hb,if_pos hp]),i1],i2⟩
    ·refine ⟨?_,fun h => ?_⟩
     ·rw [Zbq (by rw [hstep k b (by omega) hb,if_neg hp])];simp [hp]
     ·simp [hp] at h
 obtain ⟨h1,h2⟩:=key n N 0 b0 (by omega) (by omega) hN h0
 rw [← List.range_eq_range'] at h1 h2
 exact ⟨h1,h2⟩
theorem ZcF {β ρ:Type} {n:Nat} {f:β→Nat→β} {body:Int × β→Option ((Int × β) ⊕ ρ)} {fin:β→ρ} (I:Nat→β→Prop)
  (hstep:∀ k b,k<n→I k b→body ((k:Int),b)=some (.inl (((k+1:Nat):Int),f b k))) (hI:∀ k b,k<n→I k b→I (k+1) (f b k))
  (hend:∀ b,I n b→body ((n:Int),b)=some (.inr (fin b))) {N:Nat} (hN:n<N) {b0:β} (h0:I 0 b0):Zac body N (0,b0)=some (fin ((List.range n).foldl f b0))∧I n ((List.range n).foldl f b0):=by
 have key:∀ (m N k:Nat) (b:β),n - k=m→k≤n→m<N→I k b→Zac body N ((k:Int),b)=some (fin ((List.range' k m).foldl f b))∧I n ((List.range' k m).foldl f b):=by
  intro m
  induction m with
  | zero =>
   intro N k b h1 h2 h3 hb
   obtain rfl:k=n:=by omega
   cases N with
   | zero=>omega
   | succ N=>exact ⟨by rw [Zbq (hend b hb)];rfl,hb⟩
  | succ m ih =>
   intro N k b h1 h2 h3 hb
   cases N with
   | zero=>omega
   | succ N =>
    obtain ⟨i1,i2⟩:=ih N (k+1) (f b k) (by omega) (by omega) (by omega) (hI k b (by omega) hb)
    exact ⟨by rw [ZcS (hstep k b (by omega) hb),i1];rfl,i2⟩
 obtain ⟨h1,h2⟩:=key n N 0 b0 (by omega) (by omega) hN h0
 rw [← List.range_eq_range'] at h1 h2
 exact ⟨h1,h2⟩
theorem ZjE {α β:Type} (d:α) (l:List α) (f:β→α→β) (b:β):(List.range l.length).foldl (fun b k=>f b (l.getD k d)) b=l.foldl f b:=by
 have h:(List.range l.length).map (fun k=>l.getD k d)=l:=Zoi l.length d l rfl rfl
 conv=>rhs;rw [← h]
 rw [List.foldl_map]
theorem ZW {n:Nat} (h:n<1000000):w64 ((n:Int)+1)=((n+1:Nat):Int):=by rw [ZV (by omega) (by omega)];omega
theorem ZcH {α:Type} {l:List α} {k:Nat} (h:k<l.length):idx l (k:Int)=some l[k]:=by rw [idx_nat,List.getElem?_eq_getElem h]
theorem Zbu {α:Type} {l:List α} {i:Int} (d:α) (h0:0≤i) (h:i<l.length):idx l i=some (l.getD i.toNat d):=by
 rw [Zkv h0 (by omega)]
 simp [List.getD_eq_getElem?_getD,List.getElem?_eq_getElem (show i.toNat<l.length by omega)]
theorem ZjK {α:Type} [BEq α] [LawfulBEq α] (l:List α) (x:α):(match (List.range' 0 l.length).find? (fun k=>x==l.getD k x) with | some j=>(j:Int) | none => -1) ≥ 0↔l.contains x=true:=by
 rw [← List.range_eq_range']
 cases h:(List.range l.length).find? (fun k=>x==l.getD k x) with
 | none =>
  simp only [List.find?_eq_none,List.mem_range] at h
  constructor
  ·intro h;exact absurd h (by decide)
  ·intro hc
   rw [List.contains_iff_mem] at hc
   obtain ⟨k,hk,rfl⟩:=List.getElem_of_mem hc
   exact absurd (by simp [List.getD_eq_getElem?_getD,hk]) (h k hk)
 | some j =>
  have h1:=List.find?_some h
  have h2:=List.mem_of_find?_eq_some h
  simp only [List.mem_range] at h2
  constructor
  ·intro _
   rw [List.contains_iff_mem]
   have:l.getD j x=l[j]:=by simp [List.getD_eq_getElem?_getD,h2]
   rw [this] at h1
   rw [eq_of_beq h1]
   exact List.getElem_mem h2
  ·intro _;exact Int.natCast_nonneg j
theorem Zej {N:Nat} {l:List Bool} (h:l.length<N) (h':l.length<1000) (x:Bool):ZaK N l x=some (l.contains x):=by
 unfold ZaK ZbE
 have:=ZjA (q:=fun k=>x==l.getD k x) (P:=l.length) (body:=fun i=>Zad N l x i) (bad:=.inl ()) (good:=fun k=>.inr (k:Int)) (fun k hk=>by
  unfold Zad
  rw [if_pos (by simp;omega),ZcH hk,Option.bind_some]
  have:l.getD k x=l[k]:=by simp [List.getD_eq_getElem?_getD,hk]
  simp only [this]
  split
  ·rfl
  ·rw [ZW (by omega)]) (by unfold Zad;rw [if_neg (by simp)]) l.length N 0 (by omega) (by omega) h
 rw [show ((0:Nat):Int)=0 from rfl] at this
 rw [this]
 have hc:=ZjK l x
 cases hf:(List.range' 0 l.length).find? (fun k=>x==l.getD k x) with
 | none =>
  rw [hf] at hc
  have hcf:l.contains x=false:=by
   cases hl:l.contains x with
   | false=>rfl
   | true=>exact absurd (hc.2 hl) (by decide)
  rw [hcf];rfl
 | some j =>
  rw [hf] at hc
  have:=hc.1 (Int.natCast_nonneg j)
  simp only [Option.bind_some,this]
  simp
theorem ZeG {N:Nat} {l:List Int} (h:l.length<N) (h':l.length<1000) (x:Int):ZaV N l x=some (l.contains x):=by
 unfold ZaV ZbY
 have:=ZjA (q:=fun k=>x==l.getD k x) (P:=l.length) (body:=fun i=>Zam N l x i) (bad:=.inl ()) (good:=fun k=>.inr (k:Int)) (fun k hk=>by
  unfold Zam
  rw [if_pos (by simp;omega),ZcH hk,Option.bind_some]
  have:l.getD k x=l[k]:=by simp [List.getD_eq_getElem?_getD,hk]
  simp only [this]
  split
  ·rfl
  ·rw [ZW (by omega)]) (by unfold Zam;rw [if_neg (by simp)]) l.length N 0 (by omega) (by omega) h
 rw [show ((0:Nat):Int)=0 from rfl] at this
 rw [this]
 have hc:=ZjK l x
 cases hf:(List.range' 0 l.length).find? (fun k=>x==l.getD k x) with
 | none =>
  rw [hf] at hc
  have hcf:l.contains x=false:=by
   cases hl:l.contains x with
   | false=>rfl
   | true=>exact absurd (hc.2 hl) (by decide)
  rw [hcf];rfl
 | some j =>
  rw [hf] at hc
  have:=hc.1 (Int.natCast_nonneg j)
  simp only [Option.bind_some,this]
  simp
theorem ZfE {N:Nat} {l:List Int} (h:l.length<N) (h':l.length<1000) (x:Int):Ze3 N l x=some (l.contains x):=by
 unfold Ze3
 have:=Za0 (n:=l.length) (p:=fun k => !(l.getD k 0==x)) (body:=fun i=>Zdl N l x i) (bad:=.inr true) (fin:=.inl ()) (fun k hk=>by
  unfold Zdl
  rw [if_pos (by simp;omega),ZcH hk,Option.bind_some]
  have:l.getD k 0=l[k]:=by simp [List.getD_eq_getElem?_getD,hk]
  simp only [this,ZW (show k<1000000 by omega)]
  cases l[k]==x<;>rfl) (by unfold Zdl;rw [if_neg (by simp)]) h
 rw [this]
 by_cases hc:l.contains x=true
 ·rw [if_neg,hc];rfl
  rw [Za8]
  rw [List.contains_iff_mem] at hc
  obtain ⟨k,hk,rfl⟩:=List.getElem_of_mem hc
  intro h
  have:=h k hk
  simp [List.getD_eq_getElem?_getD,hk] at this
 ·rw [if_pos]
  ·simp only [Bool.not_eq_true] at hc;rw [hc];rfl
  ·rw [Za8]
   intro k hk
   have hne:l[k] ≠ x:=fun e=>hc (by rw [List.contains_iff_mem,← e];exact List.getElem_mem hk)
   simp [List.getD_eq_getElem?_getD,hk,hne]
end Go.Sh

set_option linter.unusedVariables false
set_option linter.unusedSimpArgs false
namespace Go.Sh
open Go Go.Eng
def stB (t:Zi) (x:Int):Bool:=t.Station.getD x.toNat false
def Zdr (t:Zi) (x:Int):Bool:=decide (0≤x)&&decide (x<t.Nodes)
def dL:Zy:=⟨0,0,0,0⟩
def lk (t:Zi) (k:Nat):Zy:=t.Links.getD k dL
def ZdE (t:Zi) (l:Zy):Bool :=
 Zdr t l.A&&(Zdr t l.B&&(!(l.A==l.B)&&(!(stB t l.A&&stB t l.B)&&(decide (l.Per ≥ 1)&&(decide (l.Per≤1000)&&(decide (l.Delay ≥ 0)&&decide (l.Delay≤10000)))))))
def ZeR (l:Zy) (a b:Int):Bool:=(l.A==a&&l.B==b)||(l.A==b&&l.B==a)
def nojB (t:Zi) (k:Nat):Bool:=allB k fun j => !ZeR (lk t j) (lk t k).A (lk t k).B
def bump (b:List Int) (x:Int):List Int:=b.set x.toNat (w64 (b.getD x.toNat 0+1))
def ZjP (b:List Int) (l:Zy):List Int:=bump (bump b l.A) l.B
def degs (t:Zi):List Int:=(List.range t.Links.length).foldl (fun b k=>ZjP b (lk t k)) (List.replicate t.Nodes.toNat 0)
def degB (t:Zi) (n:Nat):Bool := !(stB t n)||(decide (1≤(degs t).getD n 0)&&decide ((degs t).getD n 0≤2))
def Zfo (l:List Bool) (k:Zy):List Bool:=if l.getD k.A.toNat false||l.getD k.B.toNat false then (l.set k.A.toNat true).set k.B.toNat true else l
def Zf6 (t:Zi) (l:List Bool):List Bool:=(List.range t.Links.length).foldl (fun b k=>Zfo b (lk t k)) l
def ZeO (t:Zi) (m:Int):List Bool:=(List.range t.Nodes.toNat).foldl (fun l _=>Zf6 t l) ((List.replicate t.Nodes.toNat false).set m.toNat true)
def Zeh (t:Zi):Bool :=
 decide (2≤t.Nodes)&&(decide (t.Nodes≤12)&&(((t.Station.length:Int)==t.Nodes)&&(decide (t.Links.length≤24) &&
  (allB t.Links.length (fun k=>ZdE t (lk t k)&&nojB t k)&&(allB t.Nodes.toNat (fun n=>(ZeO t 0).getD n false&&degB t n))))))
section
variable {N:Nat} {t:Zi}
theorem Zl4 {k:Nat} (h:k<t.Links.length):idx t.Links (k:Int)=some (lk t k):=by
 rw [ZcH h];simp [lk,List.getD_eq_getElem?_getD,h]
theorem Zek (hS:(t.Station.length:Int)=t.Nodes) {x:Int} (h:Zdr t x=true):idx t.Station x=some (stB t x):=by
 simp only [Zdr,Bool.and_eq_true,decide_eq_true_eq] at h
 exact Zbu false h.1 (by omega)
theorem Zhp (x:Int):Zex N t x=some (Zdr t x):=by simp [Zex,Zdr]
theorem ZlA (x:Int):Zfl N t x=some (Zdr t x):=by simp [Zfl,Zdr]
theorem Zhr (hS:(t.Station.length:Int)=t.Nodes) (l:Zy):Zey N t l=some (ZdE t l):=by
 unfold Zey ZdE
 rw [Zhp,Zhp]
 simp only [Option.bind_some]
 cases hA:Zdr t l.A with
 | false=>rfl
 | true =>
  cases hB:Zdr t l.B with
  | false=>rfl
  | true =>
   rw [Zek hS hA,Zek hS hB]
   cases (l.A==l.B)<;>cases stB t l.A<;>cases stB t l.B<;>rfl
theorem ZgV (l:Zy) (a b:Int):ZdS N l a b=some (ZeR l a b):=by
 unfold ZdS ZeR
 cases l.A==a<;>cases l.B==b<;>cases l.A==b<;>cases l.B==a<;>rfl
theorem Zlo (a b:Int):(a==b)=(b==a):=by
 by_cases h:a=b
 ·subst h;rfl
 ·rw [beq_false_of_ne h,beq_false_of_ne (Ne.symm h)]
theorem Zoa (hL:t.Links.length<100) (hN:t.Links.length<N) {k:Nat} (hk:k<t.Links.length) :
  Zac (fun x:Int=>Zce N t (k:Int) (lk t k) x) N 0=some (if nojB t k then .inl () else .inr false):=by
 refine Za0 (n:=k) (fun j hj => ?_) ?_ (by omega)
 ·unfold Zce
  rw [if_pos (by simp;omega),Zl4 (by omega),Option.bind_some,ZgV,Option.bind_some,ZW (by omega)]
  cases ZeR (lk t j) (lk t k).A (lk t k).B<;>rfl
 ·unfold Zce
  rw [if_neg (by simp)]
theorem ZoO (hL:t.Links.length<100) (hN:t.Links.length<N) {k:Nat} (hk:k<t.Links.length):Zd9 N (k:Int) t=some (nojB t k):=by
 unfold Zd9
 rw [Zl4 hk,Option.bind_some]
 have hsub:subI t.Links 0 (k:Int)=some (t.Links.take k):=by
  unfold subI
  rw [if_pos ⟨by omega,by omega,by omega⟩]
  simp
 rw [hsub,Option.bind_some]
 have hlen:(t.Links.take k).length=k:=by simp;omega
 have:=Za0 (n:=k) (p:=fun j => !ZeR (lk t j) (lk t k).A (lk t k).B) (body:=fun x:Int=>ZbO N (lk t k) (t.Links.take k) x) (bad:=.inr false) (fin:=.inl ()) (fun j hj=>by
  unfold ZbO
  have hj':j<(t.Links.take k).length:=by omega
  rw [if_pos (by rw [hlen];simp;omega),ZcH hj',Option.bind_some,ZW (by omega)]
  have e:(t.Links.take k)[j]=lk t j:=by simp [lk,List.getD_eq_getElem?_getD,show j<t.Links.length by omega]
  rw [e]
  unfold ZeR
  rw [Zlo (lk t k).A (lk t j).A,Zlo (lk t k).B (lk t j).B,Zlo (lk t k).A (lk t j).B,Zlo (lk t k).B (lk t j).A]
  cases (lk t j).A==(lk t k).A<;>cases (lk t j).B==(lk t k).B<;>cases (lk t j).A==(lk t k).B<;>cases (lk t j).B==(lk t k).A<;>rfl) (by unfold ZbO;rw [if_neg (by rw [hlen];simp)]) (N:=N) (by omega)
 rw [this]
 unfold nojB
 cases allB k fun j => !ZeR (lk t j) (lk t k).A (lk t k).B<;>rfl
theorem ZkU (hS:(t.Station.length:Int)=t.Nodes) (hL:t.Links.length<100) (hN:t.Links.length<N):Zfj N t=some (allB t.Links.length (fun k=>ZdE t (lk t k)&&nojB t k)):=by
 unfold Zfj
 have:=Za0 (n:=t.Links.length) (p:=fun k=>ZdE t (lk t k)&&nojB t k) (body:=fun x:Int=>Zcv N t x) (bad:=.inr false) (fin:=.inl ()) (fun k hk=>by
  unfold Zcv
  rw [if_pos (by simp;omega),ZoO hL hN hk,ZW (by omega)]
  unfold ZeY ZeX ZeW
  rw [Zl4 hk]
  simp only [Option.bind_some,ZlA]
  unfold ZdE
  cases hA:Zdr t (lk t k).A with
  | false=>rfl
  | true =>
   cases hB:Zdr t (lk t k).B with
   | false=>rfl
   | true =>
    simp only [if_true,Option.bind_some]
    rw [Zek hS hA,Zek hS hB]
    simp only [bne,Option.bind_some]
    generalize (decide ((lk t k).Per ≥ 1)&&(decide ((lk t k).Per≤1000)&&(decide ((lk t k).Delay ≥ 0)&&decide ((lk t k).Delay≤10000))))=q
    cases ((lk t k).A==(lk t k).B)<;>cases stB t (lk t k).A<;>cases stB t (lk t k).B<;>cases nojB t k<;>cases q<;>rfl) (by unfold Zcv;rw [if_neg (by simp)]) (N:=N) hN
 rw [this]
 cases allB t.Links.length (fun k=>ZdE t (lk t k)&&nojB t k)<;>rfl
theorem Zni (b:List Int) (x:Int):(bump b x).length=b.length:=by simp [bump]
theorem ZjO (b:List Int) (l:Zy):(ZjP b l).length=b.length:=by simp [ZjP,Zni]
theorem Zb5 {l:Zy} (h:ZdE t l=true):Zdr t l.A=true∧Zdr t l.B=true∧l.A ≠ l.B:=by
 simp only [ZdE,Bool.and_eq_true] at h
 refine ⟨h.1,h.2.1,?_⟩
 have:=h.2.2.1
 intro e
 simp [e] at this
theorem ZeP {x:Int}:Zdr t x=true↔0≤x∧x<t.Nodes:=by simp [Zdr]
theorem Znj {b:List Int} (hb:(b.length:Int)=t.Nodes) {l:Zy} (hA:Zdr t l.A=true) (hB:Zdr t l.B=true) :
  idx b l.A=some (b.getD l.A.toNat 0)∧idx (b.set l.A.toNat (w64 (b.getD l.A.toNat 0+1))) l.B=some ((bump b l.A).getD l.B.toNat 0):=by
 rw [ZeP] at hA hB
 exact ⟨Zbu 0 hA.1 (by omega),Zbu 0 hB.1 (by simp;omega)⟩
theorem ZiY (hT:allB t.Links.length (fun k=>ZdE t (lk t k)&&nojB t k)=true) (hn:0≤t.Nodes) (hL:t.Links.length<100) (hN:t.Links.length<N) :
  Zac (fun x:Int × (List Int)=>Zbl N t x.1 x.2) N (0,List.replicate t.Nodes.toNat 0)=some (degs t)∧((degs t).length:Int)=t.Nodes:=by
 have:=ZcF (n:=t.Links.length) (f:=fun b k=>ZjP b (lk t k)) (body:=fun x:Int × (List Int)=>Zbl N t x.1 x.2) (fin:=fun b=>b) (fun _ b=>(b.length:Int)=t.Nodes)
  (fun k b hk hb=>by
   have hl:=Za8.1 hT k hk
   simp only [Bool.and_eq_true] at hl
   obtain ⟨hA,hB,_⟩:=Zb5 hl.1
   obtain ⟨i1,i2⟩:=Znj hb hA hB
   show Zbl N t k b=_
   unfold Zbl
   rw [if_pos (by simp;omega),Zl4 hk,Option.bind_some,i1]
   simp only [Option.bind_some,i2,ZW (show k<1000000 by omega)]
   rfl)
  (fun k b hk hb=>by rw [ZjO];exact hb)
  (fun b hb=>by show Zbl N t t.Links.length b=_;unfold Zbl;rw [if_neg (by simp)]) hN (b0:=List.replicate t.Nodes.toNat 0) (by simp;omega)
 exact this
theorem Znx (hS:(t.Station.length:Int)=t.Nodes) (hn:0≤t.Nodes) (hL:t.Links.length<100) (hN:t.Links.length<N) :
  Zac (fun x:Int × (List Int)=>Za2 N t x.1 x.2) N (0,List.replicate t.Nodes.toNat 0)=some (if allB t.Links.length (fun k=>ZdE t (lk t k)&&nojB t k) then .inl (degs t) else .inr false):=by
 refine (Zjz (ρ:=List Int ⊕ Bool) (body:=fun x:Int × (List Int)=>Za2 N t x.1 x.2) (n:=t.Links.length) (f:=fun b k=>ZjP b (lk t k)) (p:=fun k=>ZdE t (lk t k)&&nojB t k) (fin:=fun b=>.inl b) (bad:=.inr false) (fun _ b=>(b.length:Int)=t.Nodes)
  (fun k b hk hb => ?_) (fun k b hk hb _=>by rw [ZjO];exact hb) (fun b hb=>by show Za2 N t t.Links.length b=_;unfold Za2;rw [if_neg (by simp)]) hN (b0:=List.replicate t.Nodes.toNat 0) (by simp;omega)).1
 show Za2 N t k b=_
 unfold Za2
 rw [if_pos (by simp;omega),Zl4 hk,Option.bind_some,Zhr hS,Option.bind_some]
 cases hl:ZdE t (lk t k) with
 | false=>rfl
 | true =>
  obtain ⟨hA,hB,_⟩:=Zb5 hl
  obtain ⟨i1,i2⟩:=Znj hb hA hB
  rw [Zoa hL hN hk]
  cases nojB t k with
  | false=>rfl
  | true =>
   simp only [Bool.not_true,Bool.false_eq_true,if_false,if_true,Option.bind_some,i1,i2,ZW (show k<1000000 by omega),Bool.and_self]
   rfl
theorem Zi9 (l:List Bool) (k:Zy):(Zfo l k).length=l.length:=by unfold Zfo;split<;>simp
theorem Zm0 {l:List Bool} {i:Nat} (h:l.getD i false=true):l.set i true=l:=by
 apply List.ext_getElem?
 intro j
 rw [List.getElem?_set]
 by_cases e:i=j
 ·subst e
  rw [if_pos rfl]
  split
  ·rename_i hl
   rw [List.getElem?_eq_getElem hl]
   simp [List.getD_eq_getElem?_getD,hl] at h
   rw [h]
  ·rename_i hl
   rw [List.getElem?_eq_none (by omega)]
 ·rw [if_neg e]
theorem ZfJ {l:List Bool} {i j:Nat} (h:l.getD j false=true):(l.set i true).getD j false=true:=by
 rw [List.getD_eq_getElem?_getD] at h ⊢
 rw [List.getElem?_set]
 split
 ·split
  ·rfl
  ·rename_i e hl
   rw [List.getElem?_eq_none (by omega)] at h
   cases h
 ·exact h
theorem ZiX (hT:allB t.Links.length (fun k=>ZdE t (lk t k)&&nojB t k)=true) (hL24:t.Links.length≤24) (hN:t.Links.length<N) (c:ZbN) (hc:∀ k:Nat,k<24→c.get (k:Int)=some false) {l:List Bool} (hl:(l.length:Int)=t.Nodes) :
  Zac (fun x:Int × (List Bool)=>Zbk N t c x.1 x.2) N (0,l)=some (Zf6 t l)∧((Zf6 t l).length:Int)=t.Nodes:=by
 have:=ZcF (n:=t.Links.length) (f:=fun b k=>Zfo b (lk t k)) (body:=fun x:Int × (List Bool)=>Zbk N t c x.1 x.2) (fin:=fun b=>b) (fun _ b=>(b.length:Int)=t.Nodes)
  (fun k b hk hb=>by
   have hl:=Za8.1 hT k hk
   simp only [Bool.and_eq_true] at hl
   obtain ⟨hA,hB,_⟩:=Zb5 hl.1
   rw [ZeP] at hA hB
   have i1:idx b (lk t k).A=some (b.getD (lk t k).A.toNat false):=Zbu false hA.1 (by omega)
   have i2:idx b (lk t k).B=some (b.getD (lk t k).B.toNat false):=Zbu false hB.1 (by omega)
   have i3:idx (b.set (lk t k).A.toNat true) (lk t k).B=some ((b.set (lk t k).A.toNat true).getD (lk t k).B.toNat false):=Zbu false hB.1 (by simp;omega)
   show Zbk N t c k b=_
   unfold Zbk
   rw [if_pos (by simp;omega),Zl4 hk,Option.bind_some,hc k (by omega)]
   simp only [Option.bind_some,i1,i2,i3,ZW (show k<1000000 by omega),Bool.not_false,if_true]
   unfold Zfo
   cases h1:b.getD (lk t k).A.toNat false with
   | false=>cases h2:b.getD (lk t k).B.toNat false<;>simp
   | true=>cases h2:b.getD (lk t k).B.toNat false with
    | false=>simp
    | true=>simp [Zm0 h1,Zm0 h2])
  (fun k b hk hb=>by rw [Zi9];exact hb)
  (fun b hb=>by show Zbk N t c t.Links.length b=_;unfold Zbk;rw [if_neg (by simp)]) hN (b0:=l) hl
 exact this
theorem Zig (hT:allB t.Links.length (fun k=>ZdE t (lk t k)&&nojB t k)=true) (hL24:t.Links.length≤24) (hN:t.Links.length<N) {l:List Bool} (hl:(l.length:Int)=t.Nodes) :
  Zac (fun x:Int × (List Bool)=>Za3 N t [] x.1 x.2) N (0,l)=some (Zf6 t l)∧((Zf6 t l).length:Int)=t.Nodes:=by
 have:=ZcF (n:=t.Links.length) (f:=fun b k=>Zfo b (lk t k)) (body:=fun x:Int × (List Bool)=>Za3 N t [] x.1 x.2) (fin:=fun b=>b) (fun _ b=>(b.length:Int)=t.Nodes)
  (fun k b hk hb=>by
   have hl:=Za8.1 hT k hk
   simp only [Bool.and_eq_true] at hl
   obtain ⟨hA,hB,_⟩:=Zb5 hl.1
   rw [ZeP] at hA hB
   have i1:idx b (lk t k).A=some (b.getD (lk t k).A.toNat false):=Zbu false hA.1 (by omega)
   have i2:idx b (lk t k).B=some (b.getD (lk t k).B.toNat false):=Zbu false hB.1 (by omega)
   have i3:idx (b.set (lk t k).A.toNat true) (lk t k).B=some ((b.set (lk t k).A.toNat true).getD (lk t k).B.toNat false):=Zbu false hB.1 (by simp;omega)
   show Za3 N t [] k b=_
   unfold Za3
   rw [if_pos (by simp;omega),Zl4 hk,Option.bind_some,ZfE (by simp;omega) (by simp)]
   simp only [Option.bind_some,i1,i2,i3,ZW (show k<1000000 by omega),List.contains_nil,Bool.not_false,if_true]
   unfold Zfo
   cases h1:b.getD (lk t k).A.toNat false<;>cases h2:b.getD (lk t k).B.toNat false<;>simp)
  (fun k b hk hb=>by rw [Zi9];exact hb)
  (fun b hb=>by show Za3 N t [] t.Links.length b=_;unfold Za3;rw [if_neg (by simp)]) hN (b0:=l) hl
 exact this
theorem Zlf {α:Type} {b:Nat} {n:Int} (z:α) (h0:0≤n) (h1:n≤1000) (hb:b≤1000):Zjv b n n z=some (List.replicate n.toNat z):=by
 unfold Zjv
 have:n * (b:Int)≤1000 * 1000:=Int.mul_le_mul h1 (by omega) (by omega) (by omega)
 rw [if_pos ⟨h0,Int.le_refl _,by omega,by omega⟩]
theorem Zhc (hT:allB t.Links.length (fun k=>ZdE t (lk t k)&&nojB t k)=true) (hL24:t.Links.length≤24) (h0:1≤t.Nodes) (h12:t.Nodes≤12) (hN:30≤N) (c:ZbN) (hc:∀ k:Nat,k<24→c.get (k:Int)=some false) {m:Int} (hm0:0≤m) (hm:m<t.Nodes) :
  Zfk N t m c=some (ZeO t m)∧((ZeO t m).length:Int)=t.Nodes:=by
 unfold Zfk
 rw [Zlf _ (by omega) (by omega) (by omega),Option.bind_some,Zbu false hm0 (by simp;omega),Option.bind_some]
 have:=ZcF (n:=t.Nodes.toNat) (f:=fun b _=>Zf6 t b) (body:=fun x:Int × (List Bool)=>ZbC N t c x.1 x.2) (fin:=fun b=>b) (fun _ b=>(b.length:Int)=t.Nodes)
  (fun k b hk hb=>by
   show ZbC N t c k b=_
   unfold ZbC
   rw [if_pos (by simp;omega),(ZiX hT hL24 (by omega) c hc hb).1,Option.bind_some,ZW (by omega)])
  (fun k b hk hb=>(ZiX hT hL24 (N:=N) (by omega) c hc hb).2)
  (fun b hb=>by show ZbC N t c t.Nodes.toNat b=_;unfold ZbC;rw [if_neg (by simp;omega)]) (N:=N) (by omega) (b0:=(List.replicate t.Nodes.toNat false).set m.toNat true) (by simp;omega)
 rw [this.1]
 exact ⟨rfl,this.2⟩
theorem Zkd (hT:allB t.Links.length (fun k=>ZdE t (lk t k)&&nojB t k)=true) (hL24:t.Links.length≤24) (h0:1≤t.Nodes) (h12:t.Nodes≤12) (hN:30≤N) {m:Int} (hm0:0≤m) (hm:m<t.Nodes) :
  ZeN N t m []=some (ZeO t m):=by
 unfold ZeN
 rw [Zlf _ (by omega) (by omega) (by omega),Option.bind_some,Zbu false hm0 (by simp;omega),Option.bind_some]
 have:=ZcF (n:=t.Nodes.toNat) (f:=fun b _=>Zf6 t b) (body:=fun x:Int × (List Bool)=>Zbo N t [] x.1 x.2) (fin:=fun b=>b) (fun _ b=>(b.length:Int)=t.Nodes)
  (fun k b hk hb=>by
   show Zbo N t [] k b=_
   unfold Zbo
   rw [if_pos (by simp;omega),(Zig hT hL24 (by omega) hb).1,Option.bind_some,ZW (by omega)])
  (fun k b hk hb=>(Zig hT hL24 (N:=N) (by omega) hb).2)
  (fun b hb=>by show Zbo N t [] t.Nodes.toNat b=_;unfold Zbo;rw [if_neg (by simp;omega)]) (N:=N) (by omega) (b0:=(List.replicate t.Nodes.toNat false).set m.toNat true) (by simp;omega)
 rw [this.1]
 rfl
theorem Zkb (hN:40≤N):ZeM N t=some (Zeh t):=by
 unfold ZeM Zeh
 by_cases h1:2≤t.Nodes
 ·by_cases h2:t.Nodes≤12
  ·by_cases h3:(t.Station.length:Int)=t.Nodes
   ·by_cases h4:t.Links.length≤24
    ·rw [if_neg (by simp;omega),Zlf _ (by omega) (by omega) (by omega),Option.bind_some,Znx h3 (by omega) (by omega) (by omega),Option.bind_some]
     have e:decide (2≤t.Nodes)=true∧decide (t.Nodes≤12)=true∧((t.Station.length:Int)==t.Nodes)=true∧decide (t.Links.length≤24)=true:=by simp [h1,h2,h3,h4]
     rw [e.1,e.2.1,e.2.2.1,e.2.2.2]
     simp only [Bool.true_and]
     cases hT:allB t.Links.length (fun k=>ZdE t (lk t k)&&nojB t k) with
     | false=>rfl
     | true =>
      simp only [if_true,Bool.true_and]
      rw [Zkd hT h4 (by omega) h2 (by omega) (by omega) (by omega),Option.bind_some]
      have hd:=(ZiY (N:=N) hT (by omega) (by omega) (by omega)).2
      have hr:=(Zhc (N:=N) hT h4 (by omega) h2 (by omega) ⟨false,false,false,false,false,false,false,false,false,false,false,false,false,false,false,false,false,false,false,false,false,false,false,false⟩ (by decide) (m:=0) (by omega) (by omega)).2
      have:=Za0 (n:=t.Nodes.toNat) (p:=fun n=>(ZeO t 0).getD n false&&degB t n) (body:=fun x:Int=>Zcd N t (degs t) (ZeO t 0) x) (bad:=.inr false) (fin:=.inl ()) (fun k hk=>by
       unfold Zcd
       have j1:idx (ZeO t 0) (k:Int)=some ((ZeO t 0).getD k false):=Zbu false (by omega) (by omega)
       have j2:idx t.Station (k:Int)=some (stB t k):=Zbu false (by omega) (by omega)
       have j3:idx (degs t) (k:Int)=some ((degs t).getD k 0):=Zbu 0 (by omega) (by omega)
       rw [if_pos (by simp;omega),j1,j2,j3,ZW (by omega)]
       simp only [Option.bind_some]
       unfold degB
       cases (ZeO t 0).getD k false with
       | false=>rfl
       | true =>
        cases stB t k with
        | false=>rfl
        | true =>
         simp only [Bool.not_true,Bool.false_eq_true,if_false,if_true,Bool.true_and,Bool.false_or]
         generalize (degs t).getD k 0=d
         by_cases g1:d<1
         ·simp [g1,show ¬ (1≤d) by omega]
         ·by_cases g2:d > 2
          ·simp [g1,g2,show ¬ (d≤2) by omega]
          ·simp [g1,g2,show 1≤d by omega,show d≤2 by omega]) (by unfold Zcd;rw [if_neg (by simp;omega)]) (N:=N) (by omega)
      rw [this]
      cases allB t.Nodes.toNat (fun n=>(ZeO t 0).getD n false&&degB t n)<;>rfl
    ·rw [if_pos (by simp;omega)];simp [h4]
   ·rw [if_pos (by simp [h3])];simp [h3]
  ·rw [if_pos (by simp;omega)];simp [h2]
 ·rw [if_pos (by simp;omega)];simp [h1]
theorem Zkl (l:List Bool):l.contains false = !(allB l.length fun n=>l.getD n false):=by
 rw [Bool.eq_iff_iff,List.contains_iff_mem,Bool.not_eq_true',← Bool.not_eq_true,Za8]
 constructor
 ·intro h hh
  obtain ⟨k,hk,e⟩:=List.getElem_of_mem h
  have:=hh k hk
  simp [List.getD_eq_getElem?_getD,hk,e] at this
 ·intro h
  simp only [Classical.not_forall] at h
  obtain ⟨k,hk,e⟩:=h
  simp [List.getD_eq_getElem?_getD,hk] at e
  rw [← e]
  exact List.getElem_mem hk
theorem Zdw (hN:40≤N):Zdn N t=some (if Zeh t then 0 else 260):=by
 unfold Zdn Zeh
 by_cases h1:2≤t.Nodes
 ·by_cases h2:t.Nodes≤12
  ·by_cases h3:(t.Station.length:Int)=t.Nodes
   ·rw [if_neg (by simp [h3];omega)]
    by_cases h4:t.Links.length≤24
    ·rw [if_neg (by simp;omega),ZkU h3 (by omega) (by omega),Option.bind_some,Option.bind_some]
     have e:decide (2≤t.Nodes)=true∧decide (t.Nodes≤12)=true∧((t.Station.length:Int)==t.Nodes)=true∧decide (t.Links.length≤24)=true:=by simp [h1,h2,h3,h4]
     rw [e.1,e.2.1,e.2.2.1,e.2.2.2]
     simp only [Bool.true_and]
     cases hT:allB t.Links.length (fun k=>ZdE t (lk t k)&&nojB t k) with
     | false=>rfl
     | true =>
      simp only [Bool.not_true,Bool.false_eq_true,if_false,Bool.true_and]
      rw [Zlf _ (by omega) (by omega) (by omega),Option.bind_some,(ZiY hT (by omega) (by omega) (by omega)).1,Option.bind_some]
      have hd:=(ZiY (N:=N) hT (by omega) (by omega) (by omega)).2
      have hr:=Zhc (N:=N) hT h4 (by omega) h2 (by omega) ⟨false,false,false,false,false,false,false,false,false,false,false,false,false,false,false,false,false,false,false,false,false,false,false,false⟩ (by decide) (m:=0) (by omega) (by omega)
      have:=Za0 (n:=t.Station.length) (p:=fun n=>degB t n) (body:=fun x:Int=>Zcw N t (degs t) x) (bad:=.inr 260) (fin:=.inl ()) (fun k hk=>by
       unfold Zcw
       have j2:idx t.Station (k:Int)=some (stB t k):=Zbu false (by omega) (by omega)
       have j3:idx (degs t) (k:Int)=some ((degs t).getD k 0):=Zbu 0 (by omega) (by omega)
       rw [if_pos (by simp;omega),j2,j3,ZW (by omega)]
       simp only [Option.bind_some]
       unfold degB
       cases stB t k with
       | false=>rfl
       | true =>
        simp only [if_true,Bool.not_true,Bool.false_or]
        generalize (degs t).getD k 0=d
        by_cases g1:d<1
        ·simp [g1,show ¬ (1≤d) by omega]
        ·by_cases g2:d > 2
         ·simp [g1,g2,show ¬ (d≤2) by omega]
         ·simp [g1,g2,show 1≤d by omega,show d≤2 by omega]) (by unfold Zcw;rw [if_neg (by simp)]) (N:=N) (by omega)
      rw [this,Option.bind_some,Zpg]
      have hsl:t.Station.length=t.Nodes.toNat:=by omega
      rw [hsl]
      cases hD:allB t.Nodes.toNat (fun n=>degB t n) with
      | false=>simp
      | true =>
       simp only [if_true,Bool.and_true]
       rw [hr.1,Option.bind_some,Zej (by omega) (by omega),Option.bind_some,Zkl,show (ZeO t 0).length=t.Nodes.toNat by omega]
       cases allB t.Nodes.toNat (fun n=>(ZeO t 0).getD n false)<;>rfl
    ·rw [if_pos (by simp;omega)];simp [h4]
   ·rw [if_pos (by simp [h3])];simp [h3]
  ·rw [if_pos (by simp;omega)];simp [h2]
 ·rw [if_pos (by simp;omega)];simp [h1]
end
end Go.Sh

