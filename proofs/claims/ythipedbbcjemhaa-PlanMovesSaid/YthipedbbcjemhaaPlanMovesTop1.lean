/- Part of the proof; written by a program out of the texts in wip/. -/
import Derived.Test.YthipedbbcjemhaaPlanMovesBase
import Derived.Test.YthipedbbcjemhaaPlanMovesRes3
set_option linter.unusedVariables false
set_option linter.unusedSimpArgs false
namespace Go.Sh
open Go Go.Eng
def allB (n:Nat) (p:Nat→Bool):Bool:=(List.range n).all p
theorem ZdB {n:Nat} {p:Nat→Bool}:allB n p=true↔∀ k,k<n→p k=true:=by simp [allB]
theorem Zdf {n:Nat} {p q:Nat→Bool} (h:∀ k,k<n→p k=q k):allB n p=allB n q:=by
 rw [Bool.eq_iff_iff,ZdB,ZdB]
 exact ⟨fun hp k hk=>by rw [← h k hk];exact hp k hk,fun hp k hk=>by rw [h k hk];exact hp k hk⟩
theorem ZgF {ρ:Type} {n:Nat} {p:Nat→Bool} {body:Int→Option (Int ⊕ ρ)} {bad fin:ρ} (hstep:∀ k:Nat,k<n→body (k:Int)=if p k=true then some (.inl ((k+1:Nat):Int)) else some (.inr bad))
  (hend:body (n:Int)=some (.inr fin)) {N:Nat} (hN:n<N):Zaf body N 0=some (if allB n p then fin else bad):=by
 have key:∀ (m N k:Nat),n - k=m→k≤n→m<N→Zaf body N (k:Int)=some (if (List.range' k m).all p then fin else bad):=by
  intro m
  induction m with
  | zero =>
   intro N k h1 h2 h3
   obtain rfl:k=n:=by omega
   cases N with
   | zero=>omega
   | succ N=>rw [Zbk hend];rfl
  | succ m ih =>
   intro N k h1 h2 h3
   cases N with
   | zero=>omega
   | succ N =>
    rw [List.range'_succ,List.all_cons]
    by_cases hp:p k=true
    ·rw [ZcG (by rw [hstep k (by omega),if_pos hp]),ih N (k+1) (by omega) (by omega) (by omega),hp,Bool.true_and]
    ·rw [Zbk (by rw [hstep k (by omega),if_neg hp])]
     simp [hp]
 have:=key n N 0 (by omega) (by omega) hN
 rw [← List.range_eq_range'] at this
 exact this
theorem Zh9 {β ρ:Type} {n:Nat} {p:Nat→Bool} {f:β→Nat→β} {body:Int × β→Option ((Int × β) ⊕ ρ)} {bad:ρ} {fin:β→ρ} (I:Nat→β→Prop)
  (hstep:∀ k b,k<n→I k b→body ((k:Int),b)=if p k=true then some (.inl (((k+1:Nat):Int),f b k)) else some (.inr bad)) (hI:∀ k b,k<n→I k b→p k=true→I (k+1) (f b k))
  (hend:∀ b,I n b→body ((n:Int),b)=some (.inr (fin b))) {N:Nat} (hN:n<N) {b0:β} (h0:I 0 b0):Zaf body N (0,b0)=some (if allB n p then fin ((List.range n).foldl f b0) else bad)∧(allB n p=true→I n ((List.range n).foldl f b0)):=by
 have key:∀ (m N k:Nat) (b:β),n - k=m→k≤n→m<N→I k b→Zaf body N ((k:Int),b)=some (if (List.range' k m).all p then fin ((List.range' k m).foldl f b) else bad)∧((List.range' k m).all p=true→I n ((List.range' k m).foldl f b)):=by
  intro m
  induction m with
  | zero =>
   intro N k b h1 h2 h3 hb
   obtain rfl:k=n:=by omega
   cases N with
   | zero=>omega
   | succ N=>exact ⟨by rw [Zbk (hend b hb)];rfl,fun _=>hb⟩
  | succ m ih =>
   intro N k b h1 h2 h3 hb
   cases N with
   | zero=>omega
   | succ N =>
    rw [List.range'_succ,List.all_cons,List.foldl_cons]
    by_cases hp:p k=true
    ·obtain ⟨i1,i2⟩:=ih N (k+1) (f b k) (by omega) (by omega) (by omega) (hI k b (by omega) hb hp)
     rw [hp,Bool.true_and]
     exact ⟨by rw [ZcG (by rw [hstep k b (by omega) hb,if_pos hp]),i1],i2⟩
    ·refine ⟨?_,fun h => ?_⟩
     ·rw [Zbk (by rw [hstep k b (by omega) hb,if_neg hp])];simp [hp]
     ·simp [hp] at h
 obtain ⟨h1,h2⟩:=key n N 0 b0 (by omega) (by omega) hN h0
 rw [← List.range_eq_range'] at h1 h2
 exact ⟨h1,h2⟩
theorem ZbT {n:Nat} (h:n<1000000):w64 ((n:Int)+1)=((n+1:Nat):Int):=by rw [Zb7 (by omega) (by omega)];omega
theorem ZfM {α:Type} {l:List α} {k:Nat} (h:k<l.length):idx l (k:Int)=some l[k]:=by rw [ZfL,List.getElem?_eq_getElem h]
theorem Zlg {α:Type} {l:List α} {i:Int} (d:α) (h0:0≤i) (h:i<l.length):idx l i=some (l.getD i.toNat d):=by
 rw [Zmm h0 (by omega)]
 simp [List.getD_eq_getElem?_getD,List.getElem?_eq_getElem (show i.toNat<l.length by omega)]
end Go.Sh
set_option linter.unusedVariables false
set_option linter.unusedSimpArgs false
namespace Go.Sh
open Go Go.Eng
def mkS (p:Int):Zs:=⟨p,0,1⟩
def perB (p:Int):Bool:=decide (1≤p)&&decide (p≤240)
def lcmL (P:List Int):Nat:=lcmP (P.map mkS)
def perU (P:List Int) (u:Zy):Int:=P.getD u.Stream.toNat 0
def useB (P:List Int) (u:Zy):Bool:=decide (0≤u.Stream∧u.Stream<(P.length:Int)∧0≤u.Port∧u.Port<48∧0≤u.From∧u.From<perU P u∧1≤u.Long∧u.Long≤perU P u)
def ZhS (p:Ze):Bool:=decide (p.Periods.length≤12)&&decide (p.Uses.length≤192)&&p.Periods.all perB&&p.Uses.all (useB p.Periods)&&decide (lcmL p.Periods≤960)
theorem Zhm {p:Int}:perB p=true↔1≤p∧p≤240:=by simp [perB]
theorem Zll {P:List Int} (h:P.all perB=true):allV (P.map mkS)=true:=by
 unfold allV
 rw [List.all_eq_true] at h ⊢
 intro s hs
 obtain ⟨p,hp,rfl⟩:=List.mem_map.1 hs
 have:=Zhm.1 (h p hp)
 rw [decide_eq_true_eq]
 show 1≤p∧p≤960∧(0:Int)≤0∧(0:Int)<p∧(1:Int)≤1∧(1:Int)≤p
 omega
theorem Zjl {N:Nat} (hN:2000≤N) {P:List Int} (hl:P.length≤1000):Zb3 N P=some (Zli (P.map mkS)):=by
 unfold Zb3
 have hmk:Zh6 24 (P.length:Int) (P.length:Int) (Zs.mk 0 0 0)=some (List.replicate P.length (Zs.mk 0 0 0)):=by
  unfold Zh6;rw [if_pos (by omega)];simp
 rw [hmk,Option.bind_some]
 have hloop:∀ (n M k:Nat),P.length - k=n→k≤P.length→n<M→Zaf (fun x:Int × List Zs=>Zbf N P x.1 x.2) M ((k:Int),(P.map mkS).take k++List.replicate (P.length - k) (Zs.mk 0 0 0))=some (P.map mkS):=by
  intro n
  induction n with
  | zero =>
   intro M k hn hk hM
   have:k=P.length:=by omega
   subst this
   cases M with
   | zero=>omega
   | succ M =>
    refine Zbk ?_
    simp only [Zbf]
    rw [if_neg (by simp)]
    simp [List.take_of_length_le]
  | succ n ih =>
   intro M k hn hk hM
   cases M with
   | zero=>omega
   | succ M =>
    have hlt:k<P.length:=by omega
    have hc:=ih M (k+1) (by omega) (by omega) (by omega)
    rw [ZcG (y:=(((k+1:Nat):Int),(P.map mkS).take (k+1)++List.replicate (P.length - (k+1)) (Zs.mk 0 0 0))),hc]
    simp only [Zbf]
    have hlen:((P.map mkS).take k++List.replicate (P.length - k) (Zs.mk 0 0 0)).length=P.length:=by simp;omega
    rw [if_pos (by simpa using hlt),ZfL,List.getElem?_eq_getElem hlt,Option.bind_some,ZfL,List.getElem?_eq_getElem (by omega),Option.bind_some,Zb7 (by omega) (by omega)]
    have hset:List.set ((P.map mkS).take k++List.replicate (P.length - k) (Zs.mk 0 0 0)) k (mkS P[k])=(P.map mkS).take (k+1)++List.replicate (P.length - (k+1)) (Zs.mk 0 0 0):=by
     rw [List.set_append_right _ _ (by simp;omega)]
     have e1:k - ((P.map mkS).take k).length=0:=by simp;omega
     rw [e1,show P.length - k=(P.length - (k+1))+1 by omega,List.replicate_succ,List.set_cons_zero,List.take_succ_eq_append_getElem (by simpa using hlt)]
     simp
    simp only [Int.toNat_natCast]
    rw [show (Zs.mk P[k] 0 1)=mkS P[k] from rfl,hset]
    rfl
 have hc:=hloop P.length N 0 (by omega) (by omega) (by omega)
 simp only [List.take_zero,List.nil_append,Nat.sub_zero] at hc
 rw [show ((0:Nat):Int)=0 from rfl] at hc
 rw [hc,Option.bind_some,Zhf hN,Option.bind_some]
theorem Zm3 {P:List Int} (h:P.all perB=true):0<lcmL P:=Zlf (Zlm (Zll h))
theorem Zkg {P:List Int} {n:Nat}:lcmL P ∣ n↔∀ p ∈ P,p.toNat ∣ n:=by
 unfold lcmL
 rw [Zg0]
 simp [mkS]
theorem ZhU {N:Nat} (hN:2000≤N) {P:List Int} (hl:P.length≤12) (h:P.all perB=true):Zb3 N P=some (if lcmL P≤960 then ((lcmL P:Int),0) else (0,6)):=by
 rw [Zjl hN (by omega)]
 unfold Zli
 rw [if_neg (by simp;omega),if_pos (Zll h)]
 rfl
theorem ZaV {α:Type} {l:List α} {k:Nat} (h:k<l.length) (d:α):l.getD k d=l[k]:=by
 rw [List.getD_eq_getElem?_getD,List.getElem?_eq_getElem h];rfl
theorem ZiN {α ρ:Type} {l:List α} {p:α→Bool} {body:Int→Option (Int ⊕ ρ)} {bad fin:ρ} (hstep:∀ (k:Nat) (h:k<l.length),body (k:Int)=if p l[k]=true then some (.inl ((k+1:Nat):Int)) else some (.inr bad))
  (hend:body (l.length:Int)=some (.inr fin)) {N:Nat} (hN:l.length<N):Zaf body N 0=some (if l.all p=true then fin else bad):=by
 have:=Zki hstep hend l.length N 0 (by omega) (by omega) hN
 rw [show ((0:Nat):Int)=0 from rfl] at this
 rw [this,List.drop_zero]
theorem Zml {P:List Int} {u:Zy} (h0:0≤u.Stream) (h1:u.Stream<(P.length:Int)):idx P u.Stream=some (perU P u):=Zlg 0 h0 h1
theorem ZfT {P:List Int} {u:Zy}:useB P u=true↔0≤u.Stream∧u.Stream<(P.length:Int)∧0≤u.Port∧u.Port<48∧0≤u.From∧u.From<perU P u∧1≤u.Long∧u.Long≤perU P u:=by simp [useB]
theorem ZfZ {N:Nat} (hN:2000≤N) (p:Ze):Zcr N p=some (if ZhS p=true then 0 else 340):=by
 unfold Zcr ZhS
 by_cases h1:p.Periods.length≤12
 ·by_cases h2:p.Uses.length≤192
  ·rw [if_neg (by simp;omega)]
   simp only [h1,h2,decide_true,Bool.true_and]
   rw [ZiN (l:=p.Periods) (p:=perB) (bad:=.inr 340) (fin:=.inl ()) (fun k hk => ?_) (by simp [ZbL]) (by omega)]
   ·cases hP:p.Periods.all perB with
    | false=>simp
    | true =>
     simp only [if_true,Option.bind_some,Bool.true_and]
     rw [ZhU hN h1 hP,Option.bind_some]
     by_cases hc:lcmL p.Periods≤960
     ·rw [if_pos hc]
      simp only [bne_self_eq_false,Bool.false_eq_true,if_false]
      rw [ZiN (l:=p.Uses) (p:=useB p.Periods) (bad:=.inr 340) (fin:=.inl ()) (fun k hk => ?_) (by simp [ZbK]) (by omega)]
      ·cases hU:p.Uses.all (useB p.Periods) with
       | false=>simp
       | true=>simp [hc]
      ·simp only [ZbK]
       rw [if_pos (by simpa using hk),ZfM hk,Option.bind_some]
       have hw:w64 ((k:Int)+1)=((k+1:Nat):Int):=ZbT (by omega)
       rw [hw]
       by_cases hc:0≤p.Uses[k].Stream∧p.Uses[k].Stream<(p.Periods.length:Int)∧0≤p.Uses[k].Port∧p.Uses[k].Port<48
       ·obtain ⟨c1,c2,c3,c4⟩:=hc
        rw [if_neg (by simp;omega),Zml c1 c2]
        simp only [Option.bind_some]
        by_cases hu:useB p.Periods p.Uses[k]=true
        ·obtain ⟨_,_,_,_,u1,u2,u3,u4⟩:=ZfT.1 hu
         rw [if_neg (by simp;omega),if_pos hu]
        ·have hn:¬ (0≤p.Uses[k].From∧p.Uses[k].From<perU p.Periods p.Uses[k]∧1≤p.Uses[k].Long∧p.Uses[k].Long≤perU p.Periods p.Uses[k]):=fun q=>hu (ZfT.2 ⟨c1,c2,c3,c4,q⟩)
         rw [if_neg hu,if_pos (by simp;omega)]
       ·have hu:¬ useB p.Periods p.Uses[k]=true:=fun q=>hc (by obtain ⟨a,b,c,d,_⟩:=ZfT.1 q;exact ⟨a,b,c,d⟩)
        rw [if_pos (by simp;omega),if_neg hu]
     ·rw [if_neg hc];simp [hc]
   ·simp only [ZbL]
    rw [if_pos (by simpa using hk),ZfM hk]
    simp only [Option.bind_some]
    rw [ZbT (by omega)]
    by_cases c:perB p.Periods[k]=true
    ·have:=Zhm.1 c
     rw [if_neg (by simp;omega),if_pos c]
    ·rw [if_pos,if_neg c]
     simp [perB] at c ⊢;omega
  ·rw [if_pos (by simp;omega)];simp [h2]
 ·rw [if_pos (by simp;omega)];simp [h1]
theorem Zj3 {p:Ze}:ZhS p=true↔p.Periods.length≤12∧p.Uses.length≤192∧p.Periods.all perB=true∧p.Uses.all (useB p.Periods)=true∧lcmL p.Periods≤960:=by
 unfold ZhS
 simp only [Bool.and_eq_true,decide_eq_true_eq]
 constructor
 ·rintro ⟨⟨⟨⟨a,b⟩,c⟩,d⟩,e⟩;exact ⟨a,b,c,d,e⟩
 ·rintro ⟨a,b,c,d,e⟩;exact ⟨⟨⟨⟨a,b⟩,c⟩,d⟩,e⟩
end Go.Sh

set_option linter.unusedVariables false
set_option linter.unusedSimpArgs false
namespace Go.Sh
open Go Go.Eng
structure VP (p:Ze):Prop where
 len:p.Periods.length≤12
 uses:p.Uses.length≤192
 per:∀ q ∈ p.Periods,1≤q∧q≤240
 use:∀ u ∈ p.Uses,0≤u.Stream∧u.Stream<(p.Periods.length:Int)∧0≤u.Port∧u.Port<48∧0≤u.From∧u.From<perU p.Periods u∧1≤u.Long∧u.Long≤perU p.Periods u
 lcm:lcmL p.Periods≤960
 lpos:0<lcmL p.Periods
theorem VP.of {p:Ze} (h:ZhS p=true):VP p:=by
 obtain ⟨h1,h2,h3,h4,h5⟩:=Zj3.1 h
 exact ⟨h1,h2,fun q hq=>Zhm.1 (List.all_eq_true.1 h3 q hq),fun u hu=>ZfT.1 (List.all_eq_true.1 h4 u hu),h5,Zm3 h3⟩
theorem perU_in {P:List Int} {u:Zy} (h0:0≤u.Stream) (h1:u.Stream<(P.length:Int)):perU P u ∈ P:=by
 unfold perU
 rw [ZaV (by omega)]
 exact List.getElem_mem _
theorem VP.peru {p:Ze} (h:VP p) {u:Zy} (hu:u ∈ p.Uses):1≤perU p.Periods u∧perU p.Periods u≤240:=by
 obtain ⟨a,b,_⟩:=h.use u hu
 exact h.per _ (perU_in a b)
def Zdg (p:Ze) (u:Zy) (x:Int):Zs:=⟨perU p.Periods u,(u.From+x) % perU p.Periods u,u.Long⟩
def u0:Zy:=⟨0,0,0,0⟩
theorem VP.vspan {p:Ze} (h:VP p) {u:Zy} (hu:u ∈ p.Uses) (x:Int):VSpan (Zdg p u x):=by
 obtain ⟨_,_,_,_,_,_,h1,h2⟩:=h.use u hu
 obtain ⟨h3,h4⟩:=h.peru hu
 have h5:=Int.emod_nonneg (u.From+x) (show perU p.Periods u ≠ 0 by omega)
 have h6:=Int.emod_lt_of_pos (u.From+x) (show 0<perU p.Periods u by omega)
 show 1≤perU p.Periods u∧perU p.Periods u≤960∧0≤(u.From+x) % perU p.Periods u∧(u.From+x) % perU p.Periods u<perU p.Periods u∧1≤u.Long∧u.Long≤perU p.Periods u
 omega
theorem VP.rem {p:Ze} (h:VP p) {u:Zy} (hu:u ∈ p.Uses) {x:Int} (h0:0≤x) (h1:x≤1000000):remI (w64 (u.From+x)) (perU p.Periods u)=some ((u.From+x) % perU p.Periods u):=by
 obtain ⟨_,_,_,_,h5,h6,h7,h8⟩:=h.use u hu
 obtain ⟨h3,h4⟩:=h.peru hu
 rw [Zb7 (by omega) (by omega),Zcy (by omega),Int.tmod_eq_emod_of_nonneg (by omega)]
theorem Zeo (N:Nat) {p:Ze} (h:VP p) {u:Zy} (hu:u ∈ p.Uses) {x:Int} (h0:0≤x) (h1:x≤1000000):ZbG N p u x=some (Zdg p u x):=by
 obtain ⟨a,b,_⟩:=h.use u hu
 unfold ZbG
 rw [Zml a b,Option.bind_some,h.rem hu h0 h1,Option.bind_some]
 rfl
def offB (p:Ze) (i x:Int):Bool:=decide (0≤i∧i<(p.Periods.length:Int)∧0≤x∧x<p.Periods.getD i.toNat 0)
theorem Zeh {p:Ze} {i x:Int}:offB p i x=true↔0≤i∧i<(p.Periods.length:Int)∧0≤x∧x<p.Periods.getD i.toNat 0:=by simp [offB]
theorem ZdO (N:Nat) {p:Ze} {i x:Int} (h0:0≤i) (h1:i<(p.Periods.length:Int)):Zb1 N p i x=some (offB p i x):=by
 unfold Zb1
 by_cases hx:x ≥ 0
 ·rw [if_pos (by simpa using hx),Zlg 0 h0 h1]
  simp only [Option.bind_some]
  congr 1
  rw [Bool.eq_iff_iff,Zeh]
  simp
  omega
 ·rw [if_neg (by simpa using hx),Option.bind_some]
  congr 1
  symm
  rw [Bool.eq_false_iff]
  intro q
  have:=Zeh.1 q
  omega
def hitB (p:Ze) (i a j b:Int) (k m:Nat):Bool :=
 decide (k ≠ m)&&(((p.Uses.getD k u0).Stream==i)&&(((p.Uses.getD m u0).Stream==j)&&(((p.Uses.getD k u0).Port==(p.Uses.getD m u0).Port) &&
  !(decide (SepD (Zdg p (p.Uses.getD k u0) a) (Zdg p (p.Uses.getD m u0) b) ((Zdg p (p.Uses.getD m u0) b).From - (Zdg p (p.Uses.getD k u0) a).From))))))
def Zdq (p:Ze) (i a j b:Int):Bool := !(allB p.Uses.length fun k=>allB p.Uses.length fun m => !(hitB p i a j b k m))
theorem ZmQ {s:Zs} (hs:VSpan s):¬ SepD s s (s.From - s.From):=by
 have:=hs.bounds
 unfold SepD
 simp
 omega
theorem use_ext {u v:Zy} (h:(((u.Stream==v.Stream)&&((u.Port==v.Port)&&((u.From==v.From)&&((u.Long==v.Long)&&true))))=true)):u=v:=by
 obtain ⟨a,b,c,d⟩:=u
 obtain ⟨a',b',c',d'⟩:=v
 simp at h
 obtain ⟨rfl,rfl,rfl,rfl⟩:=h
 rfl
theorem ZcR {N:Nat} (hN:2000≤N) {p:Ze} (h:VP p) {i a j b:Int} (ha:0≤a) (ha2:a≤1000) (hb:0≤b) (hb2:b≤1000) (hij:i=j→a=b):ZbJ N p i a j b=some (Zdq p i a j b):=by
 have hl:=h.uses
 unfold ZbJ Ze7
 simp only [Option.bind_some]
 have round:∀ k m:Nat,∀ (hk:k<p.Uses.length) (hm:m<p.Uses.length),p.Uses[k].Stream=i→p.Uses[m].Stream=j →
   Zan N p a b false p.Uses[k] p.Uses[m]=some (if SepD (Zdg p p.Uses[k] a) (Zdg p p.Uses[m] b) ((Zdg p p.Uses[m] b).From - (Zdg p p.Uses[k] a).From) then (false,0) else (true,1)):=by
  intro k m hk hm e1 e2
  unfold Zan
  have hv1:=h.vspan (List.getElem_mem hk) a
  have hv2:=h.vspan (List.getElem_mem hm) b
  by_cases c:((p.Uses[k].Stream==p.Uses[m].Stream)&&((p.Uses[k].Port==p.Uses[m].Port)&&((p.Uses[k].From==p.Uses[m].From)&&((p.Uses[k].Long==p.Uses[m].Long)&&true))))=true
  ·rw [if_pos c]
   have e:=use_ext c
   have hab:a=b:=hij (by rw [← e1,← e2,e])
   subst hab
   rw [← e,if_neg (ZmQ hv1)]
  ·have hA:=Zhh hN (Zdg p p.Uses[k] a) (Zdg p p.Uses[m] b)
   rw [if_pos ⟨hv1,hv2⟩] at hA
   rw [if_neg c,Zeo N h (List.getElem_mem hk) ha (by omega),Option.bind_some,Zeo N h (List.getElem_mem hm) hb (by omega),Option.bind_some,hA,Option.bind_some]
   by_cases s:SepD (Zdg p p.Uses[k] a) (Zdg p p.Uses[m] b) ((Zdg p p.Uses[m] b).From - (Zdg p p.Uses[k] a).From)
   ·simp [s]
   ·simp [s]
 have loop:ZcF N (fun (s:Bool × Nat) (x16:Zy) (x17:Zy)=>Zfo (fun v:Bool=>Zan N p a b v x16 x17) s) p i j (false,0)=some (if Zdq p i a j b=true then (true,1) else (false,0)):=by
  unfold ZcF
  rw [(Zh9 (n:=p.Uses.length) (p:=fun k=>allB p.Uses.length fun m => !(hitB p i a j b k m)) (f:=fun s _=>s) (bad:=.inr (true,1)) (fin:=fun s=>.inl s) (fun _ s=>s=(false,0)) (fun k s hk hs => ?_) (fun _ s _ hs _=>hs) (fun s _=>by simp [Za1]) (N:=N) (by omega) rfl).1]
  ·unfold Zdq
   have hf:∀ (l:List Nat),l.foldl (fun (s:Bool × Nat) _=>s) (false,0)=(false,0):=by
    intro l;induction l with
    | nil=>rfl
    | cons x l ih=>simpa using ih
   rw [hf]
   cases allB p.Uses.length fun k=>allB p.Uses.length fun m => !(hitB p i a j b k m)<;>rfl
  ·subst hs
   simp only [Za1]
   have hw:w64 ((k:Int)+1)=((k+1:Nat):Int):=ZbT (by omega)
   rw [if_pos (by simpa using hk),ZfM hk,Option.bind_some,hw]
   by_cases c1:p.Uses[k].Stream=i
   ·rw [if_neg (by simpa using c1)]
    rw [(Zh9 (n:=p.Uses.length) (p:=fun m => !(hitB p i a j b k m)) (f:=fun s _=>s) (bad:=.inr (true,1)) (fin:=fun s=>.inl s) (fun _ s=>s=(false,0)) (fun m s hm hs => ?_) (fun _ s _ hs _=>hs) (fun s _=>by simp [Za0]) (N:=N) (by omega) rfl).1]
    ·have hf:∀ (l:List Nat),l.foldl (fun (s:Bool × Nat) _=>s) (false,0)=(false,0):=by
      intro l;induction l with
      | nil=>rfl
      | cons x l ih=>simpa using ih
     rw [hf]
     cases allB p.Uses.length fun m => !(hitB p i a j b k m)<;>rfl
    ·subst hs
     simp only [Za0]
     have hw2:w64 ((m:Int)+1)=((m+1:Nat):Int):=ZbT (by omega)
     rw [if_pos (by simpa using hm),ZfM hm,Option.bind_some,hw2]
     unfold hitB
     rw [ZaV hk,ZaV hm]
     by_cases c0:k=m
     ·subst c0;simp
     ·have c0':((m:Int)==(k:Int))=false:=by simp;omega
      rw [c0']
      simp only [Bool.false_eq_true,if_false]
      by_cases c2:p.Uses[m].Stream=j
      ·rw [if_neg (by simpa using c2),Option.bind_some]
       by_cases c3:p.Uses[k].Port=p.Uses[m].Port
       ·rw [if_neg (by simp [c3])]
        unfold Zfo
        simp only [if_true]
        rw [round k m hk hm c1 c2]
        simp only [c0,c1,c2,c3,ne_eq,not_false_eq_true,decide_true,Bool.true_and,beq_self_eq_true,Bool.not_not]
        by_cases s:SepD (Zdg p p.Uses[k] a) (Zdg p p.Uses[m] b) ((Zdg p p.Uses[m] b).From - (Zdg p p.Uses[k] a).From)
        ·simp [s]
        ·simp [s]
       ·rw [if_pos (by simp;exact fun q=>c3 q.symm)]
        simp [c3]
      ·rw [if_pos (by simpa using c2),Option.bind_some]
       simp [c2]
   ·rw [if_pos (by simpa using c1)]
    have:(allB p.Uses.length fun m => !(hitB p i a j b k m))=true:=by
     rw [ZdB]
     intro m hm
     unfold hitB
     rw [ZaV hk]
     simp [c1]
    rw [this,if_pos rfl]
 rw [loop,Option.bind_some]
 cases Zdq p i a j b<;>rfl
def argB (p:Ze) (i a j b:Int):Bool:=offB p i a&&offB p j b && !(decide (i=j)&&decide (a ≠ b))
def Zf5 (p:Ze) (i a j b:Int):Bool × Int:=if ZhS p=true then (if argB p i a j b=true then (Zdq p i a j b,0) else (false,2)) else (false,340)
theorem Zka {p:Ze} (h:VP p) {i x:Int} (ho:offB p i x=true):0≤x∧x<240:=by
 obtain ⟨a,b,c,d⟩:=Zeh.1 ho
 rw [ZaV (by omega)] at d
 have:=h.per _ (List.getElem_mem (show i.toNat<p.Periods.length by omega))
 omega
theorem Zeq {N:Nat} (hN:2000≤N) (p:Ze) (i a j b:Int):Zbg N p i a j b=some (Zf5 p i a j b):=by
 unfold Zbg Zf5
 rw [ZfZ hN,Option.bind_some]
 cases hp:ZhS p with
 | false=>rfl
 | true =>
  have h:=VP.of hp
  simp only [if_true,bne_self_eq_false,Bool.false_eq_true,if_false]
  by_cases c1:0≤i∧i<(p.Periods.length:Int)∧0≤j∧j<(p.Periods.length:Int)
  ·obtain ⟨i1,i2,j1,j2⟩:=c1
   rw [if_neg (by simp;omega),ZdO N i1 i2,ZdO N j1 j2]
   simp only [Option.bind_some]
   unfold argB
   cases o1:offB p i a with
   | false=>rfl
   | true =>
    cases o2:offB p j b with
    | false=>rfl
    | true =>
     simp only [Bool.not_true,Bool.false_eq_true,if_false,Bool.true_and]
     have b1:=Zka h o1
     have b2:=Zka h o2
     by_cases c:i=j
     ·by_cases d:a=b
      ·rw [ZcR hN h b1.1 (by omega) b2.1 (by omega) (fun _=>d)]
       simp [c,d]
      ·simp [c,d]
     ·rw [ZcR hN h b1.1 (by omega) b2.1 (by omega) (fun q=>absurd q c)]
      simp [c]
  ·rw [if_pos (by simp;omega)]
   have:argB p i a j b=false:=by
    unfold argB
    rw [Bool.eq_false_iff]
    intro q
    simp only [Bool.and_eq_true] at q
    have q1:=Zeh.1 q.1.1
    have q2:=Zeh.1 q.1.2
    omega
   rw [this];rfl
end Go.Sh

