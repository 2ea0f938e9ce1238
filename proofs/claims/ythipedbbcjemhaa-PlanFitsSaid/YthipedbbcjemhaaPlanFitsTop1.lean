/- Part of the proof; written by a program out of the texts in wip/. -/
import Derived.Test.YthipedbbcjemhaaPlanFitsBase
import Derived.Test.YthipedbbcjemhaaPlanFitsRes3
set_option linter.unusedVariables false
set_option linter.unusedSimpArgs false
namespace Go.Sh
open Go Go.Eng
def allB (n:Nat) (p:Nat→Bool):Bool:=(List.range n).all p
theorem Zf1 {n:Nat} {p:Nat→Bool}:allB n p=true↔∀ k,k<n→p k=true:=by simp [allB]
theorem ZjP {n:Nat} {p q:Nat→Bool} (h:∀ k,k<n→p k=q k):allB n p=allB n q:=by
 rw [Bool.eq_iff_iff,Zf1,Zf1]
 exact ⟨fun hp k hk=>by rw [← h k hk];exact hp k hk,fun hp k hk=>by rw [h k hk];exact hp k hk⟩
theorem ZcF {ρ:Type} {n:Nat} {p:Nat→Bool} {body:Int→Option (Int ⊕ ρ)} {bad fin:ρ} (hstep:∀ k:Nat,k<n→body (k:Int)=if p k=true then some (.inl ((k+1:Nat):Int)) else some (.inr bad))
  (hend:body (n:Int)=some (.inr fin)) {N:Nat} (hN:n<N):Zac body N 0=some (if allB n p then fin else bad):=by
 have key:∀ (m N k:Nat),n - k=m→k≤n→m<N→Zac body N (k:Int)=some (if (List.range' k m).all p then fin else bad):=by
  intro m
  induction m with
  | zero =>
   intro N k h1 h2 h3
   obtain rfl:k=n:=by omega
   cases N with
   | zero=>omega
   | succ N=>rw [Zay hend];rfl
  | succ m ih =>
   intro N k h1 h2 h3
   cases N with
   | zero=>omega
   | succ N =>
    rw [List.range'_succ,List.all_cons]
    by_cases hp:p k=true
    ·rw [ZbK (by rw [hstep k (by omega),if_pos hp]),ih N (k+1) (by omega) (by omega) (by omega),hp,Bool.true_and]
    ·rw [Zay (by rw [hstep k (by omega),if_neg hp])]
     simp [hp]
 have:=key n N 0 (by omega) (by omega) hN
 rw [← List.range_eq_range'] at this
 exact this
theorem ZiZ {β ρ:Type} {n:Nat} {p:Nat→Bool} {f:β→Nat→β} {body:Int × β→Option ((Int × β) ⊕ ρ)} {bad:ρ} {fin:β→ρ} (I:Nat→β→Prop)
  (hstep:∀ k b,k<n→I k b→body ((k:Int),b)=if p k=true then some (.inl (((k+1:Nat):Int),f b k)) else some (.inr bad)) (hI:∀ k b,k<n→I k b→p k=true→I (k+1) (f b k))
  (hend:∀ b,I n b→body ((n:Int),b)=some (.inr (fin b))) {N:Nat} (hN:n<N) {b0:β} (h0:I 0 b0):Zac body N (0,b0)=some (if allB n p then fin ((List.range n).foldl f b0) else bad)∧(allB n p=true→I n ((List.range n).foldl f b0)):=by
 have key:∀ (m N k:Nat) (b:β),n - k=m→k≤n→m<N→I k b→Zac body N ((k:Int),b)=some (if (List.range' k m).all p then fin ((List.range' k m).foldl f b) else bad)∧((List.range' k m).all p=true→I n ((List.range' k m).foldl f b)):=by
  intro m
  induction m with
  | zero =>
   intro N k b h1 h2 h3 hb
   obtain rfl:k=n:=by omega
   cases N with
   | zero=>omega
   | succ N=>exact ⟨by rw [Zay (hend b hb)];rfl,fun _=>hb⟩
  | succ m ih =>
   intro N k b h1 h2 h3 hb
   cases N with
   | zero=>omega
   | succ N =>
    rw [List.range'_succ,List.all_cons,List.foldl_cons]
    by_cases hp:p k=true
    ·obtain ⟨i1,i2⟩:=ih N (k+1) (f b k) (by omega) (by omega) (by omega) (hI k b (by omega) hb hp)
     rw [hp,Bool.true_and]
     exact ⟨by rw [ZbK (by rw [hstep k b (by omega) hb,if_pos hp]),i1],i2⟩
    ·refine ⟨?_,fun h => ?_⟩
     ·rw [Zay (by rw [hstep k b (by omega) hb,if_neg hp])];simp [hp]
     ·simp [hp] at h
 obtain ⟨h1,h2⟩:=key n N 0 b0 (by omega) (by omega) hN h0
 rw [← List.range_eq_range'] at h1 h2
 exact ⟨h1,h2⟩
theorem ZaL {n:Nat} (h:n<1000000):w64 ((n:Int)+1)=((n+1:Nat):Int):=by rw [ZaW (by omega) (by omega)];omega
theorem Zd6 {α:Type} {l:List α} {k:Nat} (h:k<l.length):idx l (k:Int)=some l[k]:=by rw [ZfF,List.getElem?_eq_getElem h]
theorem Zks {α:Type} {l:List α} {i:Int} (d:α) (h0:0≤i) (h:i<l.length):idx l i=some (l.getD i.toNat d):=by
 rw [ZgO h0 (by omega)]
 simp [List.getD_eq_getElem?_getD,List.getElem?_eq_getElem (show i.toNat<l.length by omega)]
end Go.Sh
set_option linter.unusedVariables false
set_option linter.unusedSimpArgs false
namespace Go.Sh
open Go Go.Eng
def mkS (p:Int):Zw:=⟨p,0,1⟩
def perB (p:Int):Bool:=decide (1≤p)&&decide (p≤240)
def lcmL (P:List Int):Nat:=lcmP (P.map mkS)
def perU (P:List Int) (u:ZA):Int:=P.getD u.Stream.toNat 0
def useB (P:List Int) (u:ZA):Bool:=decide (0≤u.Stream∧u.Stream<(P.length:Int)∧0≤u.Port∧u.Port<48∧0≤u.From∧u.From<perU P u∧1≤u.Long∧u.Long≤perU P u)
def ZgG (p:Zf):Bool:=decide (p.Periods.length≤12)&&decide (p.Uses.length≤192)&&p.Periods.all perB&&p.Uses.all (useB p.Periods)&&decide (lcmL p.Periods≤960)
theorem ZgJ {p:Int}:perB p=true↔1≤p∧p≤240:=by simp [perB]
theorem Zmc {P:List Int} (h:P.all perB=true):allV (P.map mkS)=true:=by
 unfold allV
 rw [List.all_eq_true] at h ⊢
 intro s hs
 obtain ⟨p,hp,rfl⟩:=List.mem_map.1 hs
 have:=ZgJ.1 (h p hp)
 rw [decide_eq_true_eq]
 show 1≤p∧p≤960∧(0:Int)≤0∧(0:Int)<p∧(1:Int)≤1∧(1:Int)≤p
 omega
theorem Zkg {N:Nat} (hN:2000≤N) {P:List Int} (hl:P.length≤1000):ZcB N P=some (Zl9 (P.map mkS)):=by
 unfold ZcB
 have hmk:ZiW 24 (P.length:Int) (P.length:Int) (Zw.mk 0 0 0)=some (List.replicate P.length (Zw.mk 0 0 0)):=by
  unfold ZiW;rw [if_pos (by omega)];simp
 rw [hmk,Option.bind_some]
 have hloop:∀ (n M k:Nat),P.length - k=n→k≤P.length→n<M→Zac (fun x:Int × List Zw=>ZbG N P x.1 x.2) M ((k:Int),(P.map mkS).take k++List.replicate (P.length - k) (Zw.mk 0 0 0))=some (P.map mkS):=by
  intro n
  induction n with
  | zero =>
   intro M k hn hk hM
   have:k=P.length:=by omega
   subst this
   cases M with
   | zero=>omega
   | succ M =>
    refine Zay ?_
    simp only [ZbG]
    rw [if_neg (by simp)]
    simp [List.take_of_length_le]
  | succ n ih =>
   intro M k hn hk hM
   cases M with
   | zero=>omega
   | succ M =>
    have hlt:k<P.length:=by omega
    have hc:=ih M (k+1) (by omega) (by omega) (by omega)
    rw [ZbK (y:=(((k+1:Nat):Int),(P.map mkS).take (k+1)++List.replicate (P.length - (k+1)) (Zw.mk 0 0 0))),hc]
    simp only [ZbG]
    have hlen:((P.map mkS).take k++List.replicate (P.length - k) (Zw.mk 0 0 0)).length=P.length:=by simp;omega
    rw [if_pos (by simpa using hlt),ZfF,List.getElem?_eq_getElem hlt,Option.bind_some,ZfF,List.getElem?_eq_getElem (by omega),Option.bind_some,ZaW (by omega) (by omega)]
    have hset:List.set ((P.map mkS).take k++List.replicate (P.length - k) (Zw.mk 0 0 0)) k (mkS P[k])=(P.map mkS).take (k+1)++List.replicate (P.length - (k+1)) (Zw.mk 0 0 0):=by
     rw [List.set_append_right _ _ (by simp;omega)]
     have e1:k - ((P.map mkS).take k).length=0:=by simp;omega
     rw [e1,show P.length - k=(P.length - (k+1))+1 by omega,List.replicate_succ,List.set_cons_zero,List.take_succ_eq_append_getElem (by simpa using hlt)]
     simp
    simp only [Int.toNat_natCast]
    rw [show (Zw.mk P[k] 0 1)=mkS P[k] from rfl,hset]
    rfl
 have hc:=hloop P.length N 0 (by omega) (by omega) (by omega)
 simp only [List.take_zero,List.nil_append,Nat.sub_zero] at hc
 rw [show ((0:Nat):Int)=0 from rfl] at hc
 rw [hc,Option.bind_some,Zh3 hN,Option.bind_some]
theorem Zkp {P:List Int} (h:P.all perB=true):0<lcmL P:=Zl6 (Zmd (Zmc h))
theorem ZhP {P:List Int} {n:Nat}:lcmL P ∣ n↔∀ p ∈ P,p.toNat ∣ n:=by
 unfold lcmL
 rw [ZhO]
 simp [mkS]
theorem ZiL {N:Nat} (hN:2000≤N) {P:List Int} (hl:P.length≤12) (h:P.all perB=true):ZcB N P=some (if lcmL P≤960 then ((lcmL P:Int),0) else (0,6)):=by
 rw [Zkg hN (by omega)]
 unfold Zl9
 rw [if_neg (by simp;omega),if_pos (Zmc h)]
 rfl
theorem ZkW {N:Nat} (hN:2000≤N) {P:List Int} (hl:P.length≤12) (h:P.all perB=true):Zfr N P=some (if lcmL P≤960 then (lcmL P:Int) else 0):=by
 have hp:∀ p ∈ P,1≤p∧p≤240:=fun p hp=>ZgJ.1 (List.all_eq_true.1 h p hp)
 have inner:∀ (j:Nat),1≤j→j≤1000→∀ (n M k:Nat) (b:Bool),P.length - k=n→k≤P.length→n<M→Zac (fun x:Bool × Int=>Zb3 N P (j:Int) x.1 x.2) M (b,(k:Int))=some (b&&(P.drop k).all (fun p=>decide (p.toNat ∣ j))):=by
  intro j hj1 hj2 n
  induction n with
  | zero =>
   intro M k b hn hk hM
   have:k=P.length:=by omega
   subst this
   cases M with
   | zero=>omega
   | succ M=>rw [Zay (r:=b) (by simp [Zb3])];simp
  | succ n ih =>
   intro M k b hn hk hM
   cases M with
   | zero=>omega
   | succ M =>
    have hlt:k<P.length:=by omega
    have hV:=hp P[k] (List.getElem_mem hlt)
    have hiff:=ZcH (a:=(j:Int)) (d:=P[k]) (by omega) (by omega)
    simp only [Int.toNat_natCast] at hiff
    have hc:=ih M (k+1) (b&&decide (P[k].toNat ∣ j)) (by omega) (by omega) (by omega)
    rw [ZbK (y:=(b&&decide (P[k].toNat ∣ j),((k+1:Nat):Int))),hc,Zi9 hlt,List.all_cons,Bool.and_assoc]
    simp only [Zb3]
    rw [if_pos (by simpa using hlt)]
    cases b with
    | false=>simp only [Bool.false_eq_true,if_false,Option.bind_some,Bool.false_and];rw [ZaW (by omega) (by omega)];rfl
    | true =>
     simp only [if_true,Bool.true_and]
     rw [ZfF,List.getElem?_eq_getElem hlt,Option.bind_some,ZaU (by omega),Option.bind_some]
     by_cases hd:P[k].toNat ∣ j
     ·rw [if_pos (by simpa using hiff.2 hd),Option.bind_some,ZaW (by omega) (by omega)]
      simp [hd]
     ·have:¬ (j:Int).tmod P[k]=0:=fun e=>hd (hiff.1 e)
      rw [if_neg (by simpa using this),Option.bind_some,ZaW (by omega) (by omega)]
      simp [hd]
 have step:∀ j:Nat,1≤j→j≤960→Zbt N P (j:Int)=if lcmL P ∣ j then some (.inr (.inr (j:Int))) else some (.inl ((j+1:Nat):Int)):=by
  intro j h1 h2
  simp only [Zbt]
  rw [if_pos (by simp;omega)]
  have:=inner j h1 (by omega) P.length N 0 true (by omega) (by omega) (by omega)
  rw [show ((0:Nat):Int)=0 from rfl] at this
  rw [this,Option.bind_some,List.drop_zero,Bool.true_and]
  have e:(P.all (fun p=>decide (p.toNat ∣ j))=true)↔lcmL P ∣ j:=by
   rw [ZhP,List.all_eq_true]
   simp
  by_cases hd:lcmL P ∣ j
  ·rw [if_pos (e.2 hd),if_pos hd]
  ·rw [if_neg (fun q=>hd (e.1 q)),if_neg hd,ZaW (by omega) (by omega)]
   congr 2
 have hpos:=Zkp h
 have key:∀ (n M j:Nat),961 - j=n→1≤j→j≤961→n<M→(∀ i,1≤i→i<j→¬ lcmL P ∣ i)→∃ r,Zac (fun x:Int=>Zbt N P x) M (j:Int)=some r∧(match r with | .inl _=>(0:Int) | .inr p=>p)=if lcmL P≤960 then (lcmL P:Int) else 0:=by
  intro n
  induction n with
  | zero =>
   intro M j hn h1 h2 hM hno
   obtain rfl:j=961:=by omega
   cases M with
   | zero=>omega
   | succ M =>
    refine ⟨.inl (),Zay (by simp [Zbt]),?_⟩
    rw [if_neg]
    intro hle
    exact hno (lcmL P) (by omega) (by omega) (Nat.dvd_refl _)
  | succ n ih =>
   intro M j hn h1 h2 hM hno
   cases M with
   | zero=>omega
   | succ M =>
    by_cases hd:lcmL P ∣ j
    ·refine ⟨.inr (j:Int),Zay (by rw [step j h1 (by omega),if_pos hd]),?_⟩
     have hle:=Nat.le_of_dvd (by omega) hd
     have:lcmL P=j:=by
      by_cases e:lcmL P=j
      ·exact e
      ·exact absurd (Nat.dvd_refl _) (hno (lcmL P) (by omega) (by omega))
     rw [if_pos (by omega),this]
    ·rw [ZbK (by rw [step j h1 (by omega),if_neg hd])]
     refine ih M (j+1) (by omega) (by omega) (by omega) (by omega) fun i hi1 hi2 => ?_
     by_cases e:i=j
     ·subst e;exact hd
     ·exact hno i hi1 (by omega)
 unfold Zfr
 obtain ⟨r,h1,h2⟩:=key 960 N 1 (by omega) (by omega) (by omega) (by omega) (fun i h1 h2=>by omega)
 rw [show ((1:Nat):Int)=1 from rfl] at h1
 rw [h1,Option.bind_some,← h2]
 cases r<;>rfl
theorem Zbp {α:Type} {l:List α} {k:Nat} (h:k<l.length) (d:α):l.getD k d=l[k]:=by
 rw [List.getD_eq_getElem?_getD,List.getElem?_eq_getElem h];rfl
theorem Zc8 {α ρ:Type} {l:List α} {p:α→Bool} {body:Int→Option (Int ⊕ ρ)} {bad fin:ρ} (hstep:∀ (k:Nat) (h:k<l.length),body (k:Int)=if p l[k]=true then some (.inl ((k+1:Nat):Int)) else some (.inr bad))
  (hend:body (l.length:Int)=some (.inr fin)) {N:Nat} (hN:l.length<N):Zac body N 0=some (if l.all p=true then fin else bad):=by
 have:=Zlg hstep hend l.length N 0 (by omega) (by omega) hN
 rw [show ((0:Nat):Int)=0 from rfl] at this
 rw [this,List.drop_zero]
theorem Zkr {P:List Int} {u:ZA} (h0:0≤u.Stream) (h1:u.Stream<(P.length:Int)):idx P u.Stream=some (perU P u):=Zks 0 h0 h1
theorem Zd7 {P:List Int} {u:ZA}:useB P u=true↔0≤u.Stream∧u.Stream<(P.length:Int)∧0≤u.Port∧u.Port<48∧0≤u.From∧u.From<perU P u∧1≤u.Long∧u.Long≤perU P u:=by simp [useB]
theorem Zgg {N:Nat} (hN:2000≤N) (p:Zf):Zc0 N p=some (ZgG p):=by
 unfold Zc0 ZgG
 by_cases h1:p.Periods.length≤12
 ·by_cases h2:p.Uses.length≤192
  ·rw [if_neg (by simp;omega)]
   simp only [h1,h2,decide_true,Bool.true_and]
   rw [Zc8 (l:=p.Periods) (p:=perB) (bad:=.inr false) (fin:=.inl ()) (fun k hk => ?_) (by simp [ZbM]) (by omega)]
   ·cases hP:p.Periods.all perB with
    | false=>simp
    | true =>
     simp only [if_true,Option.bind_some,Bool.true_and]
     rw [Zc8 (l:=p.Uses) (p:=useB p.Periods) (bad:=.inr false) (fin:=.inl ()) (fun k hk => ?_) (by simp [ZbL]) (by omega)]
     ·cases hU:p.Uses.all (useB p.Periods) with
      | false=>simp
      | true =>
       simp only [if_true,Option.bind_some,Bool.true_and]
       rw [ZkW hN h1 hP,Option.bind_some]
       have:=Zkp hP
       by_cases hc:lcmL p.Periods≤960
       ·rw [if_pos hc];simp [hc];omega
       ·rw [if_neg hc];simp [hc]
     ·simp only [ZbL]
      rw [if_pos (by simpa using hk),Zd6 hk,Option.bind_some]
      have hw:w64 ((k:Int)+1)=((k+1:Nat):Int):=ZaL (by omega)
      rw [hw]
      by_cases hc:0≤p.Uses[k].Stream∧p.Uses[k].Stream<(p.Periods.length:Int)∧0≤p.Uses[k].Port∧p.Uses[k].Port<48
      ·obtain ⟨c1,c2,c3,c4⟩:=hc
       rw [if_neg (by simp;omega),Zkr c1 c2]
       simp only [Option.bind_some]
       by_cases hu:useB p.Periods p.Uses[k]=true
       ·obtain ⟨_,_,_,_,u1,u2,u3,u4⟩:=Zd7.1 hu
        rw [if_neg (by simpa using u1),if_neg (by simpa using u2),if_neg (by simp;omega),Option.bind_some,if_neg (by simpa using u4),if_pos hu]
       ·have hn:¬ (0≤p.Uses[k].From∧p.Uses[k].From<perU p.Periods p.Uses[k]∧1≤p.Uses[k].Long∧p.Uses[k].Long≤perU p.Periods p.Uses[k]):=fun q=>hu (Zd7.2 ⟨c1,c2,c3,c4,q⟩)
        rw [if_neg hu]
        by_cases u1:p.Uses[k].From<0
        ·rw [if_pos (by simpa using u1)];rfl
        ·rw [if_neg (by simpa using u1)]
         by_cases u2:p.Uses[k].From ≥ perU p.Periods p.Uses[k]
         ·rw [if_pos (by simpa using u2)];rfl
         ·rw [if_neg (by simpa using u2)]
          by_cases u3:p.Uses[k].Long<1
          ·rw [if_pos (by simpa using u3)];rfl
          ·rw [if_neg (by simpa using u3),Option.bind_some,if_pos (by simp;omega)]
      ·have hu:¬ useB p.Periods p.Uses[k]=true:=fun q=>hc (by obtain ⟨a,b,c,d,_⟩:=Zd7.1 q;exact ⟨a,b,c,d⟩)
       rw [if_pos (by simp;omega),if_neg hu]
   ·simp only [ZbM]
    rw [if_pos (by simpa using hk),Zd6 hk]
    simp only [Option.bind_some]
    rw [ZaL (by omega)]
    by_cases c1:p.Periods[k]<1
    ·rw [if_pos (by simpa using c1)]
     simp only [Option.bind_some,if_true]
     rw [if_neg (by simp [perB];omega)]
    ·rw [if_neg (by simpa using c1),Option.bind_some]
     by_cases c2:p.Periods[k] > 240
     ·rw [if_pos (by simpa using c2),if_neg (by simp [perB];omega)]
     ·rw [if_neg (by simpa using c2),if_pos (by simp [perB];omega)]
  ·rw [if_pos (by simp;omega)];simp [h2]
 ·rw [if_pos (by simp;omega)];simp [h1]
theorem ZgI {N:Nat} (hN:2000≤N) (p:Zf):Zc5 N p=some (if ZgG p=true then 0 else 340):=by
 unfold Zc5 ZgG
 by_cases h1:p.Periods.length≤12
 ·by_cases h2:p.Uses.length≤192
  ·rw [if_neg (by simp;omega)]
   simp only [h1,h2,decide_true,Bool.true_and]
   rw [Zc8 (l:=p.Periods) (p:=perB) (bad:=.inr 340) (fin:=.inl ()) (fun k hk => ?_) (by simp [Zcl]) (by omega)]
   ·cases hP:p.Periods.all perB with
    | false=>simp
    | true =>
     simp only [if_true,Option.bind_some,Bool.true_and]
     rw [ZiL hN h1 hP,Option.bind_some]
     by_cases hc:lcmL p.Periods≤960
     ·rw [if_pos hc]
      simp only [bne_self_eq_false,Bool.false_eq_true,if_false]
      rw [Zc8 (l:=p.Uses) (p:=useB p.Periods) (bad:=.inr 340) (fin:=.inl ()) (fun k hk => ?_) (by simp [Zck]) (by omega)]
      ·cases hU:p.Uses.all (useB p.Periods) with
       | false=>simp
       | true=>simp [hc]
      ·simp only [Zck]
       rw [if_pos (by simpa using hk),Zd6 hk,Option.bind_some]
       have hw:w64 ((k:Int)+1)=((k+1:Nat):Int):=ZaL (by omega)
       rw [hw]
       by_cases hc:0≤p.Uses[k].Stream∧p.Uses[k].Stream<(p.Periods.length:Int)∧0≤p.Uses[k].Port∧p.Uses[k].Port<48
       ·obtain ⟨c1,c2,c3,c4⟩:=hc
        rw [if_neg (by simp;omega),Zkr c1 c2]
        simp only [Option.bind_some]
        by_cases hu:useB p.Periods p.Uses[k]=true
        ·obtain ⟨_,_,_,_,u1,u2,u3,u4⟩:=Zd7.1 hu
         rw [if_neg (by simp;omega),if_pos hu]
        ·have hn:¬ (0≤p.Uses[k].From∧p.Uses[k].From<perU p.Periods p.Uses[k]∧1≤p.Uses[k].Long∧p.Uses[k].Long≤perU p.Periods p.Uses[k]):=fun q=>hu (Zd7.2 ⟨c1,c2,c3,c4,q⟩)
         rw [if_neg hu,if_pos (by simp;omega)]
       ·have hu:¬ useB p.Periods p.Uses[k]=true:=fun q=>hc (by obtain ⟨a,b,c,d,_⟩:=Zd7.1 q;exact ⟨a,b,c,d⟩)
        rw [if_pos (by simp;omega),if_neg hu]
     ·rw [if_neg hc];simp [hc]
   ·simp only [Zcl]
    rw [if_pos (by simpa using hk),Zd6 hk]
    simp only [Option.bind_some]
    rw [ZaL (by omega)]
    by_cases c:perB p.Periods[k]=true
    ·have:=ZgJ.1 c
     rw [if_neg (by simp;omega),if_pos c]
    ·rw [if_pos,if_neg c]
     simp [perB] at c ⊢;omega
  ·rw [if_pos (by simp;omega)];simp [h2]
 ·rw [if_pos (by simp;omega)];simp [h1]
theorem Zk2 {p:Zf}:ZgG p=true↔p.Periods.length≤12∧p.Uses.length≤192∧p.Periods.all perB=true∧p.Uses.all (useB p.Periods)=true∧lcmL p.Periods≤960:=by
 unfold ZgG
 simp only [Bool.and_eq_true,decide_eq_true_eq]
 constructor
 ·rintro ⟨⟨⟨⟨a,b⟩,c⟩,d⟩,e⟩;exact ⟨a,b,c,d,e⟩
 ·rintro ⟨a,b,c,d,e⟩;exact ⟨⟨⟨⟨a,b⟩,c⟩,d⟩,e⟩
end Go.Sh

set_option linter.unusedVariables false
set_option linter.unusedSimpArgs false
namespace Go.Sh
open Go Go.Eng
structure VP (p:Zf):Prop where
 len:p.Periods.length≤12
 uses:p.Uses.length≤192
 per:∀ q ∈ p.Periods,1≤q∧q≤240
 use:∀ u ∈ p.Uses,0≤u.Stream∧u.Stream<(p.Periods.length:Int)∧0≤u.Port∧u.Port<48∧0≤u.From∧u.From<perU p.Periods u∧1≤u.Long∧u.Long≤perU p.Periods u
 lcm:lcmL p.Periods≤960
 lpos:0<lcmL p.Periods
theorem VP.of {p:Zf} (h:ZgG p=true):VP p:=by
 obtain ⟨h1,h2,h3,h4,h5⟩:=Zk2.1 h
 exact ⟨h1,h2,fun q hq=>ZgJ.1 (List.all_eq_true.1 h3 q hq),fun u hu=>Zd7.1 (List.all_eq_true.1 h4 u hu),h5,Zkp h3⟩
theorem perU_in {P:List Int} {u:ZA} (h0:0≤u.Stream) (h1:u.Stream<(P.length:Int)):perU P u ∈ P:=by
 unfold perU
 rw [Zbp (by omega)]
 exact List.getElem_mem _
theorem VP.peru {p:Zf} (h:VP p) {u:ZA} (hu:u ∈ p.Uses):1≤perU p.Periods u∧perU p.Periods u≤240:=by
 obtain ⟨a,b,_⟩:=h.use u hu
 exact h.per _ (perU_in a b)
def Zds (p:Zf) (u:ZA) (x:Int):Zw:=⟨perU p.Periods u,(u.From+x) % perU p.Periods u,u.Long⟩
def u0:ZA:=⟨0,0,0,0⟩
theorem VP.vspan {p:Zf} (h:VP p) {u:ZA} (hu:u ∈ p.Uses) (x:Int):VSpan (Zds p u x):=by
 obtain ⟨_,_,_,_,_,_,h1,h2⟩:=h.use u hu
 obtain ⟨h3,h4⟩:=h.peru hu
 have h5:=Int.emod_nonneg (u.From+x) (show perU p.Periods u ≠ 0 by omega)
 have h6:=Int.emod_lt_of_pos (u.From+x) (show 0<perU p.Periods u by omega)
 show 1≤perU p.Periods u∧perU p.Periods u≤960∧0≤(u.From+x) % perU p.Periods u∧(u.From+x) % perU p.Periods u<perU p.Periods u∧1≤u.Long∧u.Long≤perU p.Periods u
 omega
theorem VP.rem {p:Zf} (h:VP p) {u:ZA} (hu:u ∈ p.Uses) {x:Int} (h0:0≤x) (h1:x≤1000000):remI (w64 (u.From+x)) (perU p.Periods u)=some ((u.From+x) % perU p.Periods u):=by
 obtain ⟨_,_,_,_,h5,h6,h7,h8⟩:=h.use u hu
 obtain ⟨h3,h4⟩:=h.peru hu
 rw [ZaW (by omega) (by omega),ZaU (by omega),Int.tmod_eq_emod_of_nonneg (by omega)]
theorem Ze4 (N:Nat) {p:Zf} (h:VP p) {u:ZA} (hu:u ∈ p.Uses) {x:Int} (h0:0≤x) (h1:x≤1000000):Zcg N p u x=some (Zds p u x):=by
 obtain ⟨a,b,_⟩:=h.use u hu
 unfold Zcg
 rw [Zkr a b,Option.bind_some,h.rem hu h0 h1,Option.bind_some]
 rfl
theorem ZiE (N:Nat) {p:Zf} (h:VP p) {k:Nat} (hk:k<p.Uses.length) {x:Int} (h0:0≤x) (h1:x≤1000000):ZfO N p k x=some (Zds p (p.Uses.getD k u0) x):=by
 have hu:p.Uses[k] ∈ p.Uses:=List.getElem_mem hk
 obtain ⟨a,b,_⟩:=h.use _ hu
 unfold ZfO
 rw [Zd6 hk]
 simp only [Option.bind_some]
 rw [Zkr a b,Option.bind_some,h.rem hu h0 h1,Option.bind_some,Zbp hk]
 rfl
def offB (p:Zf) (i x:Int):Bool:=decide (0≤i∧i<(p.Periods.length:Int)∧0≤x∧x<p.Periods.getD i.toNat 0)
theorem Zdc {p:Zf} {i x:Int}:offB p i x=true↔0≤i∧i<(p.Periods.length:Int)∧0≤x∧x<p.Periods.getD i.toNat 0:=by simp [offB]
theorem Zew (N:Nat) {p:Zf} {i x:Int} (h0:0≤i) (h1:i<(p.Periods.length:Int)):ZcA N p i x=some (offB p i x):=by
 unfold ZcA
 by_cases hx:x ≥ 0
 ·rw [if_pos (by simpa using hx),Zks 0 h0 h1]
  simp only [Option.bind_some]
  congr 1
  rw [Bool.eq_iff_iff,Zdc]
  simp
  omega
 ·rw [if_neg (by simpa using hx),Option.bind_some]
  congr 1
  symm
  rw [Bool.eq_false_iff]
  intro q
  have:=Zdc.1 q
  omega
theorem Zd0 (N:Nat) (p:Zf) (i x:Int):Zb2 N p i x=some (offB p i x):=by
 unfold Zb2
 have hf:∀ (c:Prop),¬ c→(offB p i x=true→c)→some (offB p i x)=some false:=fun c hc hi=>by
  congr 1
  rw [Bool.eq_false_iff]
  exact fun q=>hc (hi q)
 by_cases c1:i ≥ 0
 ·rw [if_pos (by simpa using c1)]
  by_cases c2:i<(p.Periods.length:Int)
  ·rw [if_pos (by simpa using c2)]
   by_cases c3:x ≥ 0
   ·rw [if_pos (by simpa using c3),Zks 0 c1 c2]
    simp only [Option.bind_some]
    congr 1
    rw [Bool.eq_iff_iff,Zdc]
    simp
    omega
   ·rw [if_neg (by simpa using c3),Option.bind_some]
    exact (hf _ c3 fun q=>(Zdc.1 q).2.2.1).symm
  ·rw [if_neg (by simpa using c2),Option.bind_some]
   exact (hf _ c2 fun q=>(Zdc.1 q).2.1).symm
 ·rw [if_neg (by simpa using c1),Option.bind_some]
  exact (hf _ c1 fun q=>(Zdc.1 q).1).symm
def hitB (p:Zf) (i a j b:Int) (k m:Nat):Bool :=
 decide (k ≠ m)&&(((p.Uses.getD k u0).Stream==i)&&(((p.Uses.getD m u0).Stream==j)&&(((p.Uses.getD k u0).Port==(p.Uses.getD m u0).Port) &&
  !(decide (SepD (Zds p (p.Uses.getD k u0) a) (Zds p (p.Uses.getD m u0) b) ((Zds p (p.Uses.getD m u0) b).From - (Zds p (p.Uses.getD k u0) a).From))))))
def Zey (p:Zf) (i a j b:Int):Bool := !(allB p.Uses.length fun k=>allB p.Uses.length fun m => !(hitB p i a j b k m))
theorem Zgi {N:Nat} (hN:2000≤N) {p:Zf} (h:VP p) {i a j b:Int} (ha:0≤a) (ha2:a≤1000) (hb:0≤b) (hb2:b≤1000):Zc1 N p i a j b=some (Zey p i a j b):=by
 have hl:=h.uses
 unfold Zc1
 rw [ZcF (n:=p.Uses.length) (p:=fun k=>allB p.Uses.length fun m => !(hitB p i a j b k m)) (bad:=.inr true) (fin:=.inl ()) (fun k hk => ?_) (by simp [ZbO]) (by omega)]
 ·unfold Zey
  cases allB p.Uses.length fun k=>allB p.Uses.length fun m => !(hitB p i a j b k m)<;>rfl
 ·simp only [ZbO]
  rw [if_pos (by simpa using hk),ZcF (n:=p.Uses.length) (p:=fun m => !(hitB p i a j b k m)) (bad:=.inr true) (fin:=.inl ()) (fun m hm => ?_) (by simp [ZbN]) (by omega)]
  ·have hw:w64 ((k:Int)+1)=((k+1:Nat):Int):=ZaL (by omega)
   cases allB p.Uses.length fun m => !(hitB p i a j b k m) with
   | false=>rfl
   | true=>simp only [if_true,Option.bind_some];rw [hw]
  ·simp only [ZbN]
   have hw:w64 ((m:Int)+1)=((m+1:Nat):Int):=ZaL (by omega)
   rw [if_pos (by simpa using hm),Zd6 hk,Zd6 hm,hw]
   simp only [Option.bind_some]
   rw [ZiE N h hk ha (by omega),ZiE N h hm hb (by omega)]
   simp only [Option.bind_some]
   rw [Zbp hk,Zbp hm,VSpan.separate hN (h.vspan (List.getElem_mem hk) a) (h.vspan (List.getElem_mem hm) b)]
   simp only [Option.bind_some]
   unfold hitB
   rw [Zbp hk,Zbp hm]
   by_cases c0:k=m
   ·subst c0;simp
   ·rw [if_pos (by simp;omega)]
    cases c1:(p.Uses[k].Stream==i) with
    | false=>simp
    | true =>
     cases c2:(p.Uses[m].Stream==j) with
     | false=>simp
     | true =>
      cases c3:(p.Uses[k].Port==p.Uses[m].Port) with
      | false=>simp
      | true =>
       simp only [if_true,Option.bind_some,c0,ne_eq,not_false_eq_true,decide_true,Bool.true_and,Bool.not_not]
       cases decide (SepD (Zds p p.Uses[k] a) (Zds p p.Uses[m] b) ((Zds p p.Uses[m] b).From - (Zds p p.Uses[k] a).From))<;>rfl
theorem ZnC {s:Zw} (hs:VSpan s):¬ SepD s s (s.From - s.From):=by
 have:=hs.bounds
 unfold SepD
 simp
 omega
theorem use_ext {u v:ZA} (h:(((u.Stream==v.Stream)&&((u.Port==v.Port)&&((u.From==v.From)&&((u.Long==v.Long)&&true))))=true)):u=v:=by
 obtain ⟨a,b,c,d⟩:=u
 obtain ⟨a',b',c',d'⟩:=v
 simp at h
 obtain ⟨rfl,rfl,rfl,rfl⟩:=h
 rfl
theorem Zdx {N:Nat} (hN:2000≤N) {p:Zf} (h:VP p) {i a j b:Int} (ha:0≤a) (ha2:a≤1000) (hb:0≤b) (hb2:b≤1000) (hij:i=j→a=b):Zcj N p i a j b=some (Zey p i a j b):=by
 have hl:=h.uses
 unfold Zcj ZfP
 simp only [Option.bind_some]
 have round:∀ k m:Nat,∀ (hk:k<p.Uses.length) (hm:m<p.Uses.length),p.Uses[k].Stream=i→p.Uses[m].Stream=j →
   ZaA N p a b false p.Uses[k] p.Uses[m]=some (if SepD (Zds p p.Uses[k] a) (Zds p p.Uses[m] b) ((Zds p p.Uses[m] b).From - (Zds p p.Uses[k] a).From) then (false,0) else (true,1)):=by
  intro k m hk hm e1 e2
  unfold ZaA
  have hv1:=h.vspan (List.getElem_mem hk) a
  have hv2:=h.vspan (List.getElem_mem hm) b
  by_cases c:((p.Uses[k].Stream==p.Uses[m].Stream)&&((p.Uses[k].Port==p.Uses[m].Port)&&((p.Uses[k].From==p.Uses[m].From)&&((p.Uses[k].Long==p.Uses[m].Long)&&true))))=true
  ·rw [if_pos c]
   have e:=use_ext c
   have hab:a=b:=hij (by rw [← e1,← e2,e])
   subst hab
   rw [← e,if_neg (ZnC hv1)]
  ·have hA:=Zh5 hN (Zds p p.Uses[k] a) (Zds p p.Uses[m] b)
   rw [if_pos ⟨hv1,hv2⟩] at hA
   rw [if_neg c,Ze4 N h (List.getElem_mem hk) ha (by omega),Option.bind_some,Ze4 N h (List.getElem_mem hm) hb (by omega),Option.bind_some,hA,Option.bind_some]
   by_cases s:SepD (Zds p p.Uses[k] a) (Zds p p.Uses[m] b) ((Zds p p.Uses[m] b).From - (Zds p p.Uses[k] a).From)
   ·simp [s]
   ·simp [s]
 have loop:Zdm N (fun (s:Bool × Nat) (x16:ZA) (x17:ZA)=>Zf6 (fun v:Bool=>ZaA N p a b v x16 x17) s) p i j (false,0)=some (if Zey p i a j b=true then (true,1) else (false,0)):=by
  unfold Zdm
  rw [(ZiZ (n:=p.Uses.length) (p:=fun k=>allB p.Uses.length fun m => !(hitB p i a j b k m)) (f:=fun s _=>s) (bad:=.inr (true,1)) (fin:=fun s=>.inl s) (fun _ s=>s=(false,0)) (fun k s hk hs => ?_) (fun _ s _ hs _=>hs) (fun s _=>by simp [Zbo]) (N:=N) (by omega) rfl).1]
  ·unfold Zey
   have hf:∀ (l:List Nat),l.foldl (fun (s:Bool × Nat) _=>s) (false,0)=(false,0):=by
    intro l;induction l with
    | nil=>rfl
    | cons x l ih=>simpa using ih
   rw [hf]
   cases allB p.Uses.length fun k=>allB p.Uses.length fun m => !(hitB p i a j b k m)<;>rfl
  ·subst hs
   simp only [Zbo]
   have hw:w64 ((k:Int)+1)=((k+1:Nat):Int):=ZaL (by omega)
   rw [if_pos (by simpa using hk),Zd6 hk,Option.bind_some,hw]
   by_cases c1:p.Uses[k].Stream=i
   ·rw [if_neg (by simpa using c1)]
    rw [(ZiZ (n:=p.Uses.length) (p:=fun m => !(hitB p i a j b k m)) (f:=fun s _=>s) (bad:=.inr (true,1)) (fin:=fun s=>.inl s) (fun _ s=>s=(false,0)) (fun m s hm hs => ?_) (fun _ s _ hs _=>hs) (fun s _=>by simp [Zbn]) (N:=N) (by omega) rfl).1]
    ·have hf:∀ (l:List Nat),l.foldl (fun (s:Bool × Nat) _=>s) (false,0)=(false,0):=by
      intro l;induction l with
      | nil=>rfl
      | cons x l ih=>simpa using ih
     rw [hf]
     cases allB p.Uses.length fun m => !(hitB p i a j b k m)<;>rfl
    ·subst hs
     simp only [Zbn]
     have hw2:w64 ((m:Int)+1)=((m+1:Nat):Int):=ZaL (by omega)
     rw [if_pos (by simpa using hm),Zd6 hm,Option.bind_some,hw2]
     unfold hitB
     rw [Zbp hk,Zbp hm]
     by_cases c0:k=m
     ·subst c0;simp
     ·have c0':((m:Int)==(k:Int))=false:=by simp;omega
      rw [c0']
      simp only [Bool.false_eq_true,if_false]
      by_cases c2:p.Uses[m].Stream=j
      ·rw [if_neg (by simpa using c2),Option.bind_some]
       by_cases c3:p.Uses[k].Port=p.Uses[m].Port
       ·rw [if_neg (by simp [c3])]
        unfold Zf6
        simp only [if_true]
        rw [round k m hk hm c1 c2]
        simp only [c0,c1,c2,c3,ne_eq,not_false_eq_true,decide_true,Bool.true_and,beq_self_eq_true,Bool.not_not]
        by_cases s:SepD (Zds p p.Uses[k] a) (Zds p p.Uses[m] b) ((Zds p p.Uses[m] b).From - (Zds p p.Uses[k] a).From)
        ·simp [s]
        ·simp [s]
       ·rw [if_pos (by simp;exact fun q=>c3 q.symm)]
        simp [c3]
      ·rw [if_pos (by simpa using c2),Option.bind_some]
       simp [c2]
   ·rw [if_pos (by simpa using c1)]
    have:(allB p.Uses.length fun m => !(hitB p i a j b k m))=true:=by
     rw [Zf1]
     intro m hm
     unfold hitB
     rw [Zbp hk]
     simp [c1]
    rw [this,if_pos rfl]
 rw [loop,Option.bind_some]
 cases Zey p i a j b<;>rfl
def argB (p:Zf) (i a j b:Int):Bool:=offB p i a&&offB p j b && !(decide (i=j)&&decide (a ≠ b))
def ZgR (p:Zf) (i a j b:Int):Bool × Int:=if ZgG p=true then (if argB p i a j b=true then (Zey p i a j b,0) else (false,2)) else (false,340)
theorem ZhL {p:Zf} (h:VP p) {i x:Int} (ho:offB p i x=true):0≤x∧x<240:=by
 obtain ⟨a,b,c,d⟩:=Zdc.1 ho
 rw [Zbp (by omega)] at d
 have:=h.per _ (List.getElem_mem (show i.toNat<p.Periods.length by omega))
 omega
theorem Zc3 {N:Nat} (hN:2000≤N) (p:Zf) (i a j b:Int):Zbe N p i a j b=some (ZgR p i a j b):=by
 unfold Zbe ZgR
 rw [Zgg hN,Option.bind_some]
 cases hp:ZgG p with
 | false=>rfl
 | true =>
  have h:=VP.of hp
  simp only [Bool.not_true,if_true,Bool.false_eq_true,if_false]
  rw [Zd0,Zd0]
  simp only [Option.bind_some]
  unfold argB
  cases o1:offB p i a with
  | false=>rfl
  | true =>
   cases o2:offB p j b with
   | false=>rfl
   | true =>
    simp only [Bool.not_true,Bool.false_eq_true,if_false,Bool.true_and]
    have b1:=ZhL h o1
    have b2:=ZhL h o2
    rw [Zgi hN h b1.1 (by omega) b2.1 (by omega)]
    by_cases c:i=j
    ·by_cases d:a=b
     ·simp [c,d]
     ·simp [c,d]
    ·simp [c]
theorem Zdy {N:Nat} (hN:2000≤N) (p:Zf) (i a j b:Int):Za9 N p i a j b=some (ZgR p i a j b):=by
 unfold Za9 ZgR
 rw [ZgI hN,Option.bind_some]
 cases hp:ZgG p with
 | false=>rfl
 | true =>
  have h:=VP.of hp
  simp only [if_true,bne_self_eq_false,Bool.false_eq_true,if_false]
  by_cases c1:0≤i∧i<(p.Periods.length:Int)∧0≤j∧j<(p.Periods.length:Int)
  ·obtain ⟨i1,i2,j1,j2⟩:=c1
   rw [if_neg (by simp;omega),Zew N i1 i2,Zew N j1 j2]
   simp only [Option.bind_some]
   unfold argB
   cases o1:offB p i a with
   | false=>rfl
   | true =>
    cases o2:offB p j b with
    | false=>rfl
    | true =>
     simp only [Bool.not_true,Bool.false_eq_true,if_false,Bool.true_and]
     have b1:=ZhL h o1
     have b2:=ZhL h o2
     by_cases c:i=j
     ·by_cases d:a=b
      ·rw [Zdx hN h b1.1 (by omega) b2.1 (by omega) (fun _=>d)]
       simp [c,d]
      ·simp [c,d]
     ·rw [Zdx hN h b1.1 (by omega) b2.1 (by omega) (fun q=>absurd q c)]
      simp [c]
  ·rw [if_pos (by simp;omega)]
   have:argB p i a j b=false:=by
    unfold argB
    rw [Bool.eq_false_iff]
    intro q
    simp only [Bool.and_eq_true] at q
    have q1:=Zdc.1 q.1.1
    have q2:=Zdc.1 q.1.2
    omega
   rw [this];rfl
end Go.Sh

