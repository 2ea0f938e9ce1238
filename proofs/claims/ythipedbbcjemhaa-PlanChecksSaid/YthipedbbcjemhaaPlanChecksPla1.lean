/- Part of the proof; written by a program out of the texts in wip/. -/
import Derived.Test.YthipedbbcjemhaaPlanChecksRes3
import Derived.KernelRfl
set_option linter.unusedVariables false
set_option linter.unusedSimpArgs false
namespace Go.Sh
open Go Go.Eng
def mkS (p:Int):Zt:=⟨p,0,1⟩
def perB (p:Int):Bool:=decide (1≤p)&&decide (p≤240)
def lcmL (P:List Int):Nat:=lcmP (P.map mkS)
def perU (P:List Int) (u:Zz):Int:=P.getD u.Stream.toNat 0
def useB (P:List Int) (u:Zz):Bool:=decide (0≤u.Stream∧u.Stream<(P.length:Int)∧0≤u.Port∧u.Port<48∧0≤u.From∧u.From<perU P u∧1≤u.Long∧u.Long≤perU P u)
def ZeT (p:Ze):Bool:=decide (p.Periods.length≤12)&&decide (p.Uses.length≤192)&&p.Periods.all perB&&p.Uses.all (useB p.Periods)&&decide (lcmL p.Periods≤960)
theorem Zf2 {p:Int}:perB p=true↔1≤p∧p≤240:=by simp [perB]
theorem Zlm {P:List Int} (h:P.all perB=true):allV (P.map mkS)=true:=by
 unfold allV
 rw [List.all_eq_true] at h ⊢
 intro s hs
 obtain ⟨p,hp,rfl⟩:=List.mem_map.1 hs
 have:=Zf2.1 (h p hp)
 rw [decide_eq_true_eq]
 show 1≤p∧p≤960∧(0:Int)≤0∧(0:Int)<p∧(1:Int)≤1∧(1:Int)≤p
 omega
theorem Zjq {N:Nat} (hN:2000≤N) {P:List Int} (hl:P.length≤1000):Zce N P=some (Zlj (P.map mkS)):=by
 unfold Zce
 have hmk:Zh6 24 (P.length:Int) (P.length:Int) (Zt.mk 0 0 0)=some (List.replicate P.length (Zt.mk 0 0 0)):=by
  unfold Zh6;rw [if_pos (by omega)];simp
 rw [hmk,Option.bind_some]
 have hloop:∀ (n M k:Nat),P.length - k=n→k≤P.length→n<M→Zai (fun x:Int × List Zt=>Zbl N P x.1 x.2) M ((k:Int),(P.map mkS).take k++List.replicate (P.length - k) (Zt.mk 0 0 0))=some (P.map mkS):=by
  intro n
  induction n with
  | zero =>
   intro M k hn hk hM
   have:k=P.length:=by omega
   subst this
   cases M with
   | zero=>omega
   | succ M =>
    refine ZbH ?_
    simp only [Zbl]
    rw [if_neg (by simp)]
    simp [List.take_of_length_le]
  | succ n ih =>
   intro M k hn hk hM
   cases M with
   | zero=>omega
   | succ M =>
    have hlt:k<P.length:=by omega
    have hc:=ih M (k+1) (by omega) (by omega) (by omega)
    rw [ZcL (y:=(((k+1:Nat):Int),(P.map mkS).take (k+1)++List.replicate (P.length - (k+1)) (Zt.mk 0 0 0))),hc]
    simp only [Zbl]
    have hlen:((P.map mkS).take k++List.replicate (P.length - k) (Zt.mk 0 0 0)).length=P.length:=by simp;omega
    rw [if_pos (by simpa using hlt),Ze6,List.getElem?_eq_getElem hlt,Option.bind_some,Ze6,List.getElem?_eq_getElem (by omega),Option.bind_some,Zcf (by omega) (by omega)]
    have hset:List.set ((P.map mkS).take k++List.replicate (P.length - k) (Zt.mk 0 0 0)) k (mkS P[k])=(P.map mkS).take (k+1)++List.replicate (P.length - (k+1)) (Zt.mk 0 0 0):=by
     rw [List.set_append_right _ _ (by simp;omega)]
     have e1:k - ((P.map mkS).take k).length=0:=by simp;omega
     rw [e1,show P.length - k=(P.length - (k+1))+1 by omega,List.replicate_succ,List.set_cons_zero,List.take_succ_eq_append_getElem (by simpa using hlt)]
     simp
    simp only [Int.toNat_natCast]
    rw [show (Zt.mk P[k] 0 1)=mkS P[k] from rfl,hset]
    rfl
 have hc:=hloop P.length N 0 (by omega) (by omega) (by omega)
 simp only [List.take_zero,List.nil_append,Nat.sub_zero] at hc
 rw [show ((0:Nat):Int)=0 from rfl] at hc
 rw [hc,Option.bind_some,Zhi hN,Option.bind_some]
theorem ZjB {P:List Int} (h:P.all perB=true):0<lcmL P:=Zlg (Zln (Zlm h))
theorem Zg5 {P:List Int} {n:Nat}:lcmL P ∣ n↔∀ p ∈ P,p.toNat ∣ n:=by
 unfold lcmL
 rw [Zg4]
 simp [mkS]
theorem ZeV {N:Nat} (hN:2000≤N) {P:List Int} (hl:P.length≤12) (h:P.all perB=true):Zce N P=some (if lcmL P≤960 then ((lcmL P:Int),0) else (0,6)):=by
 rw [Zjq hN (by omega)]
 unfold Zlj
 rw [if_neg (by simp;omega),if_pos (Zlm h)]
 rfl
theorem ZgW {N:Nat} (hN:2000≤N) {P:List Int} (hl:P.length≤12) (h:P.all perB=true):Zd2 N P=some (if lcmL P≤960 then (lcmL P:Int) else 0):=by
 have hp:∀ p ∈ P,1≤p∧p≤240:=fun p hp=>Zf2.1 (List.all_eq_true.1 h p hp)
 have inner:∀ (j:Nat),1≤j→j≤1000→∀ (n M k:Nat) (b:Bool),P.length - k=n→k≤P.length→n<M→Zai (fun x:Bool × Int=>ZbF N P (j:Int) x.1 x.2) M (b,(k:Int))=some (b&&(P.drop k).all (fun p=>decide (p.toNat ∣ j))):=by
  intro j hj1 hj2 n
  induction n with
  | zero =>
   intro M k b hn hk hM
   have:k=P.length:=by omega
   subst this
   cases M with
   | zero=>omega
   | succ M=>rw [ZbH (r:=b) (by simp [ZbF])];simp
  | succ n ih =>
   intro M k b hn hk hM
   cases M with
   | zero=>omega
   | succ M =>
    have hlt:k<P.length:=by omega
    have hV:=hp P[k] (List.getElem_mem hlt)
    have hiff:=Zjb (a:=(j:Int)) (d:=P[k]) (by omega) (by omega)
    simp only [Int.toNat_natCast] at hiff
    have hc:=ih M (k+1) (b&&decide (P[k].toNat ∣ j)) (by omega) (by omega) (by omega)
    rw [ZcL (y:=(b&&decide (P[k].toNat ∣ j),((k+1:Nat):Int))),hc,Zik hlt,List.all_cons,Bool.and_assoc]
    simp only [ZbF]
    rw [if_pos (by simpa using hlt)]
    cases b with
    | false=>simp only [Bool.false_eq_true,if_false,Option.bind_some,Bool.false_and];rw [Zcf (by omega) (by omega)];rfl
    | true =>
     simp only [if_true,Bool.true_and]
     rw [Ze6,List.getElem?_eq_getElem hlt,Option.bind_some,Zdd (by omega),Option.bind_some]
     by_cases hd:P[k].toNat ∣ j
     ·rw [if_pos (by simpa using hiff.2 hd),Option.bind_some,Zcf (by omega) (by omega)]
      simp [hd]
     ·have:¬ (j:Int).tmod P[k]=0:=fun e=>hd (hiff.1 e)
      rw [if_neg (by simpa using this),Option.bind_some,Zcf (by omega) (by omega)]
      simp [hd]
 have step:∀ j:Nat,1≤j→j≤960→Za9 N P (j:Int)=if lcmL P ∣ j then some (.inr (.inr (j:Int))) else some (.inl ((j+1:Nat):Int)):=by
  intro j h1 h2
  simp only [Za9]
  rw [if_pos (by simp;omega)]
  have:=inner j h1 (by omega) P.length N 0 true (by omega) (by omega) (by omega)
  rw [show ((0:Nat):Int)=0 from rfl] at this
  rw [this,Option.bind_some,List.drop_zero,Bool.true_and]
  have e:(P.all (fun p=>decide (p.toNat ∣ j))=true)↔lcmL P ∣ j:=by
   rw [Zg5,List.all_eq_true]
   simp
  by_cases hd:lcmL P ∣ j
  ·rw [if_pos (e.2 hd),if_pos hd]
  ·rw [if_neg (fun q=>hd (e.1 q)),if_neg hd,Zcf (by omega) (by omega)]
   congr 2
 have hpos:=ZjB h
 have key:∀ (n M j:Nat),961 - j=n→1≤j→j≤961→n<M→(∀ i,1≤i→i<j→¬ lcmL P ∣ i)→∃ r,Zai (fun x:Int=>Za9 N P x) M (j:Int)=some r∧(match r with | .inl _=>(0:Int) | .inr p=>p)=if lcmL P≤960 then (lcmL P:Int) else 0:=by
  intro n
  induction n with
  | zero =>
   intro M j hn h1 h2 hM hno
   obtain rfl:j=961:=by omega
   cases M with
   | zero=>omega
   | succ M =>
    refine ⟨.inl (),ZbH (by simp [Za9]),?_⟩
    rw [if_neg]
    intro hle
    exact hno (lcmL P) (by omega) (by omega) (Nat.dvd_refl _)
  | succ n ih =>
   intro M j hn h1 h2 hM hno
   cases M with
   | zero=>omega
   | succ M =>
    by_cases hd:lcmL P ∣ j
    ·refine ⟨.inr (j:Int),ZbH (by rw [step j h1 (by omega),if_pos hd]),?_⟩
     have hle:=Nat.le_of_dvd (by omega) hd
     have:lcmL P=j:=by
      by_cases e:lcmL P=j
      ·exact e
      ·exact absurd (Nat.dvd_refl _) (hno (lcmL P) (by omega) (by omega))
     rw [if_pos (by omega),this]
    ·rw [ZcL (by rw [step j h1 (by omega),if_neg hd])]
     refine ih M (j+1) (by omega) (by omega) (by omega) (by omega) fun i hi1 hi2 => ?_
     by_cases e:i=j
     ·subst e;exact hd
     ·exact hno i hi1 (by omega)
 unfold Zd2
 obtain ⟨r,h1,h2⟩:=key 960 N 1 (by omega) (by omega) (by omega) (by omega) (fun i h1 h2=>by omega)
 rw [show ((1:Nat):Int)=1 from rfl] at h1
 rw [h1,Option.bind_some,← h2]
 cases r<;>rfl
theorem ZiR {α:Type} {l:List α} {k:Nat} (h:k<l.length) (d:α):l.getD k d=l[k]:=by
 rw [List.getD_eq_getElem?_getD,List.getElem?_eq_getElem h];rfl
theorem Zfl {α ρ:Type} {l:List α} {p:α→Bool} {body:Int→Option (Int ⊕ ρ)} {bad fin:ρ} (hstep:∀ (k:Nat) (h:k<l.length),body (k:Int)=if p l[k]=true then some (.inl ((k+1:Nat):Int)) else some (.inr bad))
  (hend:body (l.length:Int)=some (.inr fin)) {N:Nat} (hN:l.length<N):Zai body N 0=some (if l.all p=true then fin else bad):=by
 have:=Zkn hstep hend l.length N 0 (by omega) (by omega) hN
 rw [show ((0:Nat):Int)=0 from rfl] at this
 rw [this,List.drop_zero]
theorem Zia {P:List Int} {u:Zz} (h0:0≤u.Stream) (h1:u.Stream<(P.length:Int)):idx P u.Stream=some (perU P u):=Zlh 0 h0 h1
theorem Zdr {P:List Int} {u:Zz}:useB P u=true↔0≤u.Stream∧u.Stream<(P.length:Int)∧0≤u.Port∧u.Port<48∧0≤u.From∧u.From<perU P u∧1≤u.Long∧u.Long≤perU P u:=by simp [useB]
theorem ZdR {N:Nat} (hN:2000≤N) (p:Ze):Zca N p=some (ZeT p):=by
 unfold Zca ZeT
 by_cases h1:p.Periods.length≤12
 ·by_cases h2:p.Uses.length≤192
  ·rw [if_neg (by simp;omega)]
   simp only [h1,h2,decide_true,Bool.true_and]
   rw [Zfl (l:=p.Periods) (p:=perB) (bad:=.inr false) (fin:=.inl ()) (fun k hk => ?_) (by simp [Zbt]) (by omega)]
   ·cases hP:p.Periods.all perB with
    | false=>simp
    | true =>
     simp only [if_true,Option.bind_some,Bool.true_and]
     rw [Zfl (l:=p.Uses) (p:=useB p.Periods) (bad:=.inr false) (fin:=.inl ()) (fun k hk => ?_) (by simp [Zbs]) (by omega)]
     ·cases hU:p.Uses.all (useB p.Periods) with
      | false=>simp
      | true =>
       simp only [if_true,Option.bind_some,Bool.true_and]
       rw [ZgW hN h1 hP,Option.bind_some]
       have:=ZjB hP
       by_cases hc:lcmL p.Periods≤960
       ·rw [if_pos hc];simp [hc];omega
       ·rw [if_neg hc];simp [hc]
     ·simp only [Zbs]
      rw [if_pos (by simpa using hk),ZjE hk,Option.bind_some]
      have hw:w64 ((k:Int)+1)=((k+1:Nat):Int):=Zfc (by omega)
      rw [hw]
      by_cases hc:0≤p.Uses[k].Stream∧p.Uses[k].Stream<(p.Periods.length:Int)∧0≤p.Uses[k].Port∧p.Uses[k].Port<48
      ·obtain ⟨c1,c2,c3,c4⟩:=hc
       rw [if_neg (by simp;omega),Zia c1 c2]
       simp only [Option.bind_some]
       by_cases hu:useB p.Periods p.Uses[k]=true
       ·obtain ⟨_,_,_,_,u1,u2,u3,u4⟩:=Zdr.1 hu
        rw [if_neg (by simpa using u1),if_neg (by simpa using u2),if_neg (by simp;omega),Option.bind_some,if_neg (by simpa using u4),if_pos hu]
       ·have hn:¬ (0≤p.Uses[k].From∧p.Uses[k].From<perU p.Periods p.Uses[k]∧1≤p.Uses[k].Long∧p.Uses[k].Long≤perU p.Periods p.Uses[k]):=fun q=>hu (Zdr.2 ⟨c1,c2,c3,c4,q⟩)
        rw [if_neg hu]
        by_cases u1:p.Uses[k].From<0
        ·rw [if_pos (by simpa using u1)];rfl
        ·rw [if_neg (by simpa using u1)]
         by_cases u2:p.Uses[k].From ≥ perU p.Periods p.Uses[k]
         ·rw [if_pos (by simpa using u2)];rfl
         ·rw [if_neg (by simpa using u2)]
          by_cases u3:p.Uses[k].Long<1
          ·rw [if_pos (by simpa using u3)];rfl
          ·rw [if_neg (by simpa using u3),Option.bind_some,if_pos (by simp;omega)]
      ·have hu:¬ useB p.Periods p.Uses[k]=true:=fun q=>hc (by obtain ⟨a,b,c,d,_⟩:=Zdr.1 q;exact ⟨a,b,c,d⟩)
       rw [if_pos (by simp;omega),if_neg hu]
   ·simp only [Zbt]
    rw [if_pos (by simpa using hk),ZjE hk]
    simp only [Option.bind_some]
    rw [Zfc (by omega)]
    by_cases c1:p.Periods[k]<1
    ·rw [if_pos (by simpa using c1)]
     simp only [Option.bind_some,if_true]
     rw [if_neg (by simp [perB];omega)]
    ·rw [if_neg (by simpa using c1),Option.bind_some]
     by_cases c2:p.Periods[k] > 240
     ·rw [if_pos (by simpa using c2),if_neg (by simp [perB];omega)]
     ·rw [if_neg (by simpa using c2),if_pos (by simp [perB];omega)]
  ·rw [if_pos (by simp;omega)];simp [h2]
 ·rw [if_pos (by simp;omega)];simp [h1]
theorem Zen {N:Nat} (hN:2000≤N) (p:Ze):Za5 N p=some (if ZeT p=true then 0 else 340):=by
 unfold Za5 ZeT
 by_cases h1:p.Periods.length≤12
 ·by_cases h2:p.Uses.length≤192
  ·rw [if_neg (by simp;omega)]
   simp only [h1,h2,decide_true,Bool.true_and]
   rw [Zfl (l:=p.Periods) (p:=perB) (bad:=.inr 340) (fin:=.inl ()) (fun k hk => ?_) (by simp [ZbT]) (by omega)]
   ·cases hP:p.Periods.all perB with
    | false=>simp
    | true =>
     simp only [if_true,Option.bind_some,Bool.true_and]
     rw [ZeV hN h1 hP,Option.bind_some]
     by_cases hc:lcmL p.Periods≤960
     ·rw [if_pos hc]
      simp only [bne_self_eq_false,Bool.false_eq_true,if_false]
      rw [Zfl (l:=p.Uses) (p:=useB p.Periods) (bad:=.inr 340) (fin:=.inl ()) (fun k hk => ?_) (by simp [ZbS]) (by omega)]
      ·cases hU:p.Uses.all (useB p.Periods) with
       | false=>simp
       | true=>simp [hc]
      ·simp only [ZbS]
       rw [if_pos (by simpa using hk),ZjE hk,Option.bind_some]
       have hw:w64 ((k:Int)+1)=((k+1:Nat):Int):=Zfc (by omega)
       rw [hw]
       by_cases hc:0≤p.Uses[k].Stream∧p.Uses[k].Stream<(p.Periods.length:Int)∧0≤p.Uses[k].Port∧p.Uses[k].Port<48
       ·obtain ⟨c1,c2,c3,c4⟩:=hc
        rw [if_neg (by simp;omega),Zia c1 c2]
        simp only [Option.bind_some]
        by_cases hu:useB p.Periods p.Uses[k]=true
        ·obtain ⟨_,_,_,_,u1,u2,u3,u4⟩:=Zdr.1 hu
         rw [if_neg (by simp;omega),if_pos hu]
        ·have hn:¬ (0≤p.Uses[k].From∧p.Uses[k].From<perU p.Periods p.Uses[k]∧1≤p.Uses[k].Long∧p.Uses[k].Long≤perU p.Periods p.Uses[k]):=fun q=>hu (Zdr.2 ⟨c1,c2,c3,c4,q⟩)
         rw [if_neg hu,if_pos (by simp;omega)]
       ·have hu:¬ useB p.Periods p.Uses[k]=true:=fun q=>hc (by obtain ⟨a,b,c,d,_⟩:=Zdr.1 q;exact ⟨a,b,c,d⟩)
        rw [if_pos (by simp;omega),if_neg hu]
     ·rw [if_neg hc];simp [hc]
   ·simp only [ZbT]
    rw [if_pos (by simpa using hk),ZjE hk]
    simp only [Option.bind_some]
    rw [Zfc (by omega)]
    by_cases c:perB p.Periods[k]=true
    ·have:=Zf2.1 c
     rw [if_neg (by simp;omega),if_pos c]
    ·rw [if_pos,if_neg c]
     simp [perB] at c ⊢;omega
  ·rw [if_pos (by simp;omega)];simp [h2]
 ·rw [if_pos (by simp;omega)];simp [h1]
theorem Zf1 {p:Ze}:ZeT p=true↔p.Periods.length≤12∧p.Uses.length≤192∧p.Periods.all perB=true∧p.Uses.all (useB p.Periods)=true∧lcmL p.Periods≤960:=by
 unfold ZeT
 simp only [Bool.and_eq_true,decide_eq_true_eq]
 constructor
 ·rintro ⟨⟨⟨⟨a,b⟩,c⟩,d⟩,e⟩;exact ⟨a,b,c,d,e⟩
 ·rintro ⟨a,b,c,d,e⟩;exact ⟨⟨⟨⟨a,b⟩,c⟩,d⟩,e⟩
theorem ZiC {N:Nat} (hN:2000≤N) (p:Ze):Zcc N p=some (if ZeT p=true then 0 else 340):=by
 unfold Zcc
 rw [ZdR hN,Option.bind_some]
 cases ZeT p<;>rfl
theorem Zjr {N:Nat} (hN:2000≤N) (p:Ze):ZbR N p=some (if ZeT p=true then ((lcmL p.Periods:Int),0) else (0,340)):=by
 unfold ZbR
 rw [Zen hN,Option.bind_some]
 cases h:ZeT p with
 | false=>rfl
 | true =>
  obtain ⟨h1,h2,h3,h4,h5⟩:=Zf1.1 h
  simp only [if_true,bne_self_eq_false,Bool.false_eq_true,if_false]
  rw [ZeV hN h1 h3,Option.bind_some,if_pos h5]
theorem ZiB {N:Nat} (hN:2000≤N) (p:Ze):Zcb N p=some (if ZeT p=true then ((lcmL p.Periods:Int),0) else (0,340)):=by
 unfold Zcb
 rw [ZdR hN,Option.bind_some]
 cases h:ZeT p with
 | false=>rfl
 | true =>
  obtain ⟨h1,h2,h3,h4,h5⟩:=Zf1.1 h
  simp only [Bool.not_true,Bool.false_eq_true,if_false,if_true]
  rw [ZgW hN h1 h3,Option.bind_some,if_pos h5]
end Go.Sh

set_option linter.unusedVariables false
set_option linter.unusedSimpArgs false
namespace Go.Sh
open Go Go.Eng
structure VP (p:Ze):Prop where
 len:p.Periods.length≤12
 uses:p.Uses.length≤192
 per:∀ q ∈ p.Periods,1≤q∧q≤240
 use:∀ u ∈ p.Uses,0≤u.Stream∧u.Stream<(p.Periods.length:Int)∧0≤u.Port∧u.Port<48∧0≤u.From∧u.From<perU p.Periods u∧1≤u.Long∧u.Long≤perU p.Periods u
 lcm:lcmL p.Periods≤960
 lpos:0<lcmL p.Periods
theorem VP.of {p:Ze} (h:ZeT p=true):VP p:=by
 obtain ⟨h1,h2,h3,h4,h5⟩:=Zf1.1 h
 exact ⟨h1,h2,fun q hq=>Zf2.1 (List.all_eq_true.1 h3 q hq),fun u hu=>Zdr.1 (List.all_eq_true.1 h4 u hu),h5,ZjB h3⟩
theorem perU_in {P:List Int} {u:Zz} (h0:0≤u.Stream) (h1:u.Stream<(P.length:Int)):perU P u ∈ P:=by
 unfold perU
 rw [ZiR (by omega)]
 exact List.getElem_mem _
theorem VP.peru {p:Ze} (h:VP p) {u:Zz} (hu:u ∈ p.Uses):1≤perU p.Periods u∧perU p.Periods u≤240:=by
 obtain ⟨a,b,_⟩:=h.use u hu
 exact h.per _ (perU_in a b)
def spanU (p:Ze) (u:Zz) (x:Int):Zt:=⟨perU p.Periods u,(u.From+x) % perU p.Periods u,u.Long⟩
def u0:Zz:=⟨0,0,0,0⟩
theorem VP.rem {p:Ze} (h:VP p) {u:Zz} (hu:u ∈ p.Uses) {x:Int} (h0:0≤x) (h1:x≤1000000):remI (w64 (u.From+x)) (perU p.Periods u)=some ((u.From+x) % perU p.Periods u):=by
 obtain ⟨_,_,_,_,h5,h6,h7,h8⟩:=h.use u hu
 obtain ⟨h3,h4⟩:=h.peru hu
 rw [Zcf (by omega) (by omega),Zdd (by omega),Int.tmod_eq_emod_of_nonneg (by omega)]
theorem Zhn (N:Nat) {p:Ze} (h:VP p) {u:Zz} (hu:u ∈ p.Uses) {x:Int} (h0:0≤x) (h1:x≤1000000):Zbh N p u x=some (spanU p u x):=by
 obtain ⟨a,b,_⟩:=h.use u hu
 unfold Zbh
 rw [Zia a b,Option.bind_some,h.rem hu h0 h1,Option.bind_some]
 rfl
theorem ZkL (N:Nat) {p:Ze} (h:VP p) {k:Nat} (hk:k<p.Uses.length) {x:Int} (h0:0≤x) (h1:x≤1000000):Zf0 N p k x=some (spanU p (p.Uses.getD k u0) x):=by
 have hu:p.Uses[k] ∈ p.Uses:=List.getElem_mem hk
 obtain ⟨a,b,_⟩:=h.use _ hu
 unfold Zf0
 rw [ZjE hk]
 simp only [Option.bind_some]
 rw [Zia a b,Option.bind_some,h.rem hu h0 h1,Option.bind_some,ZiR hk]
 rfl
def offB (p:Ze) (i x:Int):Bool:=decide (0≤i∧i<(p.Periods.length:Int)∧0≤x∧x<p.Periods.getD i.toNat 0)
theorem Zjx {p:Ze} {i x:Int}:offB p i x=true↔0≤i∧i<(p.Periods.length:Int)∧0≤x∧x<p.Periods.getD i.toNat 0:=by simp [offB]
theorem ZiD (N:Nat) {p:Ze} {i x:Int} (h0:0≤i) (h1:i<(p.Periods.length:Int)):ZbG N p i x=some (offB p i x):=by
 unfold ZbG
 by_cases hx:x ≥ 0
 ·rw [if_pos (by simpa using hx),Zlh 0 h0 h1]
  simp only [Option.bind_some]
  congr 1
  rw [Bool.eq_iff_iff,Zjx]
  simp
  omega
 ·rw [if_neg (by simpa using hx),Option.bind_some]
  congr 1
  symm
  rw [Bool.eq_false_iff]
  intro q
  have:=Zjx.1 q
  omega
def span0:Zt:=⟨0,0,0⟩
def ZmH (p:Ze) (k x:Int):Zt × Int :=
 if ZeT p=true then (if (0≤k∧k<(p.Uses.length:Int))∧0≤x∧x<perU p.Periods (p.Uses.getD k.toNat u0) then (spanU p (p.Uses.getD k.toNat u0) x,0) else (span0,2)) else (span0,340)
theorem Zj9 {N:Nat} (hN:2000≤N) (p:Ze) (k x:Int):Za4 N p k x=some (ZmH p k x):=by
 unfold Za4 ZmH
 rw [Zen hN,Option.bind_some]
 cases hp:ZeT p with
 | false=>rfl
 | true =>
  have h:=VP.of hp
  simp only [if_true,bne_self_eq_false,Bool.false_eq_true,if_false]
  by_cases c1:k<0
  ·rw [if_pos (by simpa using c1),if_neg (by omega)];rfl
  ·rw [if_neg (by simpa using c1)]
   by_cases c2:k ≥ (p.Uses.length:Int)
   ·rw [if_pos (by simpa using c2),if_neg (by omega)];rfl
   ·rw [if_neg (by simpa using c2)]
    obtain ⟨n,rfl⟩:∃ n:Nat,k=n:=⟨k.toNat,by omega⟩
    have hk:n<p.Uses.length:=by omega
    obtain ⟨a,b,_⟩:=h.use _ (List.getElem_mem hk)
    rw [ZjE hk]
    simp only [Option.bind_some,Int.toNat_natCast]
    rw [ZiD N a b,Option.bind_some,Option.bind_some,ZiR hk]
    have e:offB p p.Uses[n].Stream x=true↔0≤x∧x<perU p.Periods p.Uses[n]:=by
     rw [Zjx]
     exact ⟨fun q=>q.2.2,fun q=>⟨a,b,q⟩⟩
    by_cases c3:0≤x∧x<perU p.Periods p.Uses[n]
    ·have:=h.peru (List.getElem_mem hk)
     rw [e.2 c3]
     simp only [Bool.not_true,Bool.false_eq_true,if_false]
     rw [if_pos ⟨by omega,c3⟩,Zhn N h (List.getElem_mem hk) c3.1 (by omega)]
     rfl
    ·have:offB p p.Uses[n].Stream x=false:=by rw [Bool.eq_false_iff];exact fun q=>c3 (e.1 q)
     rw [this]
     simp only [Bool.not_false,if_true]
     rw [if_neg fun q=>c3 q.2]
     rfl
theorem Zjn {N:Nat} (hN:2000≤N) (p:Ze) (k x:Int):ZaM N p k x=some (ZmH p k x):=by
 unfold ZaM ZmH
 rw [ZdR hN,Option.bind_some]
 cases hp:ZeT p with
 | false=>rfl
 | true =>
  have h:=VP.of hp
  simp only [Bool.not_true,if_true,Bool.false_eq_true,if_false]
  by_cases c1:k<0
  ·rw [if_pos (by simpa using c1),if_neg (by omega)];rfl
  ·rw [if_neg (by simpa using c1)]
   by_cases c2:k ≥ (p.Uses.length:Int)
   ·rw [if_pos (by simpa using c2),if_neg (by omega)];rfl
   ·rw [if_neg (by simpa using c2)]
    obtain ⟨n,rfl⟩:∃ n:Nat,k=n:=⟨k.toNat,by omega⟩
    have hk:n<p.Uses.length:=by omega
    obtain ⟨a,b,_⟩:=h.use _ (List.getElem_mem hk)
    rw [ZjE hk]
    simp only [Option.bind_some,Int.toNat_natCast]
    rw [Zia a b]
    simp only [Option.bind_some]
    rw [ZiR hk]
    by_cases c3:x<0
    ·rw [if_pos (by simpa using c3),if_neg (by omega)];rfl
    ·rw [if_neg (by simpa using c3),Option.bind_some]
     by_cases c4:x ≥ perU p.Periods p.Uses[n]
     ·rw [if_pos (by simpa using c4),if_neg (by omega)];rfl
     ·have:=h.peru (List.getElem_mem hk)
      rw [if_neg (by simpa using c4),if_pos (by omega),ZkL N h hk (by omega) (by omega),Option.bind_some,ZiR hk]
end Go.Sh

set_option linter.unusedVariables false
set_option linter.unusedSimpArgs false
namespace Go.Sh
open Go Go.Eng
def ZjU:List Int:=[4,6,8,12,3,5,10,24]
theorem Zjc:∀ x ∈ ZjU,3≤x∧x≤24∧x.toNat ∣ 120:=by decide
structure GP (p:Ze):Prop where
 prob:ZeT p=true
 len:p.Periods.length≤5
 uses:p.Uses.length≤12
 tab:∀ x ∈ p.Periods,x ∈ ZjU
 port:∀ u ∈ p.Uses,u.Port<4
theorem Zky {α:Type} {b:Nat} {l:List α} {x:α} (hl:l.length≤1000) (hb:b≤1000):appI b l [x]=some (l++[x]):=by
 refine ZgM ?_ (by omega)
 simp;omega
theorem Zez {N:Nat} (hN:2000≤N) {d:Zam} (hd:ZcH d):∃ p,Zat N d=some p∧GP p:=by
 obtain ⟨⟨_,d1⟩,⟨_,d2⟩⟩:=hd
 unfold Zat
 obtain ⟨P,hP,P1,P2⟩:=ZjD (body:=fun x:Int × (List Int)=>Zag N d x.1 x.2) (fun x=>0≤x.1∧x.1≤5∧(x.2.length:Int)=x.1∧∀ q ∈ x.2,q ∈ ZjU) (fun x=>(5 - x.1).toNat) (fun l=>l.length≤5∧∀ q ∈ l,q ∈ ZjU) (fun x hx=>by
  obtain ⟨i,l⟩:=x
  obtain ⟨i0,i1,i2,i3⟩:=hx
  simp only at i0 i1 i2 i3
  simp only [Zag]
  by_cases c:i<(d.Periods.length:Int)∧i<5
  ·left
   obtain ⟨k,rfl⟩:∃ k:Nat,i=k:=⟨i.toNat,by omega⟩
   have hk:k<d.Periods.length:=by omega
   have hb:0≤d.Periods[k]∧d.Periods[k]≤255:=(d1 _ (List.getElem_mem hk)).u8
   have hm0:=Int.emod_nonneg d.Periods[k] (show (8:Int) ≠ 0 by decide)
   have hm1:=Int.emod_lt_of_pos d.Periods[k] (show (0:Int)<8 by decide)
   have ht:(d.Periods[k] % 8).toNat<ZjU.length:=by simp [ZjU];omega
   refine ⟨(((k+1:Nat):Int),l++[ZjU[(d.Periods[k] % 8).toNat]]),?_,⟨by omega,by omega,by simp;omega,fun q hq => ?_⟩,by omega⟩
   ·rw [if_pos (by simp;omega),ZjE hk,Option.bind_some,Int.tmod_eq_emod_of_nonneg hb.1,show ([4,6,8,12,3,5,10,24]:List Int)=ZjU from rfl,Zib hm0 ht,Option.bind_some,Zky (by omega) (by omega),Option.bind_some,Zfc (by omega)]
   ·rcases List.mem_append.1 hq with q1 | q1
    ·exact i3 q q1
    ·simp only [List.mem_singleton] at q1
     subst q1
     exact List.getElem_mem ht
  ·right
   refine ⟨l,?_,by omega,i3⟩
   rw [if_neg (by simp;omega)]) N (0,[]) ⟨by omega,by omega,rfl,by simp⟩ (by simp;omega)
 rw [hP,Option.bind_some]
 have hper:P.all perB=true:=List.all_eq_true.2 fun q hq=>by
  have:=Zjc q (P2 q hq)
  exact Zf2.2 (by omega)
 obtain ⟨U,hU,U1,U2⟩:=ZjD (body:=fun x:Int × (List Zz)=>Zaf N d P x.1 x.2) (fun x=>0≤x.1∧x.1≤12∧(x.2.length:Int)=x.1∧∀ u ∈ x.2,useB P u=true∧u.Port<4) (fun x=>(12 - x.1).toNat) (fun l=>l.length≤12∧∀ u ∈ l,useB P u=true∧u.Port<4) (fun x hx=>by
  obtain ⟨i,l⟩:=x
  obtain ⟨i0,i1,i2,i3⟩:=hx
  simp only at i0 i1 i2 i3
  simp only [Zaf]
  by_cases c:i<(d.Uses.length:Int)∧i<12∧0<P.length
  ·left
   obtain ⟨c1,c2,c3⟩:=c
   obtain ⟨k,rfl⟩:∃ k:Nat,i=k:=⟨i.toNat,by omega⟩
   have hk:k<d.Uses.length:=by omega
   obtain ⟨b0,b1,b2,b3⟩:=d2 _ (List.getElem_mem hk)
   have b0:0≤d.Uses[k].x0∧d.Uses[k].x0≤255:=b0.u8
   have b1:0≤d.Uses[k].x1∧d.Uses[k].x1≤255:=b1.u8
   have b2:0≤d.Uses[k].x2∧d.Uses[k].x2≤255:=b2.u8
   have b3:0≤d.Uses[k].x3∧d.Uses[k].x3≤255:=b3.u8
   have s0:=Int.emod_nonneg d.Uses[k].x0 (show (P.length:Int) ≠ 0 by omega)
   have s1:=Int.emod_lt_of_pos d.Uses[k].x0 (show 0<(P.length:Int) by omega)
   have hn:(d.Uses[k].x0 % (P.length:Int)).toNat<P.length:=by omega
   obtain ⟨n,en⟩:∃ n,n=P[(d.Uses[k].x0 % (P.length:Int)).toNat]:=⟨_,rfl⟩
   have hn3:=Zjc n (P2 n (by rw [en];exact List.getElem_mem hn))
   have f0:=Int.emod_nonneg d.Uses[k].x2 (show n ≠ 0 by omega)
   have f1:=Int.emod_lt_of_pos d.Uses[k].x2 (show 0<n by omega)
   have g0:=Int.emod_nonneg d.Uses[k].x3 (show n ≠ 0 by omega)
   have g1:=Int.emod_lt_of_pos d.Uses[k].x3 (show 0<n by omega)
   have g2:=Int.emod_nonneg (d.Uses[k].x3 % n) (show (4:Int) ≠ 0 by decide)
   have g3:=Int.emod_lt_of_pos (d.Uses[k].x3 % n) (show (0:Int)<4 by decide)
   have g4:=Int.emod_nonneg (d.Uses[k].x3 % n % 4) (show n ≠ 0 by omega)
   have g5:=Int.emod_lt_of_pos (d.Uses[k].x3 % n % 4) (show 0<n by omega)
   have p0:=Int.emod_nonneg d.Uses[k].x1 (show (4:Int) ≠ 0 by decide)
   have p1:=Int.emod_lt_of_pos d.Uses[k].x1 (show (0:Int)<4 by decide)
   refine ⟨(((k+1:Nat):Int),l++[⟨d.Uses[k].x0 % P.length,d.Uses[k].x1 % 4,d.Uses[k].x2 % n,1+d.Uses[k].x3 % n % 4 % n⟩]),?_,⟨by omega,by omega,by simp;omega,fun u hu => ?_⟩,by omega⟩
   ·rw [if_pos (by simp;omega),if_pos (by simp;omega)]
    simp only [Option.bind_some]
    rw [if_pos (by simp;omega),ZjE hk,Option.bind_some,Zcf (by omega) (by omega),Zdd (by omega),Option.bind_some,Int.tmod_eq_emod_of_nonneg b0.1,Zib s0 hn,Option.bind_some,← en,
     Zcf (x:=d.Uses[k].x2) (by omega) (by omega),Zdd (by omega),Option.bind_some,Zcf (x:=d.Uses[k].x3) (by omega) (by omega),Zdd (by omega),Option.bind_some,Zdd (by omega),Option.bind_some,
     Int.tmod_eq_emod_of_nonneg b1.1,Int.tmod_eq_emod_of_nonneg b2.1,Int.tmod_eq_emod_of_nonneg b3.1,Int.tmod_eq_emod_of_nonneg g0,Int.tmod_eq_emod_of_nonneg g2,Zcf (x:=d.Uses[k].x1 % 4) (by omega) (by omega),Zcf (x:=1+_) (by omega) (by omega),Zky (by omega) (by omega),Option.bind_some,Zfc (by omega)]
   ·rcases List.mem_append.1 hu with q1 | q1
    ·exact i3 u q1
    ·simp only [List.mem_singleton] at q1
     subst q1
     refine ⟨Zdr.2 ?_,p1⟩
     unfold perU
     simp only
     rw [ZiR hn,← en]
     omega
  ·right
   refine ⟨l,?_,by omega,i3⟩
   by_cases c1:i<(d.Uses.length:Int)
   ·rw [if_pos (by simpa using c1)]
    by_cases c2:i<12
    ·rw [if_pos (by simpa using c2),Option.bind_some,if_neg (by rw [decide_eq_true_eq];omega)]
    ·rw [if_neg (by simpa using c2),Option.bind_some,if_neg (by simp)]
   ·rw [if_neg (by simpa using c1),Option.bind_some,if_neg (by simp)]) N (0,[]) ⟨by omega,by omega,rfl,by simp⟩ (by simp;omega)
 rw [hU,Option.bind_some]
 refine ⟨_,rfl,?_,P1,U1,P2,fun u hu=>(U2 u hu).2⟩
 rw [Zf1]
 refine ⟨by show P.length≤12;omega,by show U.length≤192;omega,hper,List.all_eq_true.2 fun u hu=>(U2 u hu).1,?_⟩
 have hdv:lcmL P ∣ 120:=Zg5.2 fun q hq=>(Zjc q (P2 q hq)).2.2
 have:=Nat.le_of_dvd (by decide) hdv
 show lcmL P≤960
 omega
theorem ZgF {N:Nat} (hN:2000≤N) {d:Zam} (hd:ZcH d) {odd:Ze} {at_:Int} (hat:InK .u8 at_):∃ p q r,Zb0 N d odd at_=some ⟨p,q,r⟩∧Zat N d=some p∧GP p:=by
 obtain ⟨p,hp,gp⟩:=Zez hN hd
 have hat:0≤at_∧at_≤255:=hat.u8
 have hlen:=gp.len
 have huses:=gp.uses
 have hs:∀ {α:Type} (l:List α) (m:Int),0≤m→∃ r,subI l 0 (if m<((List.length l:Nat):Int) then m else ((List.length l:Nat):Int))=some r:=by
  intro α l m hm
  unfold subI
  by_cases c:m<(l.length:Int)
  ·rw [if_pos c,if_pos (by omega)];exact ⟨_,rfl⟩
  ·rw [if_neg c,if_pos (by omega)];exact ⟨_,rfl⟩
 obtain ⟨l2,e2⟩:=hs odd.Periods 13 (by omega)
 obtain ⟨l3,e3⟩:=hs odd.Uses 200 (by omega)
 unfold Zb0
 rw [hp,Option.bind_some,e2,Option.bind_some,e3,Option.bind_some,ZgM (by simp;omega) (by omega),Option.bind_some,ZgM (by simp;omega) (by omega),Option.bind_some]
 simp only [List.nil_append]
 have rest:∃ j:List Int × List Zz,(((((if (decide (((List.length p.Uses:Nat):Int) > 0)) then (if (decide (((List.length l3:Nat):Int) > 0)) then (some ((Int.tmod at_ 2)==0)) else (some false)) else (some false))).bind fun (j519:Bool) =>
 (if j519 then ((remI (w64 (at_)) ((List.length p.Uses:Nat):Int)).bind fun m522 =>
 ((idx l3 0).bind fun e523 =>
 ((idx p.Uses m522).bind fun e524 =>
 (some (p.Periods,(List.set p.Uses (Int.toNat m522) e523)))))) else (((if (decide (((List.length p.Periods:Nat):Int) > 0)) then (some (decide (((List.length l2:Nat):Int) > 0))) else (some false))).bind fun (j531:Bool) =>
 (if j531 then ((remI (w64 (at_)) ((List.length p.Periods:Nat):Int)).bind fun m534 =>
 ((idx l2 0).bind fun e535 =>
 ((idx p.Periods m534).bind fun e536 =>
 (some ((List.set p.Periods (Int.toNat m534) e535),p.Uses))))) else (some (p.Periods,p.Uses))))))):Option (List Int × List Zz))=some j:=by
  have two:∃ j:List Int × List Zz,(((if (decide (((List.length p.Periods:Nat):Int) > 0)) then (some (decide (((List.length l2:Nat):Int) > 0))) else (some false))).bind fun (j531:Bool) =>
 (if j531 then ((remI (w64 (at_)) ((List.length p.Periods:Nat):Int)).bind fun m534 =>
 ((idx l2 0).bind fun e535 =>
 ((idx p.Periods m534).bind fun e536 =>
 (some ((List.set p.Periods (Int.toNat m534) e535),p.Uses))))) else (some (p.Periods,p.Uses))))=some j:=by
   by_cases c1:0<p.Periods.length∧0<l2.length
   ·obtain ⟨c1,c2⟩:=c1
    have m0:=Int.emod_nonneg at_ (show (p.Periods.length:Int) ≠ 0 by omega)
    have m1:=Int.emod_lt_of_pos at_ (show 0<(p.Periods.length:Int) by omega)
    rw [if_pos (by simp;omega),Option.bind_some,if_pos (by simp;omega),Zcf (by omega) (by omega),Zdd (by omega),Option.bind_some,Int.tmod_eq_emod_of_nonneg hat.1,Zib (by omega) (by simpa using c2),Option.bind_some,Zib m0 (by omega),Option.bind_some]
    exact ⟨_,rfl⟩
   ·by_cases c2:0<p.Periods.length
    ·rw [if_pos (by simp;omega),Option.bind_some,if_neg (by rw [decide_eq_true_eq];omega)];exact ⟨_,rfl⟩
    ·rw [if_neg (by rw [decide_eq_true_eq];omega),Option.bind_some,if_neg (by simp)];exact ⟨_,rfl⟩
  by_cases c1:0<p.Uses.length∧0<l3.length
  ·obtain ⟨c1,c2⟩:=c1
   rw [if_pos (by simp;omega),if_pos (by simp;omega),Option.bind_some]
   by_cases c3:(at_.tmod 2==0)=true
   ·have m0:=Int.emod_nonneg at_ (show (p.Uses.length:Int) ≠ 0 by omega)
    have m1:=Int.emod_lt_of_pos at_ (show 0<(p.Uses.length:Int) by omega)
    rw [if_pos c3,Zcf (by omega) (by omega),Zdd (by omega),Option.bind_some,Int.tmod_eq_emod_of_nonneg hat.1,Zib (by omega) (by simpa using c2),Option.bind_some,Zib m0 (by omega),Option.bind_some]
    exact ⟨_,rfl⟩
   ·rw [if_neg c3]
    exact two
  ·have:(if (decide (((List.length p.Uses:Nat):Int) > 0))=true then (if (decide (((List.length l3:Nat):Int) > 0))=true then (some ((Int.tmod at_ 2)==0)) else (some false)) else (some false))=some false:=by
    by_cases c2:0<p.Uses.length
    ·rw [if_pos (by simp;omega),if_neg (by rw [decide_eq_true_eq];omega)]
    ·rw [if_neg (by rw [decide_eq_true_eq];omega)]
   rw [this,Option.bind_some,if_neg (by simp)]
   exact two
 obtain ⟨j,hj⟩:=rest
 rw [hj,Option.bind_some]
 exact ⟨p,_,_,rfl,rfl,gp⟩
set_option maxRecDepth 100000 in
theorem Zlr (n:Nat):Zdn (n+300)=some true:=by kernel_rfl
theorem works24 {N:Nat} (hN:2000≤N):Zdn N=some true:=by
 obtain ⟨n,rfl⟩:∃ n,N=n+300:=⟨N - 300,by omega⟩
 exact Zlr n
theorem planChecks_true (d:Zam) (odd:Ze) (at_ k x:Int) (hd:ZcH d) (hodd:ZfD odd) (hat:InK .u8 at_) (hk:InK .i64 k) (hx:InK .i64 x):∃ N,Zb7 N d odd at_ k x=some true:=by
 refine ⟨2000,?_⟩
 have hN:2000≤2000:=Nat.le_refl _
 obtain ⟨p,q,r,h1,h2,_⟩:=ZgF hN hd (odd:=odd) hat
 unfold Zb7
 rw [h1,Option.bind_some]
 simp only [Zjr hN,ZiB hN,Zen hN,ZiC hN,Zj9 hN,Zjn hN,works24 hN,Option.bind_some,bne_self_eq_false,beq_self_eq_true,Bool.and_self,Bool.not_true,Bool.or_self,Bool.false_eq_true,if_false]
end Go.Sh

