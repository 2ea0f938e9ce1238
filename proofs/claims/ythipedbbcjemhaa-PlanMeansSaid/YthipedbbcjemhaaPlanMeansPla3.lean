/- Part of the proof; written by a program out of the texts in wip/. -/
import Derived.Test.YthipedbbcjemhaaPlanMeansTop1
set_option linter.unusedVariables false
set_option linter.unusedSimpArgs false
namespace Go.Sh
open Go Go.Eng
theorem Zmx {n:Nat} {q:Nat→Nat→Bool}:(allB n fun k=>allB n fun m=>q k m)=allB n fun m=>allB n fun k=>q k m:=by
 rw [Bool.eq_iff_iff]
 simp only [Zdy]
 exact ⟨fun h m hm k hk=>h k hk m hm,fun h k hk m hm=>h m hm k hk⟩
theorem Zmp {p:Ze} (h:VP p) {i a j b:Int} {k m:Nat} (hk:k<p.Uses.length) (hm:m<p.Uses.length):hitB p i a j b k m=hitB p j b i a m k:=by
 have e:=ZmQ (h.vspan (List.getElem_mem hk) a) (h.vspan (List.getElem_mem hm) b)
 unfold hitB
 rw [ZbC hk,ZbC hm,Bool.eq_iff_iff]
 simp only [Bool.and_eq_true,decide_eq_true_eq,beq_iff_eq,Bool.not_eq_true',decide_eq_false_iff_not]
 rw [e]
 constructor
 ·rintro ⟨a,b,c,d,e⟩;exact ⟨fun q=>a q.symm,c,b,d.symm,e⟩
 ·rintro ⟨a,b,c,d,e⟩;exact ⟨fun q=>a q.symm,c,b,d.symm,e⟩
theorem ZiH {p:Ze} (h:VP p) (i a j b:Int):ZfH p i a j b=ZfH p j b i a:=by
 unfold ZfH
 rw [Zmx]
 congr 1
 exact ZiU fun k hk=>ZiU fun m hm=>by rw [Zmp h hm hk]
def Zjr (p:Ze) (l:List Int):Bool:=decide (l.length=p.Periods.length)&&allB l.length fun k=>offB p k (l.getD k 0)
def Zjb (p:Ze) (l:List Int):Bool:=allB l.length fun i=>allB (i+1) fun j => !(ZfH p i (l.getD i 0) j (l.getD j 0))
def fitsS (p:Ze) (l:List Int):Bool × Int:=if Ziu p=true then (if Zjr p l=true then (Zjb p l,0) else (false,2)) else (false,340)
theorem Zle {p:Ze} {l:List Int} (h:Zjr p l=true):l.length=p.Periods.length∧∀ k,k<l.length→offB p k (l.getD k 0)=true:=by
 unfold Zjr at h
 rw [Bool.and_eq_true,decide_eq_true_eq,Zdy] at h
 exact h
theorem Zj6 {N:Nat} (hN:2000≤N) (p:Ze) (l:List Int):ZdV N p l=some (fitsS p l):=by
 unfold ZdV fitsS
 rw [ZfU hN,Option.bind_some]
 cases hp:Ziu p with
 | false=>rfl
 | true =>
  have h:=VP.of hp
  have hl:=h.len
  simp only [if_true,bne_self_eq_false,Bool.false_eq_true,if_false]
  by_cases hc:l.length=p.Periods.length
  ·rw [if_neg (by simp [hc])]
   rw [ZgA (n:=l.length) (p:=fun k=>offB p k (l.getD k 0)) (bad:=.inr (false,2)) (fin:=.inl ()) (fun k hk => ?_) (by simp [Zb9]) (by omega)]
   ·have e:Zjr p l=allB l.length fun k=>offB p k (l.getD k 0):=by unfold Zjr;simp [hc]
    cases ho:allB l.length fun k=>offB p k (l.getD k 0) with
    | false=>rw [e,ho];rfl
    | true =>
     rw [e,ho]
     simp only [if_true,Option.bind_some]
     rw [ho] at e
     obtain ⟨h1,h2⟩:=Zle e
     unfold Zjb
     rw [ZgA (n:=l.length) (p:=fun i=>allB (i+1) fun j => !(ZfH p i (l.getD i 0) j (l.getD j 0))) (bad:=.inr (false,0)) (fin:=.inl ()) (fun i hi => ?_) (by simp [Zb8]) (by omega)]
     ·cases allB l.length fun i=>allB (i+1) fun j => !(ZfH p i (l.getD i 0) j (l.getD j 0))<;>rfl
     ·simp only [Zb8]
      have hw:w64 ((i:Int)+1)=((i+1:Nat):Int):=ZaS (by omega)
      have hs:subI l 0 ((i+1:Nat):Int)=some (l.take (i+1)):=by
       unfold subI
       rw [if_pos (by omega)]
       simp
      have hlt:(l.take (i+1)).length=i+1:=by simp;omega
      rw [if_pos (by simpa using hi),ZgC hi,Option.bind_some,hw,hs,Option.bind_some,ZgA (n:=i+1) (p:=fun j => !(ZfH p i (l.getD i 0) j (l.getD j 0))) (bad:=.inr (false,0)) (fin:=.inl ()) (fun j hj => ?_) (by simp [Zb7,hlt]) (by omega)]
      ·cases allB (i+1) fun j => !(ZfH p i (l.getD i 0) j (l.getD j 0))<;>rfl
      ·simp only [Zb7]
       have hj':j<l.length:=by omega
       have hw:w64 ((j:Int)+1)=((j+1:Nat):Int):=ZaS (by omega)
       have b1:=Zmh h (h2 i hi)
       have b2:=Zmh h (h2 j hj')
       rw [ZbC hi] at b1
       rw [ZbC hj'] at b2
       have ei:idx (l.take (i+1)) (j:Int)=some l[j]:=by
        rw [ZgC (by omega),List.getElem_take]
       rw [if_pos (by simp [hlt];omega),ei,Option.bind_some,Zhg hN h b2.1 (by omega) b1.1 (by omega) (fun q=>by
        have:j=i:=by omega
        subst this;rfl),Option.bind_some,hw,ZbC hi,ZbC hj',ZiH h]
       cases ZfH p i l[i] j l[j]<;>rfl
   ·simp only [Zb9]
    have hw:w64 ((k:Int)+1)=((k+1:Nat):Int):=ZaS (by omega)
    rw [if_pos (by simpa using hk),ZgC hk,Option.bind_some,Ziv N (by omega) (by omega),Option.bind_some,hw,ZbC hk]
    cases offB p k l[k]<;>rfl
  ·rw [if_pos (by simp;omega)]
   have:Zjr p l=false:=by unfold Zjr;simp [hc]
   rw [this];rfl
def ZjM:List Int:=[4,6,8,12,3,5,10,24]
theorem Zi4:∀ x ∈ ZjM,3≤x∧x≤24∧x.toNat ∣ 120:=by decide
structure GP (p:Ze):Prop where
 prob:Ziu p=true
 len:p.Periods.length≤5
 uses:p.Uses.length≤12
 tab:∀ x ∈ p.Periods,x ∈ ZjM
 port:∀ u ∈ p.Uses,u.Port<4
theorem Zii {α:Type} {b:Nat} {l:List α} {x:α} (hl:l.length≤1000) (hb:b≤1000):appI b l [x]=some (l++[x]):=by
 refine ZlV ?_ (by omega)
 simp;omega
theorem Zer {N:Nat} (hN:2000≤N) {d:ZaO} (hd:ZdM d):∃ p,ZaN N d=some p∧GP p:=by
 obtain ⟨⟨_,d1⟩,⟨_,d2⟩⟩:=hd
 unfold ZaN
 obtain ⟨P,hP,P1,P2⟩:=Zee (body:=fun x:Int × (List Int)=>Zaf N d x.1 x.2) (fun x=>0≤x.1∧x.1≤5∧(x.2.length:Int)=x.1∧∀ q ∈ x.2,q ∈ ZjM) (fun x=>(5 - x.1).toNat) (fun l=>l.length≤5∧∀ q ∈ l,q ∈ ZjM) (fun x hx=>by
  obtain ⟨i,l⟩:=x
  obtain ⟨i0,i1,i2,i3⟩:=hx
  simp only at i0 i1 i2 i3
  simp only [Zaf]
  by_cases c:i<(d.Periods.length:Int)∧i<5
  ·left
   obtain ⟨k,rfl⟩:∃ k:Nat,i=k:=⟨i.toNat,by omega⟩
   have hk:k<d.Periods.length:=by omega
   have hb:0≤d.Periods[k]∧d.Periods[k]≤255:=(d1 _ (List.getElem_mem hk)).u8
   have hm0:=Int.emod_nonneg d.Periods[k] (show (8:Int) ≠ 0 by decide)
   have hm1:=Int.emod_lt_of_pos d.Periods[k] (show (0:Int)<8 by decide)
   have ht:(d.Periods[k] % 8).toNat<ZjM.length:=by simp [ZjM];omega
   refine ⟨(((k+1:Nat):Int),l++[ZjM[(d.Periods[k] % 8).toNat]]),?_,⟨by omega,by omega,by simp;omega,fun q hq => ?_⟩,by omega⟩
   ·rw [if_pos (by simp;omega),ZgC hk,Option.bind_some,Int.tmod_eq_emod_of_nonneg hb.1,show ([4,6,8,12,3,5,10,24]:List Int)=ZjM from rfl,Zmo hm0 ht,Option.bind_some,Zii (by omega) (by omega),Option.bind_some,ZaS (by omega)]
   ·rcases List.mem_append.1 hq with q1 | q1
    ·exact i3 q q1
    ·simp only [List.mem_singleton] at q1
     subst q1
     exact List.getElem_mem ht
  ·right
   refine ⟨l,?_,by omega,i3⟩
   rw [if_neg (by simp;omega)]) N (0,[]) ⟨by omega,by omega,rfl,by simp⟩ (by simp;omega)
 rw [hP,Option.bind_some]
 have hper:P.all perB=true:=List.all_eq_true.2 fun q hq=>by
  have:=Zi4 q (P2 q hq)
  exact Zhj.2 (by omega)
 obtain ⟨U,hU,U1,U2⟩:=Zee (body:=fun x:Int × (List Zy)=>Zae N d P x.1 x.2) (fun x=>0≤x.1∧x.1≤12∧(x.2.length:Int)=x.1∧∀ u ∈ x.2,useB P u=true∧u.Port<4) (fun x=>(12 - x.1).toNat) (fun l=>l.length≤12∧∀ u ∈ l,useB P u=true∧u.Port<4) (fun x hx=>by
  obtain ⟨i,l⟩:=x
  obtain ⟨i0,i1,i2,i3⟩:=hx
  simp only at i0 i1 i2 i3
  simp only [Zae]
  by_cases c:i<(d.Uses.length:Int)∧i<12∧0<P.length
  ·left
   obtain ⟨c1,c2,c3⟩:=c
   obtain ⟨k,rfl⟩:∃ k:Nat,i=k:=⟨i.toNat,by omega⟩
   have hk:k<d.Uses.length:=by omega
   obtain ⟨b0,b1,b2,b3⟩:=d2 _ (List.getElem_mem hk)
   have b0:0≤d.Uses[k].x0∧d.Uses[k].x0≤255:=b0.u8
   have b1:0≤d.Uses[k].x1∧d.Uses[k].x1≤255:=b1.u8
   have b2:0≤d.Uses[k].x2∧d.Uses[k].x2≤255:=b2.u8
   have b3:0≤d.Uses[k].x3∧d.Uses[k].x3≤255:=b3.u8
   have s0:=Int.emod_nonneg d.Uses[k].x0 (show (P.length:Int) ≠ 0 by omega)
   have s1:=Int.emod_lt_of_pos d.Uses[k].x0 (show 0<(P.length:Int) by omega)
   have hn:(d.Uses[k].x0 % (P.length:Int)).toNat<P.length:=by omega
   obtain ⟨n,en⟩:∃ n,n=P[(d.Uses[k].x0 % (P.length:Int)).toNat]:=⟨_,rfl⟩
   have hn3:=Zi4 n (P2 n (by rw [en];exact List.getElem_mem hn))
   have f0:=Int.emod_nonneg d.Uses[k].x2 (show n ≠ 0 by omega)
   have f1:=Int.emod_lt_of_pos d.Uses[k].x2 (show 0<n by omega)
   have g0:=Int.emod_nonneg d.Uses[k].x3 (show n ≠ 0 by omega)
   have g1:=Int.emod_lt_of_pos d.Uses[k].x3 (show 0<n by omega)
   have g2:=Int.emod_nonneg (d.Uses[k].x3 % n) (show (4:Int) ≠ 0 by decide)
   have g3:=Int.emod_lt_of_pos (d.Uses[k].x3 % n) (show (0:Int)<4 by decide)
   have g4:=Int.emod_nonneg (d.Uses[k].x3 % n % 4) (show n ≠ 0 by omega)
   have g5:=Int.emod_lt_of_pos (d.Uses[k].x3 % n % 4) (show 0<n by omega)
   have p0:=Int.emod_nonneg d.Uses[k].x1 (show (4:Int) ≠ 0 by decide)
   have p1:=Int.emod_lt_of_pos d.Uses[k].x1 (show (0:Int)<4 by decide)
   refine ⟨(((k+1:Nat):Int),l++[⟨d.Uses[k].x0 % P.length,d.Uses[k].x1 % 4,d.Uses[k].x2 % n,1+d.Uses[k].x3 % n % 4 % n⟩]),?_,⟨by omega,by omega,by simp;omega,fun u hu => ?_⟩,by omega⟩
   ·rw [if_pos (by simp;omega),if_pos (by simp;omega)]
    simp only [Option.bind_some]
    rw [if_pos (by simp;omega),ZgC hk,Option.bind_some,ZbR (by omega) (by omega),Zci (by omega),Option.bind_some,Int.tmod_eq_emod_of_nonneg b0.1,Zmo s0 hn,Option.bind_some,← en,
     ZbR (x:=d.Uses[k].x2) (by omega) (by omega),Zci (by omega),Option.bind_some,ZbR (x:=d.Uses[k].x3) (by omega) (by omega),Zci (by omega),Option.bind_some,Zci (by omega),Option.bind_some,
     Int.tmod_eq_emod_of_nonneg b1.1,Int.tmod_eq_emod_of_nonneg b2.1,Int.tmod_eq_emod_of_nonneg b3.1,Int.tmod_eq_emod_of_nonneg g0,Int.tmod_eq_emod_of_nonneg g2,ZbR (x:=d.Uses[k].x1 % 4) (by omega) (by omega),ZbR (x:=1+_) (by omega) (by omega),Zii (by omega) (by omega),Option.bind_some,ZaS (by omega)]
   ·rcases List.mem_append.1 hu with q1 | q1
    ·exact i3 u q1
    ·simp only [List.mem_singleton] at q1
     subst q1
     refine ⟨ZfP.2 ?_,p1⟩
     unfold perU
     simp only
     rw [ZbC hn,← en]
     omega
  ·right
   refine ⟨l,?_,by omega,i3⟩
   by_cases c1:i<(d.Uses.length:Int)
   ·rw [if_pos (by simpa using c1)]
    by_cases c2:i<12
    ·rw [if_pos (by simpa using c2),Option.bind_some,if_neg (by rw [decide_eq_true_eq];omega)]
    ·rw [if_neg (by simpa using c2),Option.bind_some,if_neg (by simp)]
   ·rw [if_neg (by simpa using c1),Option.bind_some,if_neg (by simp)]) N (0,[]) ⟨by omega,by omega,rfl,by simp⟩ (by simp;omega)
 rw [hU,Option.bind_some]
 refine ⟨_,rfl,?_,P1,U1,P2,fun u hu=>(U2 u hu).2⟩
 rw [ZhM]
 refine ⟨by show P.length≤12;omega,by show U.length≤192;omega,hper,List.all_eq_true.2 fun u hu=>(U2 u hu).1,?_⟩
 have hdv:lcmL P ∣ 120:=ZeR.2 fun q hq=>(Zi4 q (P2 q hq)).2.2
 have:=Nat.le_of_dvd (by decide) hdv
 show lcmL P≤960
 omega
theorem Zji {N:Nat} (hN:2000≤N) {p:Ze} (h:VP p) {a:List Int} (ha:∀ x ∈ a,InK .u8 x):∃ l,ZdT N p a=some l∧Zjr p l=true:=by
 have hlen:=h.len
 unfold ZdT
 obtain ⟨l,hl,l1,l2⟩:=Zee (body:=fun x:Int × (List Int)=>ZbI N p a x.1 x.2) (fun x=>0≤x.1∧x.1≤p.Periods.length∧(x.2.length:Int)=x.1∧∀ k,k<x.2.length→offB p k (x.2.getD k 0)=true) (fun x=>(p.Periods.length - x.1).toNat) (fun l=>l.length=p.Periods.length∧∀ k,k<l.length→offB p k (l.getD k 0)=true) (fun x hx=>by
  obtain ⟨i,l⟩:=x
  obtain ⟨i0,i1,i2,i3⟩:=hx
  simp only at i0 i1 i2 i3
  simp only [ZbI]
  by_cases c:i<(p.Periods.length:Int)
  ·left
   obtain ⟨k,rfl⟩:∃ k:Nat,i=k:=⟨i.toNat,by omega⟩
   have hk:k<p.Periods.length:=by omega
   have hq:=h.per _ (List.getElem_mem hk)
   have key:∃ x,(if (decide ((k:Int)<((List.length a:Nat):Int))) then ((idx a k).bind fun e1010=>((idx p.Periods k).bind fun e1011=>((remI (w64 (e1010)) e1011).bind fun m1012=>(some m1012)))) else (some 0))=some x∧0≤x∧x<p.Periods[k]:=by
    by_cases c2:k<a.length
    ·have hb:0≤a[k]∧a[k]≤255:=(ha _ (List.getElem_mem c2)).u8
     refine ⟨a[k] % p.Periods[k],?_,Int.emod_nonneg _ (by omega),Int.emod_lt_of_pos _ (by omega)⟩
     rw [if_pos (by simpa using c2),ZgC c2,Option.bind_some,ZgC hk,Option.bind_some,ZbR (by omega) (by omega),Zci (by omega),Option.bind_some,Int.tmod_eq_emod_of_nonneg hb.1]
    ·exact ⟨0,by rw [if_neg (by simpa using c2)],by omega,by omega⟩
   obtain ⟨x,hx,x0,x1⟩:=key
   refine ⟨(((k+1:Nat):Int),l++[x]),?_,⟨by omega,by omega,by simp;omega,fun m hm => ?_⟩,by omega⟩
   ·rw [if_pos (by simpa using c),hx,Option.bind_some,Zii (by omega) (by omega),Option.bind_some,ZaS (by omega)]
   ·simp only [List.length_append,List.length_cons,List.length_nil] at hm
    by_cases e:m<l.length
    ·have:=i3 m e
     rw [ZbC e] at this
     rw [ZbC (by simp;omega),List.getElem_append_left e]
     exact this
    ·obtain rfl:m=k:=by omega
     rw [ZbC (by simp;omega),List.getElem_append_right (by omega)]
     simp only [show m - l.length=0 by omega,List.getElem_cons_zero]
     rw [ZfY]
     simp only [Int.toNat_natCast]
     rw [ZbC hk]
     omega
  ·right
   refine ⟨l,?_,by omega,i3⟩
   rw [if_neg (by simpa using c)]) N (0,[]) ⟨by omega,by simp,rfl,by simp⟩ (by simp;omega)
 rw [hl,Option.bind_some]
 refine ⟨l,rfl,?_⟩
 unfold Zjr
 rw [Bool.and_eq_true,decide_eq_true_eq,Zdy]
 exact ⟨l1,l2⟩
set_option maxRecDepth 100000 in
theorem Zlu (n:Nat):Zdj (n+300)=some true:=by kernel_rfl
theorem works24 {N:Nat} (hN:2000≤N):Zdj N=some true:=by
 obtain ⟨n,rfl⟩:∃ n,N=n+300:=⟨N - 300,by omega⟩
 exact Zlu n
end Go.Sh

set_option linter.unusedVariables false
set_option linter.unusedSimpArgs false
namespace Go.Sh
open Go Go.Eng
def Zkt (p:Ze) (l:List Int):Bool:=allB l.length fun i=>allB l.length fun j => !(ZfH p i (l.getD i 0) j (l.getD j 0))
theorem Zja {p:Ze} (h:VP p) (l:List Int):Zjb p l=Zkt p l:=by
 unfold Zjb Zkt
 rw [Bool.eq_iff_iff]
 simp only [Zdy]
 constructor
 ·intro q i hi j hj
  rcases Nat.le_total j i with c | c
  ·exact q i hi j (by omega)
  ·have:=q j hj i (by omega)
   rwa [ZiH h] at this
 ·intro q i hi j hj
  exact q i hi j (by omega)
end Go.Sh

set_option linter.unusedVariables false
set_option linter.unusedSimpArgs false
namespace Go.Sh
open Go Go.Eng
theorem Zic (n:Nat) (q:Nat→Bool):(List.range (n+1)).countP q=(List.range n).countP q+(if q n=true then 1 else 0):=by
 rw [List.range_succ,List.countP_append]
 simp [List.countP_cons]
theorem ZkM {n:Nat} {q:Nat→Bool}:0<(List.range n).countP q↔∃ k,k<n∧q k=true:=by
 rw [List.countP_pos_iff]
 simp
theorem two_iff {n:Nat} {q:Nat→Bool}:1<(List.range n).countP q↔∃ k m,k<n∧m<n∧k ≠ m∧q k=true∧q m=true:=by
 induction n with
 | zero=>simp
 | succ n ih =>
  rw [Zic]
  by_cases c:q n=true
  ·rw [if_pos c]
   constructor
   ·intro h
    obtain ⟨k,h1,h2⟩:=ZkM.1 (show 0<(List.range n).countP q by omega)
    exact ⟨k,n,by omega,by omega,by omega,h2,c⟩
   ·rintro ⟨k,m,h1,h2,h3,h4,h5⟩
    have:0<(List.range n).countP q:=by
     by_cases e:k=n
     ·exact ZkM.2 ⟨m,by omega,h5⟩
     ·exact ZkM.2 ⟨k,by omega,h4⟩
    omega
  ·rw [if_neg c,Nat.add_zero,ih]
   constructor
   ·rintro ⟨k,m,h1,h2,h3,h4,h5⟩
    exact ⟨k,m,by omega,by omega,h3,h4,h5⟩
   ·rintro ⟨k,m,h1,h2,h3,h4,h5⟩
    refine ⟨k,m,?_,?_,h3,h4,h5⟩
    ·by_cases e:k=n
     ·subst e;exact absurd h4 c
     ·omega
    ·by_cases e:m=n
     ·subst e;exact absurd h5 c
     ·omega
def covU (p:Ze) (l:List Int) (port t:Nat) (k:Nat):Bool :=
 decide ((p.Uses.getD k u0).Port=(port:Int))&&decide (((t:Int) - (ZaQ p (p.Uses.getD k u0) (l.getD (p.Uses.getD k u0).Stream.toNat 0)).From) % perU p.Periods (p.Uses.getD k u0)<(p.Uses.getD k u0).Long)
def cntU (p:Ze) (l:List Int) (port t:Nat) (n:Nat):Nat:=(List.range n).countP (covU p l port t)
def Zfk (p:Ze) (l:List Int) (port n:Nat):Bool:=(List.range n).any fun t=>decide (1<cntU p l port t p.Uses.length)
def Zfl (p:Ze) (l:List Int) (C n:Nat):Bool:=(List.range n).any fun port=>Zfk p l port C
theorem Zlo (n:Nat) (q:Nat→Bool):(List.range (n+1)).any q=((List.range n).any q||q n):=by
 rw [List.range_succ,List.any_append]
 simp
theorem Zkr {p:Ze} (h:VP p) {u:Zy} (hu:u ∈ p.Uses) (f:Int) (x:Nat) (C:Nat) (hC:lcmL p.Periods ∣ C):(((x % C:Nat):Int) - f) % perU p.Periods u=((x:Int) - f) % perU p.Periods u:=by
 obtain ⟨a,b,_⟩:=h.use u hu
 have hq:=h.peru hu
 have hd:(perU p.Periods u).toNat ∣ C:=ZeR.1 hC _ (Zmf a b)
 have hd':perU p.Periods u ∣ (C:Int):=by
  have:=Int.natCast_dvd_natCast.2 hd
  rwa [Int.toNat_of_nonneg (by omega)] at this
 rw [Int.sub_emod,Int.sub_emod (x:Int)]
 congr 2
 rw [Int.natCast_emod,Int.emod_emod_of_dvd _ hd']
theorem Zf4 {p:Ze} {l:List Int} {port t k:Nat} (hk:k<p.Uses.length):covU p l port t k=true↔(p.Uses[k]).Port=(port:Int)∧((t:Int) - (ZaQ p p.Uses[k] (l.getD p.Uses[k].Stream.toNat 0)).From) % (ZaQ p p.Uses[k] (l.getD p.Uses[k].Stream.toNat 0)).Period<(ZaQ p p.Uses[k] (l.getD p.Uses[k].Stream.toNat 0)).Long:=by
 unfold covU
 rw [ZbC hk]
 simp [ZaQ]
theorem Zl2 {p:Ze} (h:VP p) (hport:∀ u ∈ p.Uses,u.Port<4) {l:List Int} (hl:l.length=p.Periods.length):Zfl p l (lcmL p.Periods) 4 = !(Zkt p l):=by
 have key:Zfl p l (lcmL p.Periods) 4=true↔∃ k m,∃ (hk:k<p.Uses.length) (hm:m<p.Uses.length),k ≠ m∧p.Uses[k].Port=p.Uses[m].Port∧¬ SepD (ZaQ p p.Uses[k] (l.getD p.Uses[k].Stream.toNat 0)) (ZaQ p p.Uses[m] (l.getD p.Uses[m].Stream.toNat 0)) ((ZaQ p p.Uses[m] (l.getD p.Uses[m].Stream.toNat 0)).From - (ZaQ p p.Uses[k] (l.getD p.Uses[k].Stream.toNat 0)).From):=by
  unfold Zfl Zfk cntU
  simp only [List.any_eq_true,List.mem_range,decide_eq_true_eq,two_iff]
  constructor
  ·rintro ⟨port,hp,t,ht,k,m,hk,hm,hne,c1,c2⟩
   obtain ⟨p1,q1⟩:=(Zf4 hk).1 c1
   obtain ⟨p2,q2⟩:=(Zf4 hm).1 c2
   refine ⟨k,m,hk,hm,hne,by rw [p1,p2],fun hs => ?_⟩
   have v1:=h.vspan (List.getElem_mem hk) (l.getD p.Uses[k].Stream.toNat 0)
   have v2:=h.vspan (List.getElem_mem hm) (l.getD p.Uses[m].Stream.toNat 0)
   have b1:=v1.bounds
   have b2:=v2.bounds
   obtain ⟨a,ea⟩:∃ a,a=ZaQ p p.Uses[k] (l.getD p.Uses[k].Stream.toNat 0):=⟨_,rfl⟩
   obtain ⟨b,eb⟩:∃ b,b=ZaQ p p.Uses[m] (l.getD p.Uses[m].Stream.toNat 0):=⟨_,rfl⟩
   rw [← ea] at v1 b1 q1
   rw [← eb] at v2 b2 q2
   rw [← ea,← eb] at hs
   have hpos:0<a.Period * b.Period:=Int.mul_pos (by omega) (by omega)
   have n0:=Int.emod_nonneg (t:Int) (show a.Period * b.Period ≠ 0 by omega)
   have n1:=Int.emod_lt_of_pos (t:Int) hpos
   have e0:((((t:Int) % (a.Period * b.Period)).toNat:Nat):Int)=(t:Int) % (a.Period * b.Period):=Int.toNat_of_nonneg n0
   refine (Zky v1 v2).1 hs ((t:Int) % (a.Period * b.Period)).toNat (by rw [e0];exact n1) ⟨?_,?_⟩
   ·rw [e0,Int.sub_emod,Int.emod_emod_of_dvd _ (Int.dvd_mul_right _ _),← Int.sub_emod];exact q1
   ·rw [e0,Int.sub_emod,Int.emod_emod_of_dvd _ (Int.dvd_mul_left _ _),← Int.sub_emod];exact q2
  ·rintro ⟨k,m,hk,hm,hne,hpq,hs⟩
   have v1:=h.vspan (List.getElem_mem hk) (l.getD p.Uses[k].Stream.toNat 0)
   have v2:=h.vspan (List.getElem_mem hm) (l.getD p.Uses[m].Stream.toNat 0)
   have ex:∃ x:Nat,((x:Int) - (ZaQ p p.Uses[k] (l.getD p.Uses[k].Stream.toNat 0)).From) % (ZaQ p p.Uses[k] (l.getD p.Uses[k].Stream.toNat 0)).Period<(ZaQ p p.Uses[k] (l.getD p.Uses[k].Stream.toNat 0)).Long∧((x:Int) - (ZaQ p p.Uses[m] (l.getD p.Uses[m].Stream.toNat 0)).From) % (ZaQ p p.Uses[m] (l.getD p.Uses[m].Stream.toNat 0)).Period<(ZaQ p p.Uses[m] (l.getD p.Uses[m].Stream.toNat 0)).Long:=by
    apply Classical.byContradiction
    intro hno
    exact hs ((Zky v1 v2).2 fun x _ hx=>hno ⟨x,hx⟩)
   obtain ⟨x,x1,x2⟩:=ex
   obtain ⟨_,_,p1,_⟩:=h.use _ (List.getElem_mem hk)
   have p2:=hport _ (List.getElem_mem hk)
   have hlp:=h.lpos
   refine ⟨p.Uses[k].Port.toNat,by omega,x % lcmL p.Periods,Nat.mod_lt _ hlp,k,m,hk,hm,hne,(Zf4 hk).2 ⟨by omega,?_⟩,(Zf4 hm).2 ⟨by omega,?_⟩⟩
   ·have:=Zkr h (List.getElem_mem hk) (ZaQ p p.Uses[k] (l.getD p.Uses[k].Stream.toNat 0)).From x _ (Nat.dvd_refl _)
    show _ % perU p.Periods p.Uses[k]<_
    rw [this];exact x1
   ·have:=Zkr h (List.getElem_mem hm) (ZaQ p p.Uses[m] (l.getD p.Uses[m].Stream.toNat 0)).From x _ (Nat.dvd_refl _)
    show _ % perU p.Periods p.Uses[m]<_
    rw [this];exact x2
 have key2:(Zkt p l=false)↔∃ k m,∃ (hk:k<p.Uses.length) (hm:m<p.Uses.length),k ≠ m∧p.Uses[k].Port=p.Uses[m].Port∧¬ SepD (ZaQ p p.Uses[k] (l.getD p.Uses[k].Stream.toNat 0)) (ZaQ p p.Uses[m] (l.getD p.Uses[m].Stream.toNat 0)) ((ZaQ p p.Uses[m] (l.getD p.Uses[m].Stream.toNat 0)).From - (ZaQ p p.Uses[k] (l.getD p.Uses[k].Stream.toNat 0)).From):=by
  rw [← Bool.not_eq_true]
  unfold Zkt ZfH
  simp only [Zdy,Bool.not_not]
  constructor
  ·intro hno
   apply Classical.byContradiction
   intro hno2
   refine hno fun i hi j hj k hk m hm => ?_
   rw [Bool.not_eq_true']
   rw [Bool.eq_false_iff]
   intro hh
   unfold hitB at hh
   rw [ZbC hk,ZbC hm] at hh
   simp only [Bool.and_eq_true,decide_eq_true_eq,beq_iff_eq,Bool.not_eq_true',decide_eq_false_iff_not] at hh
   obtain ⟨h1,h2,h3,h4,h5⟩:=hh
   refine hno2 ⟨k,m,hk,hm,h1,h4,?_⟩
   rw [h2,h3]
   exact h5
  ·rintro ⟨k,m,hk,hm,hne,hpq,hs⟩ hall
   obtain ⟨a1,a2,_⟩:=h.use _ (List.getElem_mem hk)
   obtain ⟨b1,b2,_⟩:=h.use _ (List.getElem_mem hm)
   have:=hall p.Uses[k].Stream.toNat (by omega) p.Uses[m].Stream.toNat (by omega) k hk m hm
   unfold hitB at this
   rw [ZbC hk,ZbC hm,Int.toNat_of_nonneg a1,Int.toNat_of_nonneg b1] at this
   simp [hne,hpq] at this
   exact hs this
 rw [Bool.eq_iff_iff,key,← key2]
 simp
theorem planMeans_true (d:ZaO) (some_:List Int) (hd:ZdM d) (hs:some_.length≤maxLen∧∀ x ∈ some_,InK .u8 x):∃ N,Zcl N d some_=some true:=by
 refine ⟨2000,?_⟩
 have hN:2000≤2000:=Nat.le_refl _
 obtain ⟨p,hp,gp⟩:=Zer hN hd
 have h:=VP.of gp.prob
 obtain ⟨l,hl,ol⟩:=Zji hN h hs.2
 obtain ⟨h1,h2⟩:=Zle ol
 have hlen:=gp.len
 have huses:=gp.uses
 have hlp:=h.lpos
 have hlc:=h.lcm
 unfold Zcl
 rw [works24 hN,Option.bind_some]
 simp only [Bool.not_true,Bool.false_eq_true,if_false]
 rw [hp,Option.bind_some,hl,Option.bind_some,Zjm hN,Zj6 hN]
 unfold fitsS
 rw [if_pos gp.prob,if_pos gp.prob,if_pos ol,Option.bind_some,Option.bind_some]
 simp only
 rw [if_neg (by simp;omega)]
 have cnt:∀ port t:Nat,port<4→t<960→Zac (fun x:Int × Int=>Zam 2000 p l (port:Int) (t:Int) x.1 x.2) 2000 (0,0)=some ((cntU p l port t p.Uses.length:Nat):Int):=by
  intro port t hport ht
  obtain ⟨r,hr,er⟩:=Zee (body:=fun x:Int × Int=>Zam 2000 p l (port:Int) (t:Int) x.1 x.2) (fun x=>∃ k:Nat,x.2=k∧k≤p.Uses.length∧x.1=((cntU p l port t k:Nat):Int)) (fun x=>(p.Uses.length - x.2).toNat) (fun r=>r=((cntU p l port t p.Uses.length:Nat):Int)) (fun x hx=>by
   obtain ⟨c,i⟩:=x
   obtain ⟨k,k1,k2,k3⟩:=hx
   simp only at k1 k3
   subst k1 k3
   simp only [Zam]
   by_cases c:k<p.Uses.length
   ·left
    refine ⟨(((cntU p l port t (k+1):Nat):Int),((k+1:Nat):Int)),?_,⟨k+1,rfl,by omega,rfl⟩,by simp;omega⟩
    have hu:p.Uses[k] ∈ p.Uses:=List.getElem_mem c
    obtain ⟨a1,a2,_,_,a5,a6,a7,a8⟩:=h.use _ hu
    have hq:=h.peru hu
    have hcl:cntU p l port t k≤k:=by
     unfold cntU
     have:=List.countP_le_length (p:=covU p l port t) (l:=List.range k)
     simpa using this
    have hso:offB p p.Uses[k].Stream (l.getD p.Uses[k].Stream.toNat 0)=true:=by
     have:=h2 p.Uses[k].Stream.toNat (by omega)
     rwa [Int.toNat_of_nonneg a1] at this
    have hol:=Zmh h hso
    obtain ⟨_,_,o3,o4⟩:=ZfY.1 hso
    have e1:perU p.Periods p.Uses[k]=p.Periods.getD p.Uses[k].Stream.toNat 0:=rfl
    rw [if_pos (by simpa using c),ZgC c,Option.bind_some,ZkS a1 a2,Option.bind_some,Zjw 0 a1 (by omega)]
    have w1:w64 (2 * perU p.Periods p.Uses[k])=2 * perU p.Periods p.Uses[k]:=ZbR (by omega) (by omega)
    have w2:w64 ((t:Int)+2 * perU p.Periods p.Uses[k])=(t:Int)+2 * perU p.Periods p.Uses[k]:=ZbR (by omega) (by omega)
    have w3:w64 ((t:Int)+2 * perU p.Periods p.Uses[k] - p.Uses[k].From)=(t:Int)+2 * perU p.Periods p.Uses[k] - p.Uses[k].From:=ZbR (by omega) (by omega)
    have w4:w64 ((t:Int)+2 * perU p.Periods p.Uses[k] - p.Uses[k].From - l.getD p.Uses[k].Stream.toNat 0)=(t:Int)+2 * perU p.Periods p.Uses[k] - p.Uses[k].From - l.getD p.Uses[k].Stream.toNat 0:=ZbR (by omega) (by omega)
    have em:((t:Int)+2 * perU p.Periods p.Uses[k] - p.Uses[k].From - l.getD p.Uses[k].Stream.toNat 0).tmod (perU p.Periods p.Uses[k])=((t:Int) - (ZaQ p p.Uses[k] (l.getD p.Uses[k].Stream.toNat 0)).From) % perU p.Periods p.Uses[k]:=by
     rw [Int.tmod_eq_emod_of_nonneg (by omega)]
     have e2:(t:Int)+2 * perU p.Periods p.Uses[k] - p.Uses[k].From - l.getD p.Uses[k].Stream.toNat 0=((t:Int) - (p.Uses[k].From+l.getD p.Uses[k].Stream.toNat 0))+perU p.Periods p.Uses[k] * 2:=by omega
     rw [e2,Int.add_mul_emod_self_left]
     show _=((t:Int) - (p.Uses[k].From+l.getD p.Uses[k].Stream.toNat 0) % perU p.Periods p.Uses[k]) % perU p.Periods p.Uses[k]
     rw [Int.sub_emod_emod]
    have ec:covU p l port t k=(decide (p.Uses[k].Port=(port:Int))&&decide (((t:Int) - (ZaQ p p.Uses[k] (l.getD p.Uses[k].Stream.toNat 0)).From) % perU p.Periods p.Uses[k]<p.Uses[k].Long)):=by
     unfold covU;rw [ZbC c]
    have es:cntU p l port t (k+1)=cntU p l port t k+(if covU p l port t k=true then 1 else 0):=Zic _ _
    simp only [Option.bind_some,w1,w2,w3,w4]
    rw [Zci (by omega),em]
    simp only [Option.bind_some]
    by_cases d1:p.Uses[k].Port=(port:Int)
    ·rw [if_pos (by simpa using d1),Option.bind_some]
     by_cases d2:((t:Int) - (ZaQ p p.Uses[k] (l.getD p.Uses[k].Stream.toNat 0)).From) % perU p.Periods p.Uses[k]<p.Uses[k].Long
     ·rw [if_pos (by simpa using d2),Option.bind_some,es,if_pos (by rw [ec,decide_eq_true d1,decide_eq_true d2];rfl),ZaS (by omega),ZaS (by omega)]
     ·rw [if_neg (by simpa using d2),Option.bind_some,es,if_neg (by rw [ec,decide_eq_false d2,Bool.and_false];simp),ZaS (by omega)]
      rfl
    ·rw [if_neg (by simpa using d1),Option.bind_some]
     simp only [Bool.false_eq_true,if_false,Option.bind_some]
     rw [es,if_neg (by rw [ec,decide_eq_false d1,Bool.false_and];simp),ZaS (by omega)]
     rfl
   ·right
    obtain rfl:k=p.Uses.length:=by omega
    exact ⟨_,by rw [if_neg (by simp)],rfl⟩) 2000 (0,0) ⟨0,rfl,by omega,by simp [cntU]⟩ (by simp;omega)
  rw [hr,er]
 have units:∀ (port:Nat) (b:Bool),port<4→Zac (fun x:Bool × Int=>Zan 2000 p l (((lcmL p.Periods:Nat):Int),0) (port:Int) x.1 x.2) 2000 (b,0)=some (b||Zfk p l port (lcmL p.Periods)):=by
  intro port b hport
  obtain ⟨r,hr,er⟩:=Zee (body:=fun x:Bool × Int=>Zan 2000 p l (((lcmL p.Periods:Nat):Int),0) (port:Int) x.1 x.2) (fun x=>∃ t:Nat,x.2=t∧t≤lcmL p.Periods∧x.1=(b||Zfk p l port t)) (fun x=>((lcmL p.Periods:Int) - x.2).toNat) (fun r=>r=(b||Zfk p l port (lcmL p.Periods))) (fun x hx=>by
   obtain ⟨c,i⟩:=x
   obtain ⟨t,k1,k2,k3⟩:=hx
   simp only at k1 k3
   subst k1 k3
   simp only [Zan]
   by_cases c:t<lcmL p.Periods
   ·left
    refine ⟨(b||Zfk p l port (t+1),((t+1:Nat):Int)),?_,⟨t+1,rfl,by omega,rfl⟩,by simp;omega⟩
    rw [if_pos (by simpa using c),cnt port t hport (by omega),Option.bind_some,ZaS (by omega)]
    have e:Zfk p l port (t+1)=(Zfk p l port t||decide (1<cntU p l port t p.Uses.length)):=Zlo _ _
    rw [e,Bool.or_false,Bool.or_assoc]
    congr 5
    simp
    omega
   ·right
    obtain rfl:t=lcmL p.Periods:=by omega
    exact ⟨_,by rw [if_neg (by simp)],rfl⟩) 2000 (b,0) ⟨0,rfl,by omega,by simp [Zfk]⟩ (by simp;omega)
  rw [hr,er]
 have ports:Zac (fun x:Bool × Int=>Zao 2000 p l (((lcmL p.Periods:Nat):Int),0) x.1 x.2) 2000 (false,0)=some (Zfl p l (lcmL p.Periods) 4):=by
  obtain ⟨r,hr,er⟩:=Zee (body:=fun x:Bool × Int=>Zao 2000 p l (((lcmL p.Periods:Nat):Int),0) x.1 x.2) (fun x=>∃ t:Nat,x.2=t∧t≤4∧x.1=Zfl p l (lcmL p.Periods) t) (fun x=>(4 - x.2).toNat) (fun r=>r=Zfl p l (lcmL p.Periods) 4) (fun x hx=>by
   obtain ⟨c,i⟩:=x
   obtain ⟨t,k1,k2,k3⟩:=hx
   simp only at k1 k3
   subst k1 k3
   simp only [Zao]
   by_cases c:t<4
   ·left
    refine ⟨(Zfl p l (lcmL p.Periods) (t+1),((t+1:Nat):Int)),?_,⟨t+1,rfl,by omega,rfl⟩,by simp;omega⟩
    rw [if_pos (by simp;omega),units t _ c,Option.bind_some,ZaS (by omega)]
    have e:Zfl p l (lcmL p.Periods) (t+1)=(Zfl p l (lcmL p.Periods) t||Zfk p l t (lcmL p.Periods)):=Zlo _ _
    rw [e]
   ·right
    obtain rfl:t=4:=by omega
    exact ⟨_,by rw [if_neg (by simp)],rfl⟩) 2000 (false,0) ⟨0,rfl,by omega,by simp [Zfl]⟩ (by simp)
  rw [hr,er]
 rw [ports,Option.bind_some]
 rw [ZgB (l:=p.Periods) (p:=fun _=>true) (bad:=.inr false) (fin:=.inl ()) (fun k hk=>by
  simp only [ZaB]
  have hq:=h.per _ (List.getElem_mem hk)
  have hd:p.Periods[k].toNat ∣ lcmL p.Periods:=ZeR.1 (Nat.dvd_refl _) _ (List.getElem_mem hk)
  have hz:=(Zi3 (a:=(lcmL p.Periods:Int)) (d:=p.Periods[k]) (by omega) (by omega)).2 (by simpa using hd)
  rw [if_pos (by simpa using hk),ZgC hk,Option.bind_some,Zci (by omega),Option.bind_some,ZaS (by omega),hz]
  simp) (by simp [ZaB]) (by omega)]
 have hall:p.Periods.all (fun _=>true)=true:=by simp
 rw [hall]
 simp only [if_true,Option.bind_some]
 rw [Zl2 h gp.port h1,Zja h]
 simp
end Go.Sh

