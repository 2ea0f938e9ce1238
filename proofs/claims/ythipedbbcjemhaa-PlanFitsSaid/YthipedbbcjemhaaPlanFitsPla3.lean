/- Part of the proof; written by a program out of the texts in wip/. -/
import Derived.Test.YthipedbbcjemhaaPlanFitsTop1
set_option linter.unusedVariables false
set_option linter.unusedSimpArgs false
namespace Go.Sh
open Go Go.Eng
theorem Znj {n:Nat} {q:Nat→Nat→Bool}:(allB n fun k=>allB n fun m=>q k m)=allB n fun m=>allB n fun k=>q k m:=by
 rw [Bool.eq_iff_iff]
 simp only [Zf1]
 exact ⟨fun h m hm k hk=>h k hk m hm,fun h k hk m hm=>h m hm k hk⟩
theorem Zna {p:Zf} (h:VP p) {i a j b:Int} {k m:Nat} (hk:k<p.Uses.length) (hm:m<p.Uses.length):hitB p i a j b k m=hitB p j b i a m k:=by
 have e:=ZnB (h.vspan (List.getElem_mem hk) a) (h.vspan (List.getElem_mem hm) b)
 unfold hitB
 rw [Zbp hk,Zbp hm,Bool.eq_iff_iff]
 simp only [Bool.and_eq_true,decide_eq_true_eq,beq_iff_eq,Bool.not_eq_true',decide_eq_false_iff_not]
 rw [e]
 constructor
 ·rintro ⟨a,b,c,d,e⟩;exact ⟨fun q=>a q.symm,c,b,d.symm,e⟩
 ·rintro ⟨a,b,c,d,e⟩;exact ⟨fun q=>a q.symm,c,b,d.symm,e⟩
theorem Zmw {p:Zf} (h:VP p) (i a j b:Int):Zey p i a j b=Zey p j b i a:=by
 unfold Zey
 rw [Znj]
 congr 1
 exact ZjP fun k hk=>ZjP fun m hm=>by rw [Zna h hm hk]
def Zhm (p:Zf) (l:List Int):Bool:=decide (l.length=p.Periods.length)&&allB l.length fun k=>offB p k (l.getD k 0)
def Zj6 (p:Zf) (l:List Int):Bool:=allB l.length fun i=>allB (i+1) fun j => !(Zey p i (l.getD i 0) j (l.getD j 0))
def ZnP (p:Zf) (l:List Int):Bool × Int:=if ZgG p=true then (if Zhm p l=true then (Zj6 p l,0) else (false,2)) else (false,340)
theorem Zkl {p:Zf} {l:List Int} (h:Zhm p l=true):l.length=p.Periods.length∧∀ k,k<l.length→offB p k (l.getD k 0)=true:=by
 unfold Zhm at h
 rw [Bool.and_eq_true,decide_eq_true_eq,Zf1] at h
 exact h
theorem Zh7 {N:Nat} (hN:2000≤N) {p:Zf} (h:VP p) (l:List Int):ZcP N p l=some (Zhm p l):=by
 have hl:=h.len
 unfold ZcP Zhm
 by_cases hc:l.length=p.Periods.length
 ·rw [if_neg (by simp [hc])]
  rw [ZcF (n:=l.length) (p:=fun k=>offB p k (l.getD k 0)) (bad:=.inr false) (fin:=.inl ()) (fun k hk => ?_) (by simp [Za8]) (by omega)]
  ·cases allB l.length fun k=>offB p k (l.getD k 0)<;>simp [hc]
  ·simp only [Za8]
   have hw:w64 ((k:Int)+1)=((k+1:Nat):Int):=ZaL (by omega)
   rw [if_pos (by simpa using hk),Zd6 hk,Option.bind_some,Zd0,Option.bind_some,hw,Zbp hk]
   cases offB p k l[k]<;>rfl
 ·rw [if_pos (by simp;omega)];simp [hc]
theorem ZiC {N:Nat} (hN:2000≤N) {p:Zf} (h:VP p) {l:List Int} (ho:Zhm p l=true):Zdl N p l=some (Zj6 p l):=by
 have hl:=h.len
 obtain ⟨h1,h2⟩:=Zkl ho
 unfold Zdl Zj6
 rw [ZcF (n:=l.length) (p:=fun i=>allB (i+1) fun j => !(Zey p i (l.getD i 0) j (l.getD j 0))) (bad:=.inr false) (fin:=.inl ()) (fun i hi => ?_) (by simp [Zbm]) (by omega)]
 ·cases allB l.length fun i=>allB (i+1) fun j => !(Zey p i (l.getD i 0) j (l.getD j 0))<;>rfl
 ·simp only [Zbm]
  have hw:w64 ((i:Int)+1)=((i+1:Nat):Int):=ZaL (by omega)
  rw [if_pos (by simpa using hi),ZcF (n:=i+1) (p:=fun j => !(Zey p i (l.getD i 0) j (l.getD j 0))) (bad:=.inr false) (fin:=.inl ()) (fun j hj => ?_) (by simp [Zbl];omega) (by omega),hw]
  ·cases allB (i+1) fun j => !(Zey p i (l.getD i 0) j (l.getD j 0))<;>rfl
  ·simp only [Zbl]
   have hj':j<l.length:=by omega
   have hw:w64 ((j:Int)+1)=((j+1:Nat):Int):=ZaL (by omega)
   have b1:=ZhL h (h2 i hi)
   have b2:=ZhL h (h2 j hj')
   rw [Zbp hi] at b1
   rw [Zbp hj'] at b2
   rw [if_pos (by simp;omega),Zd6 hi,Option.bind_some,Zd6 hj',Option.bind_some,Zgi hN h b1.1 (by omega) b2.1 (by omega),Option.bind_some,hw,Zbp hi,Zbp hj']
   cases Zey p i l[i] j l[j]<;>rfl
theorem Zke {N:Nat} (hN:2000≤N) (p:Zf) (l:List Int):ZbP N p l=some (ZnP p l):=by
 unfold ZbP ZnP
 rw [Zgg hN,Option.bind_some]
 cases hp:ZgG p with
 | false=>rfl
 | true =>
  have h:=VP.of hp
  simp only [Bool.not_true,if_true,Bool.false_eq_true,if_false]
  rw [Zh7 hN h,Option.bind_some]
  cases ho:Zhm p l with
  | false=>rfl
  | true =>
   simp only [Bool.not_true,if_true,Bool.false_eq_true,if_false]
   rw [ZiC hN h ho,Option.bind_some]
theorem Zk3 {N:Nat} (hN:2000≤N) (p:Zf) (l:List Int):Zb5 N p l=some (ZnP p l):=by
 unfold Zb5 ZnP
 rw [ZgI hN,Option.bind_some]
 cases hp:ZgG p with
 | false=>rfl
 | true =>
  have h:=VP.of hp
  have hl:=h.len
  simp only [if_true,bne_self_eq_false,Bool.false_eq_true,if_false]
  by_cases hc:l.length=p.Periods.length
  ·rw [if_neg (by simp [hc])]
   rw [ZcF (n:=l.length) (p:=fun k=>offB p k (l.getD k 0)) (bad:=.inr (false,2)) (fin:=.inl ()) (fun k hk => ?_) (by simp [ZcE]) (by omega)]
   ·have e:Zhm p l=allB l.length fun k=>offB p k (l.getD k 0):=by unfold Zhm;simp [hc]
    cases ho:allB l.length fun k=>offB p k (l.getD k 0) with
    | false=>rw [e,ho];rfl
    | true =>
     rw [e,ho]
     simp only [if_true,Option.bind_some]
     rw [ho] at e
     obtain ⟨h1,h2⟩:=Zkl e
     unfold Zj6
     rw [ZcF (n:=l.length) (p:=fun i=>allB (i+1) fun j => !(Zey p i (l.getD i 0) j (l.getD j 0))) (bad:=.inr (false,0)) (fin:=.inl ()) (fun i hi => ?_) (by simp [ZcD]) (by omega)]
     ·cases allB l.length fun i=>allB (i+1) fun j => !(Zey p i (l.getD i 0) j (l.getD j 0))<;>rfl
     ·simp only [ZcD]
      have hw:w64 ((i:Int)+1)=((i+1:Nat):Int):=ZaL (by omega)
      have hs:subI l 0 ((i+1:Nat):Int)=some (l.take (i+1)):=by
       unfold subI
       rw [if_pos (by omega)]
       simp
      have hlt:(l.take (i+1)).length=i+1:=by simp;omega
      rw [if_pos (by simpa using hi),Zd6 hi,Option.bind_some,hw,hs,Option.bind_some,ZcF (n:=i+1) (p:=fun j => !(Zey p i (l.getD i 0) j (l.getD j 0))) (bad:=.inr (false,0)) (fin:=.inl ()) (fun j hj => ?_) (by simp [ZcC,hlt]) (by omega)]
      ·cases allB (i+1) fun j => !(Zey p i (l.getD i 0) j (l.getD j 0))<;>rfl
      ·simp only [ZcC]
       have hj':j<l.length:=by omega
       have hw:w64 ((j:Int)+1)=((j+1:Nat):Int):=ZaL (by omega)
       have b1:=ZhL h (h2 i hi)
       have b2:=ZhL h (h2 j hj')
       rw [Zbp hi] at b1
       rw [Zbp hj'] at b2
       have ei:idx (l.take (i+1)) (j:Int)=some l[j]:=by
        rw [Zd6 (by omega),List.getElem_take]
       rw [if_pos (by simp [hlt];omega),ei,Option.bind_some,Zdx hN h b2.1 (by omega) b1.1 (by omega) (fun q=>by
        have:j=i:=by omega
        subst this;rfl),Option.bind_some,hw,Zbp hi,Zbp hj',Zmw h]
       cases Zey p i l[i] j l[j]<;>rfl
   ·simp only [ZcE]
    have hw:w64 ((k:Int)+1)=((k+1:Nat):Int):=ZaL (by omega)
    rw [if_pos (by simpa using hk),Zd6 hk,Option.bind_some,Zew N (by omega) (by omega),Option.bind_some,hw,Zbp hk]
    cases offB p k l[k]<;>rfl
  ·rw [if_pos (by simp;omega)]
   have:Zhm p l=false:=by unfold Zhm;simp [hc]
   rw [this];rfl
def ZkI:List Int:=[4,6,8,12,3,5,10,24]
theorem ZjZ:∀ x ∈ ZkI,3≤x∧x≤24∧x.toNat ∣ 120:=by decide
structure GP (p:Zf):Prop where
 prob:ZgG p=true
 len:p.Periods.length≤5
 uses:p.Uses.length≤12
 tab:∀ x ∈ p.Periods,x ∈ ZkI
 port:∀ u ∈ p.Uses,u.Port<4
theorem ZgV {α:Type} {b:Nat} {l:List α} {x:α} (hl:l.length≤1000) (hb:b≤1000):appI b l [x]=some (l++[x]):=by
 refine Zhy ?_ (by omega)
 simp;omega
theorem Ze9 {N:Nat} (hN:2000≤N) {d:Zav} (hd:Zdg d):∃ p,Zab N d=some p∧GP p:=by
 obtain ⟨⟨_,d1⟩,⟨_,d2⟩⟩:=hd
 unfold Zab
 obtain ⟨P,hP,P1,P2⟩:=Zia (body:=fun x:Int × (List Int)=>Zao N d x.1 x.2) (fun x=>0≤x.1∧x.1≤5∧(x.2.length:Int)=x.1∧∀ q ∈ x.2,q ∈ ZkI) (fun x=>(5 - x.1).toNat) (fun l=>l.length≤5∧∀ q ∈ l,q ∈ ZkI) (fun x hx=>by
  obtain ⟨i,l⟩:=x
  obtain ⟨i0,i1,i2,i3⟩:=hx
  simp only at i0 i1 i2 i3
  simp only [Zao]
  by_cases c:i<(d.Periods.length:Int)∧i<5
  ·left
   obtain ⟨k,rfl⟩:∃ k:Nat,i=k:=⟨i.toNat,by omega⟩
   have hk:k<d.Periods.length:=by omega
   have hb:0≤d.Periods[k]∧d.Periods[k]≤255:=(d1 _ (List.getElem_mem hk)).u8
   have hm0:=Int.emod_nonneg d.Periods[k] (show (8:Int) ≠ 0 by decide)
   have hm1:=Int.emod_lt_of_pos d.Periods[k] (show (0:Int)<8 by decide)
   have ht:(d.Periods[k] % 8).toNat<ZkI.length:=by simp [ZkI];omega
   refine ⟨(((k+1:Nat):Int),l++[ZkI[(d.Periods[k] % 8).toNat]]),?_,⟨by omega,by omega,by simp;omega,fun q hq => ?_⟩,by omega⟩
   ·rw [if_pos (by simp;omega),Zd6 hk,Option.bind_some,Int.tmod_eq_emod_of_nonneg hb.1,show ([4,6,8,12,3,5,10,24]:List Int)=ZkI from rfl,ZgO hm0 ht,Option.bind_some,ZgV (by omega) (by omega),Option.bind_some,ZaL (by omega)]
   ·rcases List.mem_append.1 hq with q1 | q1
    ·exact i3 q q1
    ·simp only [List.mem_singleton] at q1
     subst q1
     exact List.getElem_mem ht
  ·right
   refine ⟨l,?_,by omega,i3⟩
   rw [if_neg (by simp;omega)]) N (0,[]) ⟨by omega,by omega,rfl,by simp⟩ (by simp;omega)
 rw [hP,Option.bind_some]
 have hper:P.all perB=true:=List.all_eq_true.2 fun q hq=>by
  have:=ZjZ q (P2 q hq)
  exact ZgJ.2 (by omega)
 obtain ⟨U,hU,U1,U2⟩:=Zia (body:=fun x:Int × (List ZA)=>Zan N d P x.1 x.2) (fun x=>0≤x.1∧x.1≤12∧(x.2.length:Int)=x.1∧∀ u ∈ x.2,useB P u=true∧u.Port<4) (fun x=>(12 - x.1).toNat) (fun l=>l.length≤12∧∀ u ∈ l,useB P u=true∧u.Port<4) (fun x hx=>by
  obtain ⟨i,l⟩:=x
  obtain ⟨i0,i1,i2,i3⟩:=hx
  simp only at i0 i1 i2 i3
  simp only [Zan]
  by_cases c:i<(d.Uses.length:Int)∧i<12∧0<P.length
  ·left
   obtain ⟨c1,c2,c3⟩:=c
   obtain ⟨k,rfl⟩:∃ k:Nat,i=k:=⟨i.toNat,by omega⟩
   have hk:k<d.Uses.length:=by omega
   obtain ⟨b0,b1,b2,b3⟩:=d2 _ (List.getElem_mem hk)
   have b0:0≤d.Uses[k].x0∧d.Uses[k].x0≤255:=b0.u8
   have b1:0≤d.Uses[k].x1∧d.Uses[k].x1≤255:=b1.u8
   have b2:0≤d.Uses[k].x2∧d.Uses[k].x2≤255:=b2.u8
   have b3:0≤d.Uses[k].x3∧d.Uses[k].x3≤255:=b3.u8
   have s0:=Int.emod_nonneg d.Uses[k].x0 (show (P.length:Int) ≠ 0 by omega)
   have s1:=Int.emod_lt_of_pos d.Uses[k].x0 (show 0<(P.length:Int) by omega)
   have hn:(d.Uses[k].x0 % (P.length:Int)).toNat<P.length:=by omega
   obtain ⟨n,en⟩:∃ n,n=P[(d.Uses[k].x0 % (P.length:Int)).toNat]:=⟨_,rfl⟩
   have hn3:=ZjZ n (P2 n (by rw [en];exact List.getElem_mem hn))
   have f0:=Int.emod_nonneg d.Uses[k].x2 (show n ≠ 0 by omega)
   have f1:=Int.emod_lt_of_pos d.Uses[k].x2 (show 0<n by omega)
   have g0:=Int.emod_nonneg d.Uses[k].x3 (show n ≠ 0 by omega)
   have g1:=Int.emod_lt_of_pos d.Uses[k].x3 (show 0<n by omega)
   have g2:=Int.emod_nonneg (d.Uses[k].x3 % n) (show (4:Int) ≠ 0 by decide)
   have g3:=Int.emod_lt_of_pos (d.Uses[k].x3 % n) (show (0:Int)<4 by decide)
   have g4:=Int.emod_nonneg (d.Uses[k].x3 % n % 4) (show n ≠ 0 by omega)
   have g5:=Int.emod_lt_of_pos (d.Uses[k].x3 % n % 4) (show 0<n by omega)
   have p0:=Int.emod_nonneg d.Uses[k].x1 (show (4:Int) ≠ 0 by decide)
   have p1:=Int.emod_lt_of_pos d.Uses[k].x1 (show (0:Int)<4 by decide)
   refine ⟨(((k+1:Nat):Int),l++[⟨d.Uses[k].x0 % P.length,d.Uses[k].x1 % 4,d.Uses[k].x2 % n,1+d.Uses[k].x3 % n % 4 % n⟩]),?_,⟨by omega,by omega,by simp;omega,fun u hu => ?_⟩,by omega⟩
   ·rw [if_pos (by simp;omega),if_pos (by simp;omega)]
    simp only [Option.bind_some]
    rw [if_pos (by simp;omega),Zd6 hk,Option.bind_some,ZaW (by omega) (by omega),ZaU (by omega),Option.bind_some,Int.tmod_eq_emod_of_nonneg b0.1,ZgO s0 hn,Option.bind_some,← en,
     ZaW (x:=d.Uses[k].x2) (by omega) (by omega),ZaU (by omega),Option.bind_some,ZaW (x:=d.Uses[k].x3) (by omega) (by omega),ZaU (by omega),Option.bind_some,ZaU (by omega),Option.bind_some,
     Int.tmod_eq_emod_of_nonneg b1.1,Int.tmod_eq_emod_of_nonneg b2.1,Int.tmod_eq_emod_of_nonneg b3.1,Int.tmod_eq_emod_of_nonneg g0,Int.tmod_eq_emod_of_nonneg g2,ZaW (x:=d.Uses[k].x1 % 4) (by omega) (by omega),ZaW (x:=1+_) (by omega) (by omega),ZgV (by omega) (by omega),Option.bind_some,ZaL (by omega)]
   ·rcases List.mem_append.1 hu with q1 | q1
    ·exact i3 u q1
    ·simp only [List.mem_singleton] at q1
     subst q1
     refine ⟨Zd7.2 ?_,p1⟩
     unfold perU
     simp only
     rw [Zbp hn,← en]
     omega
  ·right
   refine ⟨l,?_,by omega,i3⟩
   by_cases c1:i<(d.Uses.length:Int)
   ·rw [if_pos (by simpa using c1)]
    by_cases c2:i<12
    ·rw [if_pos (by simpa using c2),Option.bind_some,if_neg (by rw [decide_eq_true_eq];omega)]
    ·rw [if_neg (by simpa using c2),Option.bind_some,if_neg (by simp)]
   ·rw [if_neg (by simpa using c1),Option.bind_some,if_neg (by simp)]) N (0,[]) ⟨by omega,by omega,rfl,by simp⟩ (by simp;omega)
 rw [hU,Option.bind_some]
 refine ⟨_,rfl,?_,P1,U1,P2,fun u hu=>(U2 u hu).2⟩
 rw [Zk2]
 refine ⟨by show P.length≤12;omega,by show U.length≤192;omega,hper,List.all_eq_true.2 fun u hu=>(U2 u hu).1,?_⟩
 have hdv:lcmL P ∣ 120:=ZhP.2 fun q hq=>(ZjZ q (P2 q hq)).2.2
 have:=Nat.le_of_dvd (by decide) hdv
 show lcmL P≤960
 omega
theorem Zkc {N:Nat} (hN:2000≤N) {p:Zf} (h:VP p) {a:List Int} (ha:∀ x ∈ a,InK .u8 x):∃ l,ZcZ N p a=some l∧Zhm p l=true:=by
 have hlen:=h.len
 unfold ZcZ
 obtain ⟨l,hl,l1,l2⟩:=Zia (body:=fun x:Int × (List Int)=>Zcd N p a x.1 x.2) (fun x=>0≤x.1∧x.1≤p.Periods.length∧(x.2.length:Int)=x.1∧∀ k,k<x.2.length→offB p k (x.2.getD k 0)=true) (fun x=>(p.Periods.length - x.1).toNat) (fun l=>l.length=p.Periods.length∧∀ k,k<l.length→offB p k (l.getD k 0)=true) (fun x hx=>by
  obtain ⟨i,l⟩:=x
  obtain ⟨i0,i1,i2,i3⟩:=hx
  simp only at i0 i1 i2 i3
  simp only [Zcd]
  by_cases c:i<(p.Periods.length:Int)
  ·left
   obtain ⟨k,rfl⟩:∃ k:Nat,i=k:=⟨i.toNat,by omega⟩
   have hk:k<p.Periods.length:=by omega
   have hq:=h.per _ (List.getElem_mem hk)
   have key:∃ x,(if (decide ((k:Int)<((List.length a:Nat):Int))) then ((idx a k).bind fun e1010=>((idx p.Periods k).bind fun e1011=>((remI (w64 (e1010)) e1011).bind fun m1012=>(some m1012)))) else (some 0))=some x∧0≤x∧x<p.Periods[k]:=by
    by_cases c2:k<a.length
    ·have hb:0≤a[k]∧a[k]≤255:=(ha _ (List.getElem_mem c2)).u8
     refine ⟨a[k] % p.Periods[k],?_,Int.emod_nonneg _ (by omega),Int.emod_lt_of_pos _ (by omega)⟩
     rw [if_pos (by simpa using c2),Zd6 c2,Option.bind_some,Zd6 hk,Option.bind_some,ZaW (by omega) (by omega),ZaU (by omega),Option.bind_some,Int.tmod_eq_emod_of_nonneg hb.1]
    ·exact ⟨0,by rw [if_neg (by simpa using c2)],by omega,by omega⟩
   obtain ⟨x,hx,x0,x1⟩:=key
   refine ⟨(((k+1:Nat):Int),l++[x]),?_,⟨by omega,by omega,by simp;omega,fun m hm => ?_⟩,by omega⟩
   ·rw [if_pos (by simpa using c),hx,Option.bind_some,ZgV (by omega) (by omega),Option.bind_some,ZaL (by omega)]
   ·simp only [List.length_append,List.length_cons,List.length_nil] at hm
    by_cases e:m<l.length
    ·have:=i3 m e
     rw [Zbp e] at this
     rw [Zbp (by simp;omega),List.getElem_append_left e]
     exact this
    ·obtain rfl:m=k:=by omega
     rw [Zbp (by simp;omega),List.getElem_append_right (by omega)]
     simp only [show m - l.length=0 by omega,List.getElem_cons_zero]
     rw [Zdc]
     simp only [Int.toNat_natCast]
     rw [Zbp hk]
     omega
  ·right
   refine ⟨l,?_,by omega,i3⟩
   rw [if_neg (by simpa using c)]) N (0,[]) ⟨by omega,by simp,rfl,by simp⟩ (by simp;omega)
 rw [hl,Option.bind_some]
 refine ⟨l,rfl,?_⟩
 unfold Zhm
 rw [Bool.and_eq_true,decide_eq_true_eq,Zf1]
 exact ⟨l1,l2⟩
theorem Zhr {N:Nat} (hN:2000≤N) {d:Zav} (hd:Zdg d) {odd:Zf} {at_:Int} (hat:InK .u8 at_):∃ p q r,Zcs N d odd at_=some ⟨p,q,r⟩∧Zab N d=some p∧GP p:=by
 obtain ⟨p,hp,gp⟩:=Ze9 hN hd
 have hat:0≤at_∧at_≤255:=hat.u8
 have hlen:=gp.len
 have huses:=gp.uses
 have hs:∀ {α:Type} (l:List α) (m:Int),0≤m→∃ r,subI l 0 (if m<((List.length l:Nat):Int) then m else ((List.length l:Nat):Int))=some r:=by
  intro α l m hm
  unfold subI
  by_cases c:m<(l.length:Int)
  ·rw [if_pos c,if_pos (by omega)];exact ⟨_,rfl⟩
  ·rw [if_neg c,if_pos (by omega)];exact ⟨_,rfl⟩
 obtain ⟨l2,e2⟩:=hs odd.Periods 13 (by omega)
 obtain ⟨l3,e3⟩:=hs odd.Uses 200 (by omega)
 unfold Zcs
 rw [hp,Option.bind_some,e2,Option.bind_some,e3,Option.bind_some,Zhy (by simp;omega) (by omega),Option.bind_some,Zhy (by simp;omega) (by omega),Option.bind_some]
 simp only [List.nil_append]
 have rest:∃ j:List Int × List ZA,(((((if (decide (((List.length p.Uses:Nat):Int) > 0)) then (if (decide (((List.length l3:Nat):Int) > 0)) then (some ((Int.tmod at_ 2)==0)) else (some false)) else (some false))).bind fun (j519:Bool) =>
 (if j519 then ((remI (w64 (at_)) ((List.length p.Uses:Nat):Int)).bind fun m522 =>
 ((idx l3 0).bind fun e523 =>
 ((idx p.Uses m522).bind fun e524 =>
 (some (p.Periods,(List.set p.Uses (Int.toNat m522) e523)))))) else (((if (decide (((List.length p.Periods:Nat):Int) > 0)) then (some (decide (((List.length l2:Nat):Int) > 0))) else (some false))).bind fun (j531:Bool) =>
 (if j531 then ((remI (w64 (at_)) ((List.length p.Periods:Nat):Int)).bind fun m534 =>
 ((idx l2 0).bind fun e535 =>
 ((idx p.Periods m534).bind fun e536 =>
 (some ((List.set p.Periods (Int.toNat m534) e535),p.Uses))))) else (some (p.Periods,p.Uses))))))):Option (List Int × List ZA))=some j:=by
  have two:∃ j:List Int × List ZA,(((if (decide (((List.length p.Periods:Nat):Int) > 0)) then (some (decide (((List.length l2:Nat):Int) > 0))) else (some false))).bind fun (j531:Bool) =>
 (if j531 then ((remI (w64 (at_)) ((List.length p.Periods:Nat):Int)).bind fun m534 =>
 ((idx l2 0).bind fun e535 =>
 ((idx p.Periods m534).bind fun e536 =>
 (some ((List.set p.Periods (Int.toNat m534) e535),p.Uses))))) else (some (p.Periods,p.Uses))))=some j:=by
   by_cases c1:0<p.Periods.length∧0<l2.length
   ·obtain ⟨c1,c2⟩:=c1
    have m0:=Int.emod_nonneg at_ (show (p.Periods.length:Int) ≠ 0 by omega)
    have m1:=Int.emod_lt_of_pos at_ (show 0<(p.Periods.length:Int) by omega)
    rw [if_pos (by simp;omega),Option.bind_some,if_pos (by simp;omega),ZaW (by omega) (by omega),ZaU (by omega),Option.bind_some,Int.tmod_eq_emod_of_nonneg hat.1,ZgO (by omega) (by simpa using c2),Option.bind_some,ZgO m0 (by omega),Option.bind_some]
    exact ⟨_,rfl⟩
   ·by_cases c2:0<p.Periods.length
    ·rw [if_pos (by simp;omega),Option.bind_some,if_neg (by rw [decide_eq_true_eq];omega)];exact ⟨_,rfl⟩
    ·rw [if_neg (by rw [decide_eq_true_eq];omega),Option.bind_some,if_neg (by simp)];exact ⟨_,rfl⟩
  by_cases c1:0<p.Uses.length∧0<l3.length
  ·obtain ⟨c1,c2⟩:=c1
   rw [if_pos (by simp;omega),if_pos (by simp;omega),Option.bind_some]
   by_cases c3:(at_.tmod 2==0)=true
   ·have m0:=Int.emod_nonneg at_ (show (p.Uses.length:Int) ≠ 0 by omega)
    have m1:=Int.emod_lt_of_pos at_ (show 0<(p.Uses.length:Int) by omega)
    rw [if_pos c3,ZaW (by omega) (by omega),ZaU (by omega),Option.bind_some,Int.tmod_eq_emod_of_nonneg hat.1,ZgO (by omega) (by simpa using c2),Option.bind_some,ZgO m0 (by omega),Option.bind_some]
    exact ⟨_,rfl⟩
   ·rw [if_neg c3]
    exact two
  ·have:(if (decide (((List.length p.Uses:Nat):Int) > 0))=true then (if (decide (((List.length l3:Nat):Int) > 0))=true then (some ((Int.tmod at_ 2)==0)) else (some false)) else (some false))=some false:=by
    by_cases c2:0<p.Uses.length
    ·rw [if_pos (by simp;omega),if_neg (by rw [decide_eq_true_eq];omega)]
    ·rw [if_neg (by rw [decide_eq_true_eq];omega)]
   rw [this,Option.bind_some,if_neg (by simp)]
   exact two
 obtain ⟨j,hj⟩:=rest
 rw [hj,Option.bind_some]
 exact ⟨p,_,_,rfl,rfl,gp⟩
set_option maxRecDepth 100000 in
theorem Zmh (n:Nat):Zd2 (n+300)=some true:=by kernel_rfl
theorem works24 {N:Nat} (hN:2000≤N):Zd2 N=some true:=by
 obtain ⟨n,rfl⟩:∃ n,N=n+300:=⟨N - 300,by omega⟩
 exact Zmh n
theorem planFits_true (d:Zav) (odd:Zf) (at_:Int) (n:ZaE) (l some_:List Int) (hd:Zdg d) (hodd:Zgj odd) (hat:InK .u8 at_) (hn:Zji n) (hl:l.length≤maxLen∧∀ x ∈ l,InK .i64 x) (hs:some_.length≤maxLen∧∀ x ∈ some_,InK .u8 x):∃ N,Zde N d odd at_ n l some_=some true:=by
 refine ⟨2000,?_⟩
 have hN:2000≤2000:=Nat.le_refl _
 obtain ⟨p,q,r,h1,h2,gp⟩:=Zhr hN hd (odd:=odd) hat
 obtain ⟨g,hg,og⟩:=Zkc hN (VP.of gp.prob) hs.2
 obtain ⟨og1,_⟩:=Zkl og
 have glen:=gp.len
 have hat:0≤at_∧at_≤255:=hat.u8
 unfold Zde
 rw [h1,Option.bind_some]
 simp only [h2,hg,Option.bind_some]
 have first:∃ j:Int × Int,(((if (decide (((List.length g:Nat):Int) > 0)) then ((remI (w64 (at_)) ((List.length g:Nat):Int)).bind fun m506 =>
 ((remI (w64 (Int.tdiv (w64 (at_)) 5)) ((List.length g:Nat):Int)).bind fun m507 =>
 (some (m506,m507)))) else (some (0,0)))):Option (Int × Int))=some j∧(0<g.length→0≤j.1∧j.1<g.length∧0≤j.2∧j.2<g.length):=by
  by_cases c:0<g.length
  ·have hd5:(at_.tdiv 5)=at_ / 5:=Int.tdiv_eq_ediv_of_nonneg hat.1
   rw [if_pos (by simp;omega),ZaW (by omega) (by omega),hd5,ZaU (by omega),Option.bind_some,ZaW (by omega) (by omega),ZaU (by omega),Option.bind_some,Int.tmod_eq_emod_of_nonneg hat.1,Int.tmod_eq_emod_of_nonneg (by omega)]
   exact ⟨_,rfl,fun _=>⟨Int.emod_nonneg _ (by omega),Int.emod_lt_of_pos _ (by omega),Int.emod_nonneg _ (by omega),Int.emod_lt_of_pos _ (by omega)⟩⟩
  ·rw [if_neg (by rw [decide_eq_true_eq];omega)]
   exact ⟨_,rfl,fun q=>absurd q c⟩
 obtain ⟨j,hj,hj2⟩:=first
 rw [hj]
 simp only [Option.bind_some]
 have second:∃ ps:List ZaE,(((if (decide (((List.length g:Nat):Int) > 0)) then ((idx g j.1).bind fun e1014 =>
 ((idx g j.2).bind fun e1015 =>
 ((appI 32 [n] [(ZaE.mk j.1 e1014 j.2 e1015)]).bind fun l1018 =>
 (some l1018)))) else (some [n]))):Option (List ZaE))=some ps∧ps.length≤2:=by
  by_cases c:0<g.length
  ·obtain ⟨a,b,c',d'⟩:=hj2 c
   rw [if_pos (by simp;omega),ZgO a (by omega),Option.bind_some,ZgO c' (by omega),Option.bind_some,ZgV (by simp) (by omega),Option.bind_some]
   exact ⟨_,rfl,by simp⟩
  ·rw [if_neg (by rw [decide_eq_true_eq];omega)]
   exact ⟨_,rfl,by simp⟩
 obtain ⟨ps,hps,hps2⟩:=second
 rw [hps]
 simp only [Option.bind_some]
 have hall:∀ {α:Type} (l:List α),l.all (fun _=>true)=true:=fun l=>by simp
 rw [Zc8 (l:=ps) (p:=fun _=>true) (bad:=.inr false) (fin:=.inl ()) (fun k hk=>by
   simp only [Za0]
   rw [if_pos (by simpa using hk),Zd6 hk,ZaL (by omega)]
   simp only [Option.bind_some,Zdy hN,Zc3 hN,bne_self_eq_false,Bool.or_self,Bool.false_eq_true,if_false,if_true]) (by simp [Za0]) (by omega),
  Zc8 (l:=ps) (p:=fun _=>true) (bad:=.inr false) (fin:=.inl ()) (fun k hk=>by
   simp only [ZaZ]
   rw [if_pos (by simpa using hk),Zd6 hk,ZaL (by omega)]
   simp only [Option.bind_some,Zdy hN,Zc3 hN,bne_self_eq_false,Bool.or_self,Bool.false_eq_true,if_false,if_true]) (by simp [ZaZ]) (by omega),
  Zc8 (l:=ps) (p:=fun _=>true) (bad:=.inr false) (fin:=.inl ()) (fun k hk=>by
   simp only [ZaY]
   rw [if_pos (by simpa using hk),Zd6 hk,ZaL (by omega)]
   simp only [Option.bind_some,Zdy hN,Zc3 hN,bne_self_eq_false,Bool.or_self,Bool.false_eq_true,if_false,if_true]) (by simp [ZaY]) (by omega)]
 simp only [hall,if_true,Option.bind_some,Zk3 hN,Zke hN,bne_self_eq_false,Bool.or_self,Bool.false_eq_true,if_false,hj,hps,works24 hN]
end Go.Sh

