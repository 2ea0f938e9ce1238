/- Part of the proof; written by a program out of the texts in wip/. -/
import Derived.Test.YthipedbbcjemhaaPlanMovesTop1
set_option linter.unusedVariables false
set_option linter.unusedSimpArgs false
namespace Go.Sh
open Go Go.Eng
theorem Zmw {n:Nat} {q:Nat→Nat→Bool}:(allB n fun k=>allB n fun m=>q k m)=allB n fun m=>allB n fun k=>q k m:=by
 rw [Bool.eq_iff_iff]
 simp only [ZdB]
 exact ⟨fun h m hm k hk=>h k hk m hm,fun h k hk m hm=>h m hm k hk⟩
theorem Zmn {p:Ze} (h:VP p) {i a j b:Int} {k m:Nat} (hk:k<p.Uses.length) (hm:m<p.Uses.length):hitB p i a j b k m=hitB p j b i a m k:=by
 have e:=ZmP (h.vspan (List.getElem_mem hk) a) (h.vspan (List.getElem_mem hm) b)
 unfold hitB
 rw [ZaV hk,ZaV hm,Bool.eq_iff_iff]
 simp only [Bool.and_eq_true,decide_eq_true_eq,beq_iff_eq,Bool.not_eq_true',decide_eq_false_iff_not]
 rw [e]
 constructor
 ·rintro ⟨a,b,c,d,e⟩;exact ⟨fun q=>a q.symm,c,b,d.symm,e⟩
 ·rintro ⟨a,b,c,d,e⟩;exact ⟨fun q=>a q.symm,c,b,d.symm,e⟩
theorem ZgB {p:Ze} (h:VP p) (i a j b:Int):Zdq p i a j b=Zdq p j b i a:=by
 unfold Zdq
 rw [Zmw]
 congr 1
 exact Zdf fun k hk=>Zdf fun m hm=>by rw [Zmn h hm hk]
def Zgy (p:Ze) (l:List Int):Bool:=decide (l.length=p.Periods.length)&&allB l.length fun k=>offB p k (l.getD k 0)
def Zjb (p:Ze) (l:List Int):Bool:=allB l.length fun i=>allB (i+1) fun j => !(Zdq p i (l.getD i 0) j (l.getD j 0))
def fitsS (p:Ze) (l:List Int):Bool × Int:=if ZhS p=true then (if Zgy p l=true then (Zjb p l,0) else (false,2)) else (false,340)
theorem Zhn {p:Ze} {l:List Int} (h:Zgy p l=true):l.length=p.Periods.length∧∀ k,k<l.length→offB p k (l.getD k 0)=true:=by
 unfold Zgy at h
 rw [Bool.and_eq_true,decide_eq_true_eq,ZdB] at h
 exact h
theorem ZgV {N:Nat} (hN:2000≤N) (p:Ze) (l:List Int):Zdl N p l=some (fitsS p l):=by
 unfold Zdl fitsS
 rw [ZfZ hN,Option.bind_some]
 cases hp:ZhS p with
 | false=>rfl
 | true =>
  have h:=VP.of hp
  have hl:=h.len
  simp only [if_true,bne_self_eq_false,Bool.false_eq_true,if_false]
  by_cases hc:l.length=p.Periods.length
  ·rw [if_neg (by simp [hc])]
   rw [ZgF (n:=l.length) (p:=fun k=>offB p k (l.getD k 0)) (bad:=.inr (false,2)) (fin:=.inl ()) (fun k hk => ?_) (by simp [Zb6]) (by omega)]
   ·have e:Zgy p l=allB l.length fun k=>offB p k (l.getD k 0):=by unfold Zgy;simp [hc]
    cases ho:allB l.length fun k=>offB p k (l.getD k 0) with
    | false=>rw [e,ho];rfl
    | true =>
     rw [e,ho]
     simp only [if_true,Option.bind_some]
     rw [ho] at e
     obtain ⟨h1,h2⟩:=Zhn e
     unfold Zjb
     rw [ZgF (n:=l.length) (p:=fun i=>allB (i+1) fun j => !(Zdq p i (l.getD i 0) j (l.getD j 0))) (bad:=.inr (false,0)) (fin:=.inl ()) (fun i hi => ?_) (by simp [Zb5]) (by omega)]
     ·cases allB l.length fun i=>allB (i+1) fun j => !(Zdq p i (l.getD i 0) j (l.getD j 0))<;>rfl
     ·simp only [Zb5]
      have hw:w64 ((i:Int)+1)=((i+1:Nat):Int):=ZbT (by omega)
      have hs:subI l 0 ((i+1:Nat):Int)=some (l.take (i+1)):=by
       unfold subI
       rw [if_pos (by omega)]
       simp
      have hlt:(l.take (i+1)).length=i+1:=by simp;omega
      rw [if_pos (by simpa using hi),ZfM hi,Option.bind_some,hw,hs,Option.bind_some,ZgF (n:=i+1) (p:=fun j => !(Zdq p i (l.getD i 0) j (l.getD j 0))) (bad:=.inr (false,0)) (fin:=.inl ()) (fun j hj => ?_) (by simp [Zb4,hlt]) (by omega)]
      ·cases allB (i+1) fun j => !(Zdq p i (l.getD i 0) j (l.getD j 0))<;>rfl
      ·simp only [Zb4]
       have hj':j<l.length:=by omega
       have hw:w64 ((j:Int)+1)=((j+1:Nat):Int):=ZbT (by omega)
       have b1:=Zka h (h2 i hi)
       have b2:=Zka h (h2 j hj')
       rw [ZaV hi] at b1
       rw [ZaV hj'] at b2
       have ei:idx (l.take (i+1)) (j:Int)=some l[j]:=by
        rw [ZfM (by omega),List.getElem_take]
       rw [if_pos (by simp [hlt];omega),ei,Option.bind_some,ZcR hN h b2.1 (by omega) b1.1 (by omega) (fun q=>by
        have:j=i:=by omega
        subst this;rfl),Option.bind_some,hw,ZaV hi,ZaV hj',ZgB h]
       cases Zdq p i l[i] j l[j]<;>rfl
   ·simp only [Zb6]
    have hw:w64 ((k:Int)+1)=((k+1:Nat):Int):=ZbT (by omega)
    rw [if_pos (by simpa using hk),ZfM hk,Option.bind_some,ZdO N (by omega) (by omega),Option.bind_some,hw,ZaV hk]
    cases offB p k l[k]<;>rfl
  ·rw [if_pos (by simp;omega)]
   have:Zgy p l=false:=by unfold Zgy;simp [hc]
   rw [this];rfl
def ZjJ:List Int:=[4,6,8,12,3,5,10,24]
theorem Zi6:∀ x ∈ ZjJ,3≤x∧x≤24∧x.toNat ∣ 120:=by decide
structure GP (p:Ze):Prop where
 prob:ZhS p=true
 len:p.Periods.length≤5
 uses:p.Uses.length≤12
 tab:∀ x ∈ p.Periods,x ∈ ZjJ
 port:∀ u ∈ p.Uses,u.Port<4
theorem Zf9 {α:Type} {b:Nat} {l:List α} {x:α} (hl:l.length≤1000) (hb:b≤1000):appI b l [x]=some (l++[x]):=by
 refine ZlT ?_ (by omega)
 simp;omega
theorem Zev {N:Nat} (hN:2000≤N) {d:ZaM} (hd:ZdQ d):∃ p,ZaL N d=some p∧GP p:=by
 obtain ⟨⟨_,d1⟩,⟨_,d2⟩⟩:=hd
 unfold ZaL
 obtain ⟨P,hP,P1,P2⟩:=Zfe (body:=fun x:Int × (List Int)=>Zae N d x.1 x.2) (fun x=>0≤x.1∧x.1≤5∧(x.2.length:Int)=x.1∧∀ q ∈ x.2,q ∈ ZjJ) (fun x=>(5 - x.1).toNat) (fun l=>l.length≤5∧∀ q ∈ l,q ∈ ZjJ) (fun x hx=>by
  obtain ⟨i,l⟩:=x
  obtain ⟨i0,i1,i2,i3⟩:=hx
  simp only at i0 i1 i2 i3
  simp only [Zae]
  by_cases c:i<(d.Periods.length:Int)∧i<5
  ·left
   obtain ⟨k,rfl⟩:∃ k:Nat,i=k:=⟨i.toNat,by omega⟩
   have hk:k<d.Periods.length:=by omega
   have hb:0≤d.Periods[k]∧d.Periods[k]≤255:=(d1 _ (List.getElem_mem hk)).u8
   have hm0:=Int.emod_nonneg d.Periods[k] (show (8:Int) ≠ 0 by decide)
   have hm1:=Int.emod_lt_of_pos d.Periods[k] (show (0:Int)<8 by decide)
   have ht:(d.Periods[k] % 8).toNat<ZjJ.length:=by simp [ZjJ];omega
   refine ⟨(((k+1:Nat):Int),l++[ZjJ[(d.Periods[k] % 8).toNat]]),?_,⟨by omega,by omega,by simp;omega,fun q hq => ?_⟩,by omega⟩
   ·rw [if_pos (by simp;omega),ZfM hk,Option.bind_some,Int.tmod_eq_emod_of_nonneg hb.1,show ([4,6,8,12,3,5,10,24]:List Int)=ZjJ from rfl,Zmm hm0 ht,Option.bind_some,Zf9 (by omega) (by omega),Option.bind_some,ZbT (by omega)]
   ·rcases List.mem_append.1 hq with q1 | q1
    ·exact i3 q q1
    ·simp only [List.mem_singleton] at q1
     subst q1
     exact List.getElem_mem ht
  ·right
   refine ⟨l,?_,by omega,i3⟩
   rw [if_neg (by simp;omega)]) N (0,[]) ⟨by omega,by omega,rfl,by simp⟩ (by simp;omega)
 rw [hP,Option.bind_some]
 have hper:P.all perB=true:=List.all_eq_true.2 fun q hq=>by
  have:=Zi6 q (P2 q hq)
  exact Zhm.2 (by omega)
 obtain ⟨U,hU,U1,U2⟩:=Zfe (body:=fun x:Int × (List Zy)=>Zad N d P x.1 x.2) (fun x=>0≤x.1∧x.1≤12∧(x.2.length:Int)=x.1∧∀ u ∈ x.2,useB P u=true∧u.Port<4) (fun x=>(12 - x.1).toNat) (fun l=>l.length≤12∧∀ u ∈ l,useB P u=true∧u.Port<4) (fun x hx=>by
  obtain ⟨i,l⟩:=x
  obtain ⟨i0,i1,i2,i3⟩:=hx
  simp only at i0 i1 i2 i3
  simp only [Zad]
  by_cases c:i<(d.Uses.length:Int)∧i<12∧0<P.length
  ·left
   obtain ⟨c1,c2,c3⟩:=c
   obtain ⟨k,rfl⟩:∃ k:Nat,i=k:=⟨i.toNat,by omega⟩
   have hk:k<d.Uses.length:=by omega
   obtain ⟨b0,b1,b2,b3⟩:=d2 _ (List.getElem_mem hk)
   have b0:0≤d.Uses[k].x0∧d.Uses[k].x0≤255:=b0.u8
   have b1:0≤d.Uses[k].x1∧d.Uses[k].x1≤255:=b1.u8
   have b2:0≤d.Uses[k].x2∧d.Uses[k].x2≤255:=b2.u8
   have b3:0≤d.Uses[k].x3∧d.Uses[k].x3≤255:=b3.u8
   have s0:=Int.emod_nonneg d.Uses[k].x0 (show (P.length:Int) ≠ 0 by omega)
   have s1:=Int.emod_lt_of_pos d.Uses[k].x0 (show 0<(P.length:Int) by omega)
   have hn:(d.Uses[k].x0 % (P.length:Int)).toNat<P.length:=by omega
   obtain ⟨n,en⟩:∃ n,n=P[(d.Uses[k].x0 % (P.length:Int)).toNat]:=⟨_,rfl⟩
   have hn3:=Zi6 n (P2 n (by rw [en];exact List.getElem_mem hn))
   have f0:=Int.emod_nonneg d.Uses[k].x2 (show n ≠ 0 by omega)
   have f1:=Int.emod_lt_of_pos d.Uses[k].x2 (show 0<n by omega)
   have g0:=Int.emod_nonneg d.Uses[k].x3 (show n ≠ 0 by omega)
   have g1:=Int.emod_lt_of_pos d.Uses[k].x3 (show 0<n by omega)
   have g2:=Int.emod_nonneg (d.Uses[k].x3 % n) (show (4:Int) ≠ 0 by decide)
   have g3:=Int.emod_lt_of_pos (d.Uses[k].x3 % n) (show (0:Int)<4 by decide)
   have g4:=Int.emod_nonneg (d.Uses[k].x3 % n % 4) (show n ≠ 0 by omega)
   have g5:=Int.emod_lt_of_pos (d.Uses[k].x3 % n % 4) (show 0<n by omega)
   have p0:=Int.emod_nonneg d.Uses[k].x1 (show (4:Int) ≠ 0 by decide)
   have p1:=Int.emod_lt_of_pos d.Uses[k].x1 (show (0:Int)<4 by decide)
   refine ⟨(((k+1:Nat):Int),l++[⟨d.Uses[k].x0 % P.length,d.Uses[k].x1 % 4,d.Uses[k].x2 % n,1+d.Uses[k].x3 % n % 4 % n⟩]),?_,⟨by omega,by omega,by simp;omega,fun u hu => ?_⟩,by omega⟩
   ·rw [if_pos (by simp;omega),if_pos (by simp;omega)]
    simp only [Option.bind_some]
    rw [if_pos (by simp;omega),ZfM hk,Option.bind_some,Zb7 (by omega) (by omega),Zcy (by omega),Option.bind_some,Int.tmod_eq_emod_of_nonneg b0.1,Zmm s0 hn,Option.bind_some,← en,
     Zb7 (x:=d.Uses[k].x2) (by omega) (by omega),Zcy (by omega),Option.bind_some,Zb7 (x:=d.Uses[k].x3) (by omega) (by omega),Zcy (by omega),Option.bind_some,Zcy (by omega),Option.bind_some,
     Int.tmod_eq_emod_of_nonneg b1.1,Int.tmod_eq_emod_of_nonneg b2.1,Int.tmod_eq_emod_of_nonneg b3.1,Int.tmod_eq_emod_of_nonneg g0,Int.tmod_eq_emod_of_nonneg g2,Zb7 (x:=d.Uses[k].x1 % 4) (by omega) (by omega),Zb7 (x:=1+_) (by omega) (by omega),Zf9 (by omega) (by omega),Option.bind_some,ZbT (by omega)]
   ·rcases List.mem_append.1 hu with q1 | q1
    ·exact i3 u q1
    ·simp only [List.mem_singleton] at q1
     subst q1
     refine ⟨ZfT.2 ?_,p1⟩
     unfold perU
     simp only
     rw [ZaV hn,← en]
     omega
  ·right
   refine ⟨l,?_,by omega,i3⟩
   by_cases c1:i<(d.Uses.length:Int)
   ·rw [if_pos (by simpa using c1)]
    by_cases c2:i<12
    ·rw [if_pos (by simpa using c2),Option.bind_some,if_neg (by rw [decide_eq_true_eq];omega)]
    ·rw [if_neg (by simpa using c2),Option.bind_some,if_neg (by simp)]
   ·rw [if_neg (by simpa using c1),Option.bind_some,if_neg (by simp)]) N (0,[]) ⟨by omega,by omega,rfl,by simp⟩ (by simp;omega)
 rw [hU,Option.bind_some]
 refine ⟨_,rfl,?_,P1,U1,P2,fun u hu=>(U2 u hu).2⟩
 rw [Zj3]
 refine ⟨by show P.length≤12;omega,by show U.length≤192;omega,hper,List.all_eq_true.2 fun u hu=>(U2 u hu).1,?_⟩
 have hdv:lcmL P ∣ 120:=Zkg.2 fun q hq=>(Zi6 q (P2 q hq)).2.2
 have:=Nat.le_of_dvd (by decide) hdv
 show lcmL P≤960
 omega
theorem Zji {N:Nat} (hN:2000≤N) {p:Ze} (h:VP p) {a:List Int} (ha:∀ x ∈ a,InK .u8 x):∃ l,ZdX N p a=some l∧Zgy p l=true:=by
 have hlen:=h.len
 unfold ZdX
 obtain ⟨l,hl,l1,l2⟩:=Zfe (body:=fun x:Int × (List Int)=>ZbF N p a x.1 x.2) (fun x=>0≤x.1∧x.1≤p.Periods.length∧(x.2.length:Int)=x.1∧∀ k,k<x.2.length→offB p k (x.2.getD k 0)=true) (fun x=>(p.Periods.length - x.1).toNat) (fun l=>l.length=p.Periods.length∧∀ k,k<l.length→offB p k (l.getD k 0)=true) (fun x hx=>by
  obtain ⟨i,l⟩:=x
  obtain ⟨i0,i1,i2,i3⟩:=hx
  simp only at i0 i1 i2 i3
  simp only [ZbF]
  by_cases c:i<(p.Periods.length:Int)
  ·left
   obtain ⟨k,rfl⟩:∃ k:Nat,i=k:=⟨i.toNat,by omega⟩
   have hk:k<p.Periods.length:=by omega
   have hq:=h.per _ (List.getElem_mem hk)
   have key:∃ x,(if (decide ((k:Int)<((List.length a:Nat):Int))) then ((idx a k).bind fun e1010=>((idx p.Periods k).bind fun e1011=>((remI (w64 (e1010)) e1011).bind fun m1012=>(some m1012)))) else (some 0))=some x∧0≤x∧x<p.Periods[k]:=by
    by_cases c2:k<a.length
    ·have hb:0≤a[k]∧a[k]≤255:=(ha _ (List.getElem_mem c2)).u8
     refine ⟨a[k] % p.Periods[k],?_,Int.emod_nonneg _ (by omega),Int.emod_lt_of_pos _ (by omega)⟩
     rw [if_pos (by simpa using c2),ZfM c2,Option.bind_some,ZfM hk,Option.bind_some,Zb7 (by omega) (by omega),Zcy (by omega),Option.bind_some,Int.tmod_eq_emod_of_nonneg hb.1]
    ·exact ⟨0,by rw [if_neg (by simpa using c2)],by omega,by omega⟩
   obtain ⟨x,hx,x0,x1⟩:=key
   refine ⟨(((k+1:Nat):Int),l++[x]),?_,⟨by omega,by omega,by simp;omega,fun m hm => ?_⟩,by omega⟩
   ·rw [if_pos (by simpa using c),hx,Option.bind_some,Zf9 (by omega) (by omega),Option.bind_some,ZbT (by omega)]
   ·simp only [List.length_append,List.length_cons,List.length_nil] at hm
    by_cases e:m<l.length
    ·have:=i3 m e
     rw [ZaV e] at this
     rw [ZaV (by simp;omega),List.getElem_append_left e]
     exact this
    ·obtain rfl:m=k:=by omega
     rw [ZaV (by simp;omega),List.getElem_append_right (by omega)]
     simp only [show m - l.length=0 by omega,List.getElem_cons_zero]
     rw [Zeh]
     simp only [Int.toNat_natCast]
     rw [ZaV hk]
     omega
  ·right
   refine ⟨l,?_,by omega,i3⟩
   rw [if_neg (by simpa using c)]) N (0,[]) ⟨by omega,by simp,rfl,by simp⟩ (by simp;omega)
 rw [hl,Option.bind_some]
 refine ⟨l,rfl,?_⟩
 unfold Zgy
 rw [Bool.and_eq_true,decide_eq_true_eq,ZdB]
 exact ⟨l1,l2⟩
set_option maxRecDepth 100000 in
theorem Zlq (n:Nat):Zdm (n+300)=some true:=by kernel_rfl
theorem works24 {N:Nat} (hN:2000≤N):Zdm N=some true:=by
 obtain ⟨n,rfl⟩:∃ n,N=n+300:=⟨N - 300,by omega⟩
 exact Zlq n
end Go.Sh

set_option linter.unusedVariables false
set_option linter.unusedSimpArgs false
namespace Go.Sh
open Go Go.Eng
theorem Zkw (n:Nat) (p:Nat→Bool):allB (n+1) p=(allB n p&&p n):=by
 unfold allB
 rw [List.range_succ,List.all_append]
 simp
def Zik (p:Ze) (l:List Int):Bool:=allB l.length fun i=>allB l.length fun j => !(Zdq p i (l.getD i 0) j (l.getD j 0))
theorem ZfW {p:Ze} (h:VP p) (l:List Int):Zjb p l=Zik p l:=by
 unfold Zjb Zik
 rw [Bool.eq_iff_iff]
 simp only [ZdB]
 constructor
 ·intro q i hi j hj
  rcases Nat.le_total j i with c | c
  ·exact q i hi j (by omega)
  ·have:=q j hj i (by omega)
   rwa [ZgB h] at this
 ·intro q i hi j hj
  exact q i hi j (by omega)
def Zc0 (p:Ze) (l:List Int) (by_:Int) (n:Nat):List Int:=(List.range n).map fun k=>(l.getD k 0+by_) % (p.Periods.getD k 0)
theorem Zgz {p:Ze} {l:List Int} {by_:Int} {n k:Nat} (hk:k<n):(Zc0 p l by_ n).getD k 0=(l.getD k 0+by_) % (p.Periods.getD k 0):=by
 rw [ZaV (by simpa [Zc0] using hk)]
 simp [Zc0]
theorem Zme {p:Ze} (h:VP p) {l:List Int} (ho:Zgy p l=true) (by_:Int):Zgy p (Zc0 p l by_ l.length)=true:=by
 obtain ⟨h1,h2⟩:=Zhn ho
 unfold Zgy
 rw [Bool.and_eq_true,decide_eq_true_eq,ZdB]
 have hl:(Zc0 p l by_ l.length).length=l.length:=by simp [Zc0]
 refine ⟨by omega,fun k hk => ?_⟩
 rw [hl] at hk
 rw [Zgz hk,Zeh]
 simp only [Int.toNat_natCast]
 rw [ZaV (show k<p.Periods.length by omega)]
 have:=h.per _ (List.getElem_mem (show k<p.Periods.length by omega))
 have a:=Int.emod_nonneg (l.getD k 0+by_) (show p.Periods[k] ≠ 0 by omega)
 have b:=Int.emod_lt_of_pos (l.getD k 0+by_) (show 0<p.Periods[k] by omega)
 omega
theorem ZhH {p:Ze} (h:VP p) {u:Zy} (hu:u ∈ p.Uses) {i:Nat} (hi:u.Stream=(i:Int)) (x by_:Int):Zdg p u ((x+by_) % p.Periods.getD i 0)=shift (Zdg p u x) by_:=by
 have e:perU p.Periods u=p.Periods.getD i 0:=by unfold perU;rw [hi];simp
 unfold Zdg shift
 simp only [← e]
 congr 1
 rw [Int.emod_add_emod,Int.add_emod_emod,Int.add_assoc]
theorem ZkL {p:Ze} (h:VP p) (i j:Nat) (a b by_:Int):Zdq p i ((a+by_) % p.Periods.getD i 0) j ((b+by_) % p.Periods.getD j 0)=Zdq p i a j b:=by
 unfold Zdq
 congr 1
 refine Zdf fun k hk=>Zdf fun m hm => ?_
 congr 1
 unfold hitB
 rw [ZaV hk,ZaV hm,Bool.eq_iff_iff]
 simp only [Bool.and_eq_true,decide_eq_true_eq,beq_iff_eq,Bool.not_eq_true',decide_eq_false_iff_not]
 refine and_congr_right fun _=>and_congr_right fun c=>and_congr_right fun d=>and_congr_right fun _ => ?_
 rw [ZhH h (List.getElem_mem hk) c,ZhH h (List.getElem_mem hm) d,Zl7 (h.vspan (List.getElem_mem hk) a) (h.vspan (List.getElem_mem hm) b)]
theorem Zkr {p:Ze} (h:VP p) (l:List Int) (by_:Int):Zik p (Zc0 p l by_ l.length)=Zik p l:=by
 have hl:(Zc0 p l by_ l.length).length=l.length:=by simp [Zc0]
 unfold Zik
 rw [hl]
 refine Zdf fun i hi=>Zdf fun j hj => ?_
 rw [Zgz hi,Zgz hj,ZkL h]
theorem Zg5 {p:Ze} (hp:ZhS p=true) {l:List Int} (ho:Zgy p l=true) {i j:Nat} (hi:i<l.length) (hj:j<l.length):Zf5 p i (l.getD i 0) j (l.getD j 0)=(Zdq p i (l.getD i 0) j (l.getD j 0),0):=by
 obtain ⟨h1,h2⟩:=Zhn ho
 unfold Zf5
 rw [if_pos hp,if_pos]
 unfold argB
 rw [h2 i hi,h2 j hj]
 simp only [Bool.true_and,Bool.not_eq_true',Bool.and_eq_false_iff,decide_eq_false_iff_not]
 by_cases c:(i:Int)=j
 ·right
  have:i=j:=by omega
  subst this
  simp
 ·left;exact c
def Zjw (p:Ze) (l:List Int) (k:Nat):Bool:=allB k fun i=>allB l.length fun j => !(Zdq p i (l.getD i 0) j (l.getD j 0))
def ZkF (p:Ze) (l:List Int) (k m:Nat):Bool:=allB m fun j => !(Zdq p k (l.getD k 0) j (l.getD j 0))
theorem ZlO (p:Ze) (l:List Int) (k:Nat):Zjw p l (k+1)=(Zjw p l k&&ZkF p l k l.length):=Zkw _ _
theorem Zlu (p:Ze) (l:List Int) (k m:Nat):ZkF p l k (m+1)=(ZkF p l k m && !(Zdq p k (l.getD k 0) m (l.getD m 0))):=Zkw _ _
theorem planMoves_true (d:ZaM) (some_:List Int) (by_:Int) (hd:ZdQ d) (hs:some_.length≤maxLen∧∀ x ∈ some_,InK .u8 x) (hby:InK .u8 by_):∃ N,Zci N d some_ by_=some true:=by
 refine ⟨2000,?_⟩
 have hN:2000≤2000:=Nat.le_refl _
 obtain ⟨p,hp,gp⟩:=Zev hN hd
 have h:=VP.of gp.prob
 obtain ⟨l,hl,ol⟩:=Zji hN h hs.2
 obtain ⟨h1,h2⟩:=Zhn ol
 have hlen:=gp.len
 have hby:=hby.u8
 unfold Zci
 rw [works24 hN,Option.bind_some]
 simp only [Bool.not_true,Bool.false_eq_true,if_false]
 rw [hp,Option.bind_some,hl,Option.bind_some]
 obtain ⟨r,hr,er⟩:=Zfe (body:=fun x:Bool × Int × (List Int)=>Zaz 2000 by_ p l x.1 x.2.1 x.2.2)
  (fun x=>∃ k:Nat,x.2.1=k∧k≤l.length∧x.1=Zjw p l k∧x.2.2=Zc0 p l by_ k) (fun x=>(l.length - x.2.1).toNat)
  (fun r=>r = .inl (Zik p l,Zc0 p l by_ l.length)) (fun x hx=>by
   obtain ⟨b,i,m⟩:=x
   obtain ⟨k,k1,k2,k3,k4⟩:=hx
   simp only at k1 k3 k4
   subst k1 k3 k4
   simp only [Zaz]
   by_cases c:k<l.length
   ·left
    have hpk:=h.per _ (List.getElem_mem (show k<p.Periods.length by omega))
    have b1:=Zka h (h2 k c)
    rw [ZaV c] at b1
    have inner:=Zfe (body:=fun x:Bool × Int=>Zay 2000 p l (k:Int) x.1 x.2)
     (fun x=>∃ m:Nat,x.2=m∧m≤l.length∧x.1=(Zjw p l k&&ZkF p l k m)) (fun x=>(l.length - x.2).toNat)
     (fun r=>r = .inl (Zjw p l k&&ZkF p l k l.length)) (fun x hx=>by
      obtain ⟨b,j⟩:=x
      obtain ⟨m,m1,m2,m3⟩:=hx
      simp only at m1 m3
      subst m1 m3
      simp only [Zay]
      by_cases c2:m<l.length
      ·left
       refine ⟨(Zjw p l k&&ZkF p l k (m+1),((m+1:Nat):Int)),?_,⟨m+1,rfl,by omega,rfl⟩,by simp;omega⟩
       have e1:=Zg5 gp.prob ol c c2
       have e2:=Zg5 gp.prob ol c2 c
       rw [ZaV c,ZaV c2] at e1 e2
       rw [if_pos (by simpa using c2),ZfM c,ZfM c2,ZbT (by omega)]
       simp only [Option.bind_some]
       rw [Zeq hN,Zeq hN,e1,e2]
       simp only [Option.bind_some]
       rw [ZgB h (m:Int) l[m] (k:Int) l[k]]
       simp only [bne_self_eq_false,Bool.or_self,Bool.false_eq_true,if_false,Bool.or_false]
       rw [Zlu,ZaV c,ZaV c2,Bool.and_assoc]
      ·right
       obtain rfl:m=l.length:=by omega
       exact ⟨_,by rw [if_neg (by simp)],rfl⟩) 2000 (Zjw p l k,0) ⟨0,rfl,by omega,by simp [ZkF,allB]⟩ (by simp;omega)
    obtain ⟨r,hr,er⟩:=inner
    refine ⟨(Zjw p l (k+1),((k+1:Nat):Int),Zc0 p l by_ (k+1)),?_,⟨k+1,rfl,by omega,rfl,rfl⟩,by simp;omega⟩
    rw [if_pos (by simpa using c),ZfM c,Option.bind_some,ZfM (show k<p.Periods.length by omega),Option.bind_some,Zb7 (x:=by_) (by omega) (by omega),Zb7 (by omega) (by omega),Zcy (by omega),Option.bind_some,Int.tmod_eq_emod_of_nonneg (by omega)]
    rw [Zf9 (by simp [Zc0];omega) (by omega),Option.bind_some,hr,Option.bind_some,er]
    simp only
    rw [ZbT (by omega),ZlO]
    congr 4
    unfold Zc0
    rw [List.range_succ,List.map_append]
    simp only [List.map_cons,List.map_nil]
    rw [ZaV c,ZaV (show k<p.Periods.length by omega)]
   ·right
    obtain rfl:k=l.length:=by omega
    exact ⟨.inl (Zik p l,Zc0 p l by_ l.length),by rw [if_neg (by simp)];rfl,rfl⟩) 2000 (true,0,[]) ⟨0,rfl,by omega,by simp [Zjw,allB],by simp [Zc0]⟩ (by simp;omega)
 rw [hr,Option.bind_some,er]
 simp only
 rw [ZgV hN,ZgV hN,Option.bind_some,Option.bind_some]
 unfold fitsS
 rw [if_pos gp.prob,if_pos ol,if_pos gp.prob,if_pos (Zme h ol by_),ZfW h,ZfW h,Zkr h]
 simp
end Go.Sh

