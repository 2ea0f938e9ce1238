/- Part of the proof; written by a program out of the texts in wip/. -/
import Derived.Test.YtmplmekdilmdgaaStreamHopsTop10
set_option linter.unusedVariables false
set_option linter.unusedSimpArgs false
namespace Go.Sh
open Go Go.Eng
section
variable {N:Nat} {t:Zi} {u:ZE} {s:Zm}
theorem ite_ex {α:Type} {p:Prop} [Decidable p] {a b:Option α} (ha:∃ j,a=some j) (hb:∃ j,b=some j):∃ j,(if p then a else b)=some j:=by
 split
 ·exact ha
 ·exact hb
theorem Zmh {c:Zbj} (hc:Zev c) {l:List Zm} (h:Cs N c t u l) (hN:200≤N):∃ a,Zb7 N c t=some a∧a.x0=l∧a.x1.length=l.length:=by
 obtain ⟨_,_,_,hAt,_⟩:=hc
 obtain ⟨a0,a1⟩:=Zdm hAt
 have h6:=h.sl.len
 unfold Zb7
 rw [h.str,Option.bind_some,ZdM (by simp;omega) (by omega),List.nil_append,Option.bind_some]
 have key:∀ X:Option (List Zm),(∃ m,X=some m∧m.length=l.length)→∃ a,(X.bind fun j507=>some (Zab.mk l j507))=some a∧a.x0=l∧a.x1.length=l.length:=by
  rintro X ⟨m,rfl,hm⟩
  exact ⟨_,rfl,rfl,hm⟩
 apply key
 by_cases h0:0<l.length
 ·rw [if_pos (by simp only [decide_eq_true_eq];omega),ZV (by omega) (by omega)]
  obtain ⟨m,m1,m2,m3⟩:=ZdB (v:=c.At) (b:=((List.length l:Nat):Int)) a0 (by omega)
  rw [m1,Option.bind_some]
  obtain ⟨k,rfl⟩:∃ k:Nat,m=k:=⟨m.toNat,by omega⟩
  have hk:k<l.length:=by omega
  rw [ZcH hk,Option.bind_some]
  have fin:∀ X:Option (Int × Int × Int × Int × Int × Int × Int × Int × Int × (List (List Int))),(∃ j,X=some j)→∃ m,(X.bind fun j1018=>(some l[k]).bind fun e1056=>some (List.set l (Int.toNat (k:Int)) (Zm.mk j1018.1 j1018.2.1 j1018.2.2.1 j1018.2.2.2.1 j1018.2.2.2.2.1 j1018.2.2.2.2.2.1 (Zbv.mk j1018.2.2.2.2.2.2.1 j1018.2.2.2.2.2.2.2.1) j1018.2.2.2.2.2.2.2.2.1 j1018.2.2.2.2.2.2.2.2.2)))=some m∧m.length=l.length:=by
   rintro X ⟨j,rfl⟩
   exact ⟨_,rfl,by simp⟩
  apply fin
  have ok:=fun (q:Nat) (hq:q<l.length)=>by have:=(h.sl.ok q hq).1;rw [Zdq hq] at this;exact this
  have sk:=ok k hk
  have s0:=ok 0 h0
  have rk:=Zga sk (k:=0) (by omega) (by have:=(Zd2 sk).1.1;omega)
  have r0:=Zga s0 (k:=0) (by omega) (by have:=(Zd2 s0).1.1;omega)
  have lk2:=(Zd2 sk).1.2
  have pk:=Zci rk.2
  have i0:idx l 0=some l[0]:=ZcH (k:=0) h0
  rw [rk.1,i0]
  simp only [Option.bind_some]
  rw [r0.1]
  simp only [Option.bind_some]
  rw [ZdM (l:=[]) (by simp;omega) (by omega)]
  simp only [Option.bind_some,List.nil_append]
  rw [ZdM (m:=[ZaB l[k] 0]) (by simp;omega) (by omega),ZdM (m:=[ZaB l[0] 0]) (by simp;omega) (by omega)]
  simp only [Option.bind_some]
  have sb:∃ q,subI (ZaB l[k] 0) 1 ((List.length (ZaB l[k] 0):Nat):Int)=some q:=by
   unfold subI
   rw [if_pos ⟨by omega,by omega,by omega⟩]
   exact ⟨_,rfl⟩
  obtain ⟨q,sb⟩:=sb
  rw [sb]
  simp only [Option.bind_some]
  repeat refine ite_ex ⟨_,rfl⟩ ?_
  exact ⟨_,rfl⟩
 ·rw [if_neg (by simp only [decide_eq_true_eq];omega)]
  exact ⟨_,rfl,rfl⟩
end
end Go.Sh

set_option linter.unusedVariables false
set_option linter.unusedSimpArgs false
namespace Go.Sh
open Go Go.Eng
section
variable {N:Nat} {t:Zi} {u:ZE} {s:Zm}
theorem ZfB (k:Int) (hN:200≤N):ZdP N t u s k=some (if Zeh t then (if ZdI u then (if Za5 t s then (if s.Class=7∧0≤k∧k<s.Routes.length then 0 else 2) else 321) else 320) else 260):=by
 unfold ZdP
 rw [Zkb (by omega),Option.bind_some]
 cases hT:Zeh t with
 | false=>rfl
 | true =>
  rw [Zj8,Option.bind_some]
  cases hU:ZdI u with
  | false=>rfl
  | true =>
   rw [ZgS (Zbe.1 hT) s hN,Option.bind_some]
   cases hS:Za5 t s with
   | false=>rfl
   | true =>
    simp only [Bool.not_true,Bool.false_eq_true,if_false,if_true]
    by_cases h:s.Class=7∧0≤k∧k<(s.Routes.length:Int)
    ·rw [if_pos h,if_neg]
     simp only [Bool.or_eq_true,decide_eq_true_eq,bne_iff_ne,ne_eq,h.1,not_true,false_or]
     omega
    ·rw [if_neg h,if_pos]
     simp only [Bool.or_eq_true,decide_eq_true_eq,bne_iff_ne,ne_eq]
     omega
theorem up_loop {G X:Int} (hG:1≤G) (hG2:G≤10000) (hX:0≤X) (hX2:X≤25000000) (hN:30000000≤N) {body:Int→Option (Int ⊕ Int)} (hb:∀ x,body x=if decide (x<X)=true then some (.inl (w64 (x+G))) else some (.inr x)) :
  Zac body N 0=some ((X+G - 1) / G * G):=by
 obtain ⟨o,o1,o2⟩:=Ze5 (body:=body) (I:=fun x:Int=>0≤x∧x<X+G∧x % G=0) (μ:=fun x=>(X+G - x).toNat) (Post:=fun r:Int=>X≤r∧r<X+G∧r % G=0) (by
  rintro x ⟨x0,x1,x2⟩
  rw [hb]
  by_cases h:x<X
  ·left
   refine ⟨_,by rw [if_pos (by simpa using h),ZV (by omega) (by omega)],⟨by omega,by omega,?_⟩,by omega⟩
   rw [Int.add_emod_right];exact x2
  ·right
   exact ⟨x,by rw [if_neg (by simpa using h)],by omega,x1,x2⟩) N 0 ⟨by omega,by omega,by simp⟩ (by omega)
 rw [o1]
 obtain ⟨p1,p2,p3⟩:=o2
 congr 1
 have e1:=Int.mul_ediv_add_emod (X+G - 1) G
 have e2:=Int.emod_nonneg (X+G - 1) (show G ≠ 0 by omega)
 have e3:=Int.emod_lt_of_pos (X+G - 1) (show 0<G by omega)
 have e4:=Int.mul_ediv_add_emod o G
 rw [Int.mul_comm] at e1 e4
 have hq:o / G=(X+G - 1) / G:=by
  generalize (X+G - 1) / G=q at *
  generalize o / G=p at *
  rcases Int.lt_trichotomy p q with h | h | h
  ·have:(p+1) * G≤q * G:=Int.mul_le_mul_of_nonneg_right (by omega) (by omega)
   rw [Int.add_mul] at this
   omega
  ·exact h
  ·have:(q+1) * G≤p * G:=Int.mul_le_mul_of_nonneg_right (by omega) (by omega)
   rw [Int.add_mul] at this
   omega
 rw [← hq]
 omega
theorem ZlN (g:Good t) (hu:Zls u) (hs:Ziy s) {r:List Int} (hv:ZaM t r=true) (hN:30000000≤N):Zfq N t u s r=some ((List.range r.length).map (ZP t u s r)):=by
 obtain ⟨h1,h8,hp⟩:=Zci hv
 have hL:t.Links.length≤1000:=by have:=g.l24;omega
 unfold Zfq
 rw [Zli h1,Option.bind_some,Option.bind_some,Zii hL (hp 0 (by omega)),Option.bind_some]
 have l0:=Zjw g hs (hp 0 (by omega))
 rw [ZV (x:=s.Size * (plk t (at0 r 0)).Per) (by omega) (by omega)]
 have hstep:∀ k:Nat,1≤k→k<r.length→Zb3 N t u s r (k:Int) ((List.range k).map (ZP t u s r))=some (.inl (((k+1:Nat):Int),(List.range (k+1)).map (ZP t u s r))):=by
  intro k k1 hk
  obtain ⟨j,rfl⟩:∃ j,k=j+1:=⟨k - 1,by omega⟩
  unfold Zb3
  have hb:=Ze6 g hu hs hp j (by omega)
  obtain ⟨n1,n2,n3,n4,n5,n6⟩:=Zpa g hu hs hp hk
  obtain ⟨b1,b2,b3,b4⟩:=Zkw g hu hs hp h8 (show j<r.length by omega)
  obtain ⟨_,_,d1,d2⟩:=Zez g hb.port
  have lo1:=hb.long1;have lo2:=hb.long2
  have s1:=hu.s1;have s2:=hu.s2;have g1:=hu.g1;have g2:=hu.g2;have p1:=hu.p1;have p2:=hu.p2
  have x3:idx ((List.range (j+1)).map (ZP t u s r)) (w64 (((j+1:Nat):Int) - 1))=some (ZP t u s r j):=by
   rw [ZV (by omega) (by omega),show ((j+1:Nat):Int) - 1=(j:Int) by omega,Znb _ (by omega)]
  rw [if_pos (by simp;omega),x3,Option.bind_some,ZgX hL hb.port,Option.bind_some,ZcH hk,Option.bind_some,Option.bind_some,← Zg8 hk,Zii hL (hp _ hk),Option.bind_some]
  have lk:=Zjw g hs (hp _ hk)
  have htold:(ZP t u s r j).Open+(ZP t u s r j).Long+(plk t (ZP t u s r j).Port).Delay+u.Proc=Zaz t u (ZP t u s r j):=rfl
  have w1:w64 ((ZP t u s r j).Open+(ZP t u s r j).Long)=(ZP t u s r j).Open+(ZP t u s r j).Long:=ZV (by omega) (by omega)
  have w2:w64 ((ZP t u s r j).Open+(ZP t u s r j).Long+(plk t (ZP t u s r j).Port).Delay)=(ZP t u s r j).Open+(ZP t u s r j).Long+(plk t (ZP t u s r j).Port).Delay:=ZV (by omega) (by omega)
  have w3:w64 (Zaz t u (ZP t u s r j))=Zaz t u (ZP t u s r j):=ZV (by omega) (by omega)
  have w4:w64 (2 * u.Slack)=2 * u.Slack:=ZV (by omega) (by omega)
  have w5:w64 (Zaz t u (ZP t u s r j)+2 * u.Slack)=Zaz t u (ZP t u s r j)+2 * u.Slack:=ZV (by omega) (by omega)
  have w6:w64 (Zaz t u (ZP t u s r j) - 2 * u.Slack)=Zaz t u (ZP t u s r j) - 2 * u.Slack:=ZV (by omega) (by omega)
  have hup:=up_loop (N:=N) (G:=u.Grid) (X:=Zaz t u (ZP t u s r j)+2 * u.Slack) g1 g2 (by omega) (by omega) hN (body:=fun x:Int=>Zdp N u (ZP t u s r j) (plk t (ZP t u s r j).Port).Delay x) (fun x=>by
   simp only [Zdp]
   rw [w1,w2,htold,w3,w4,w5])
  rw [hup,Option.bind_some,w1,w2,htold,w3,w4,w5,w6,ZV (x:=s.Size * (plk t (at0 r (j+1))).Per) (by omega) (by omega),ZdM (by simp;omega) (by omega),Option.bind_some,ZW (by omega)]
  have e:[ZJ.mk (at0 r (j+1)) (Zaz t u (ZP t u s r j) - 2 * u.Slack) (Zaz t u (ZP t u s r j)+2 * u.Slack) ((Zaz t u (ZP t u s r j)+2 * u.Slack+u.Grid - 1) / u.Grid * u.Grid) (s.Size * (plk t (at0 r (j+1))).Per)]=[j+1].map (ZP t u s r):=rfl
  rw [e,← List.map_append,← List.range_succ]
 have key:∀ (m N' k:Nat),r.length - k=m→1≤k→k≤r.length→m<N'→Zac (fun x:Int × (List ZJ)=>Zb3 N t u s r x.1 x.2) N' ((k:Int),(List.range k).map (ZP t u s r))=some ((List.range r.length).map (ZP t u s r)):=by
  intro m
  induction m with
  | zero =>
   intro N' k e0 e1 e2 e3
   obtain rfl:k=r.length:=by omega
   cases N' with
   | zero=>omega
   | succ N' =>
    rw [Zbq (r:=(List.range r.length).map (ZP t u s r))]
    show Zb3 N t u s r ((r.length:Nat):Int) _=_
    unfold Zb3
    rw [if_neg (by simp)]
  | succ m ih =>
   intro N' k e0 e1 e2 e3
   cases N' with
   | zero=>omega
   | succ N' =>
    rw [ZcS (y:=(((k+1:Nat):Int),(List.range (k+1)).map (ZP t u s r))) (hstep k e1 (by omega))]
    exact ih N' (k+1) (by omega) (by omega) (by omega) (by omega)
 have:=key (r.length - 1) N 1 rfl (Nat.le_refl _) h1 (by omega)
 have e:(1,[ZJ.mk (at0 r 0) 0 0 0 (s.Size * (plk t (at0 r 0)).Per)])=(((1:Nat):Int),(List.range 1).map (ZP t u s r)):=rfl
 rw [e,this]
 rfl
theorem Zl7 (l:List ZJ) (h:l.length≤100) (hN:200≤N):Z7 N l l=some true:=by
 unfold Z7
 rw [if_neg (by simp)]
 have:=Zh2 (n:=l.length) (body:=fun x:Int=>Zbg N l l x) (fin:=.inl ()) 0 (fun k _ hk=>by
  simp only [Zbg]
  rw [if_pos (by simp;omega),ZcH hk,Option.bind_some,Option.bind_some,if_neg (by simp),ZW (by omega)]) (by
  simp only [Zbg]
  rw [if_neg (by simp)]) (Nat.zero_le _) (N:=N) (by omega)
 rw [show (0:Int)=((0:Nat):Int) from rfl,this]
 rfl
theorem ZeB (k:Int) (hN:30000000≤N):∃ a b,Zaa N t u s k=some a∧ZaX N t u s k=some a∧Zah N t u s k=some b∧ZaW N t u s k=some b∧Z7 N a.1 a.1=some true:=by
 have hN2:200≤N:=by omega
 by_cases hok:Zeh t=true∧ZdI u=true∧Za5 t s=true∧s.Class=7∧0≤k∧k<(s.Routes.length:Int)
 ·obtain ⟨hT,hU,hS,hc,h0,hk⟩:=hok
  obtain ⟨e1,e2⟩:=Zga hS h0 hk
  obtain ⟨h1,h8,hp⟩:=Zci e2
  have g:=Zbe.1 hT
  have hu:=ZeH hU
  have hs:=Ze0 hS
  have hL:t.Links.length≤1000:=by have:=g.l24;omega
  have hall:=ZlN g hu hs e2 hN
  refine ⟨_,_,ZfR hT hU hS hc h0 hk hN2,?_,ZfQ hT hU hS hc h0 hk hN2,?_,Zl7 _ (by simp;omega) hN2⟩
  ·unfold ZaX
   rw [ZfB k hN2,hT,hU,hS,if_pos rfl,if_pos rfl,if_pos rfl,if_pos ⟨hc,h0,hk⟩,Option.bind_some,if_neg (by decide),e1,Option.bind_some,hall]
   rfl
  ·unfold ZaW Zhn
   rw [ZfB k hN2,hT,hU,hS,if_pos rfl,if_pos rfl,if_pos rfl,if_pos ⟨hc,h0,hk⟩,Option.bind_some,if_neg (by decide),e1,Option.bind_some,hall,Option.bind_some]
   have hj:(ZaB s k).length - 1<(ZaB s k).length:=by omega
   have hb:=Ze6 g hu hs hp _ hj
   obtain ⟨b1,b2,b3,b4⟩:=Zkw g hu hs hp h8 hj
   obtain ⟨_,_,d1,d2⟩:=Zez g hb.port
   have lo1:=hb.long1;have lo2:=hb.long2
   have p1:=hu.p1;have p2:=hu.p2
   have x3:idx ((List.range (ZaB s k).length).map (ZP t u s (ZaB s k))) (w64 (((List.length ((List.range (ZaB s k).length).map (ZP t u s (ZaB s k))):Nat):Int) - 1))=some (ZP t u s (ZaB s k) ((ZaB s k).length - 1)):=by
    rw [List.length_map,List.length_range,ZV (by omega) (by omega),show (((ZaB s k).length:Nat):Int) - 1=(((ZaB s k).length - 1:Nat):Int) by omega,Znb _ hj]
   rw [x3,Option.bind_some,ZgX hL hb.port,Option.bind_some]
   have htold:(ZP t u s (ZaB s k) ((ZaB s k).length - 1)).Open+(ZP t u s (ZaB s k) ((ZaB s k).length - 1)).Long+(plk t (ZP t u s (ZaB s k) ((ZaB s k).length - 1)).Port).Delay+u.Proc=Zaz t u (ZP t u s (ZaB s k) ((ZaB s k).length - 1)):=rfl
   rw [ZV (x:=(ZP t u s (ZaB s k) ((ZaB s k).length - 1)).Open+(ZP t u s (ZaB s k) ((ZaB s k).length - 1)).Long) (by omega) (by omega),ZV (x:=(ZP t u s (ZaB s k) ((ZaB s k).length - 1)).Open+(ZP t u s (ZaB s k) ((ZaB s k).length - 1)).Long+_) (by omega) (by omega),htold,ZV (by omega) (by omega)]
   rfl
 ·have hd:∃ e,Zdo N t u s k=some e∧ZdP N t u s k=some e∧e ≠ 0:=by
   refine ⟨_,Zes k hN2,ZfB k hN2,?_⟩
   cases hT:Zeh t with
   | false=>simp
   | true =>
    cases hU:ZdI u with
    | false=>simp
    | true =>
     cases hS:Za5 t s with
     | false=>simp
     | true =>
      rw [if_pos rfl,if_pos rfl,if_pos rfl,if_neg (fun h=>hok ⟨hT,hU,hS,h⟩)]
      decide
  obtain ⟨e,e1,e2,e3⟩:=hd
  have hne:(e != 0)=true:=by simpa using e3
  obtain ⟨q1,q2⟩:=Zf1 e1 e3
  refine ⟨_,_,q1,?_,q2,?_,Zl7 [] (by simp) hN2⟩
  ·unfold ZaX;rw [e2,Option.bind_some,hne];rfl
  ·unfold ZaW;rw [e2,Option.bind_some,hne];rfl
theorem Zop {c:Zbj} {k:Int} {a:Zab} (hu:Zb1 N c.U.x0 c.U.x1 c.U.x2=some u) {i:Nat} (hi:i<a.x0.length) (hi2:i<1000) (hN:30000000≤N):Zav N c k t a (i:Int)=some (.inl ((i+1:Nat):Int)):=by
 obtain ⟨a1,b1,p1,p2,p3,p4,p5⟩:=ZeB (t:=t) (u:=c.Setup) (s:=a.x0[i]) k hN
 obtain ⟨a2,b2,q1,q2,q3,q4,q5⟩:=ZeB (t:=t) (u:=c.Setup) (s:=a.x0[i]) 0 hN
 obtain ⟨a3,b3,r1,r2,r3,r4,r5⟩:=ZeB (t:=t) (u:=c.Setup) (s:=a.x0[i]) 1 hN
 obtain ⟨a4,b4,s1,s2,s3,s4,s5⟩:=ZeB (t:=t) (u:=u) (s:=a.x0[i]) k hN
 obtain ⟨a5,b5,t1,t2,t3,t4,t5⟩:=ZeB (t:=t) (u:=u) (s:=a.x0[i]) 0 hN
 obtain ⟨a6,b6,u1,u2,u3,u4,u5⟩:=ZeB (t:=t) (u:=u) (s:=a.x0[i]) 1 hN
 unfold Zav
 rw [if_pos (by simp;omega),hu]
 simp only [ZcH hi,Option.bind_some,p1,p2,p3,p4,p5,q1,q2,q3,q4,q5,r1,r2,r3,r4,r5,s1,s2,s3,s4,s5,t1,t2,t3,t4,t5,u1,u2,u3,u4,u5,bne_self_eq_false,Bool.false_eq_true,if_false,Bool.not_true]
 rw [ZW (by omega)]
theorem hops_L2 {c:Zbj} {k:Int} {a:Zab} (hu:Zb1 N c.U.x0 c.U.x1 c.U.x2=some u) {i:Nat} (hi:i<a.x1.length) (hi2:i<1000) (hN:30000000≤N):ZaG N c k t a (i:Int)=some (.inl ((i+1:Nat):Int)) :=
 Zop (a:=⟨a.x1,a.x1⟩) hu hi hi2 hN
theorem StreamHops_law (c:Zbj) (k:Int) (hc:Zev c) (_:InK .i64 k):∃ N,Zdh N c k=some true:=by
 refine ⟨30000000+c.L.length,?_⟩
 generalize hN:30000000+c.L.length=N
 have hN2:200≤N:=by omega
 obtain ⟨t,u,l,h⟩:=case_ok (N:=N) hc (by omega)
 obtain ⟨a,a1,a2,a3⟩:=Zmh hc h hN2
 have h6:=h.sl.len
 have z0:a.x0.length≤100:=by rw [a2];omega
 have z1:a.x1.length≤100:=by omega
 have e1:Zac (fun x:Int=>Zav N c k t a x) N 0=some (.inl ()):=Zh2 (n:=a.x0.length) (body:=fun x:Int=>Zav N c k t a x) (fin:=.inl ()) 0 (fun i _ hi=>Zop h.setup hi (by omega) (by omega)) (by simp only [Zav];rw [if_neg (by simp)]) (Nat.zero_le _) (by omega)
 have e2:Zac (fun x:Int=>ZaG N c k t a x) N 0=some (.inl ()):=Zh2 (n:=a.x1.length) (body:=fun x:Int=>ZaG N c k t a x) (fin:=.inl ()) 0 (fun i _ hi=>hops_L2 h.setup hi (by omega) (by omega)) (by simp only [ZaG];rw [if_neg (by simp)]) (Nat.zero_le _) (by omega)
 unfold Zdh
 rw [h.topo,Option.bind_some,a1,Option.bind_some,e1,Option.bind_some]
 simp only
 rw [e2,Option.bind_some]
 simp only
 rw [works22 hN2]
 rfl
end
end Go.Sh

