/- Part of the proof; written by a program out of the texts in wip/. -/
import Derived.Test.YtmplmekdilmdgaaStreamArrivesStr1
set_option linter.unusedVariables false
set_option linter.unusedSimpArgs false
namespace Go.Sh
open Go Go.Eng
theorem ZlV {κ υ:Type} [DecidableEq κ] (l:List (κ × υ)) (x y:κ) (v z:υ):Zkt (Zh2 l x v) y z=if y=x then v else Zkt l y z:=by
 induction l with
 | nil =>
  unfold Zkt ZlU
  simp only [Zh2,List.find?_cons,List.find?_nil]
  by_cases e:x=y
  ·subst e;simp
  ·simp [e,Ne.symm e]
 | cons p r ih =>
  unfold Zkt ZlU at ih ⊢
  simp only [Zh2]
  by_cases e:p.1=x
  ·subst e
   simp only [if_true,List.find?_cons]
   by_cases e:p.1=y
   ·subst e;simp
   ·simp [e,Ne.symm e]
  ·simp only [e,if_false,List.find?_cons]
   by_cases e2:p.1=y
   ·subst e2;simp [e]
   ·simp only [e2,decide_false]
    exact ih
structure ZkG (u:ZL):Prop where
 g1:1≤u.Grid
 g2:u.Grid≤10000
 s1:0≤u.Slack
 s2:u.Slack≤1000
 p1:0≤u.Proc
 p2:u.Proc≤10000
theorem Zd8 {u:ZL} (h:ZeO u=true):ZkG u:=by
 simp only [ZeO,inB,Bool.and_eq_true,decide_eq_true_eq] at h
 obtain ⟨⟨a,b⟩,⟨c,d⟩,⟨e,f⟩,_⟩:=h
 exact ⟨a,b,c,d,e,f⟩
def Zaz (t:Ze) (u:ZL) (h:ZQ):Int:=h.Open+h.Long+(plk t h.Port).Delay+u.Proc
def hop0 (t:Ze) (s:Zh) (r:List Int):ZQ:=⟨at0 r 0,0,0,0,s.Size * (plk t (at0 r 0)).Per⟩
def Zi3 (u:ZL) (x:Int):Int:=(x+u.Grid - 1) / u.Grid * u.Grid
def hopN (t:Ze) (u:ZL) (s:Zh) (h:ZQ) (p:Int):ZQ :=
 ⟨p,Zaz t u h - 2 * u.Slack,Zaz t u h+2 * u.Slack,Zi3 u (Zaz t u h+2 * u.Slack),s.Size * (plk t p).Per⟩
def ZO (t:Ze) (u:ZL) (s:Zh) (r:List Int):Nat→ZQ
 | 0=>hop0 t s r
 | k+1=>hopN t u s (ZO t u s r k) (at0 r (k+1))
theorem ZkA {u:ZL} (h:ZkG u) {x:Int} (hx:0≤x):x≤Zi3 u x∧Zi3 u x<x+u.Grid∧Zi3 u x % u.Grid=0:=by
 unfold Zi3
 have hg:=h.g1
 have e:=Int.mul_ediv_add_emod (x+u.Grid - 1) u.Grid
 have e1:=Int.emod_nonneg (x+u.Grid - 1) (show u.Grid ≠ 0 by omega)
 have e2:=Int.emod_lt_of_pos (x+u.Grid - 1) (show 0<u.Grid by omega)
 rw [Int.mul_comm] at e
 refine ⟨by omega,by omega,?_⟩
 exact Int.mul_emod_left _ _
section
variable {N:Nat} {t:Ze} {u:ZL} {s:Zh}
theorem ZeT (g:Good t) {p:Int} (hp:ZbT t p=true):1≤(plk t p).Per∧(plk t p).Per≤1000∧0≤(plk t p).Delay∧(plk t p).Delay≤10000:=by
 obtain ⟨h1,h2⟩:=Znx hp
 have:=(g.links (Int.tdiv p 2).toNat (by omega)).1
 simp only [Zee,Bool.and_eq_true,decide_eq_true_eq] at this
 exact ⟨this.2.2.2.2.1,this.2.2.2.2.2.1,this.2.2.2.2.2.2.1,this.2.2.2.2.2.2.2⟩
def ZhT (s:Zh):Prop:=84≤s.Size∧s.Size≤1542
theorem ZlX (g:Good t) (hs:ZhT s) {p:Int} (hp:ZbT t p=true):84≤s.Size * (plk t p).Per∧s.Size * (plk t p).Per≤1542000:=by
 obtain ⟨h1,h2,_,_⟩:=ZeT g hp
 obtain ⟨a,b⟩:=hs
 have c:s.Size * 1≤s.Size * (plk t p).Per:=Int.mul_le_mul_of_nonneg_left h1 (by omega)
 have d:s.Size * (plk t p).Per≤s.Size * 1000:=Int.mul_le_mul_of_nonneg_left h2 (by omega)
 omega
structure HB (t:Ze) (k:Nat) (h:ZQ):Prop where
 port:ZbT t h.Port=true
 long1:84≤h.Long
 long2:h.Long≤1542000
 op1:0≤h.Open
 op2:h.Open≤1600000 * (k:Int)
theorem HB.told (g:Good t) (hu:ZkG u) {k:Nat} {h:ZQ} (hb:HB t k h):h.Open+84≤Zaz t u h∧Zaz t u h≤1600000 * (k:Int)+1562000∧h.Open+h.Long≤Zaz t u h:=by
 obtain ⟨h1,h2,h3,h4,h5⟩:=hb
 obtain ⟨_,_,d1,d2⟩:=ZeT g h1
 have:=hu.p1;have:=hu.p2
 unfold Zaz
 omega
theorem Zhp (k:Nat) (r:List Int):(ZO t u s r k).Port=at0 r k:=by cases k<;>rfl
theorem ZjI (k:Nat) (r:List Int):(ZO t u s r k).Long=s.Size * (plk t (at0 r k)).Per:=by cases k<;>rfl
theorem Zfb (g:Good t) (hu:ZkG u) (hs:ZhT s) {r:List Int} (hp:∀ k,k<r.length→ZbT t (at0 r k)=true):∀ k,k<r.length→HB t k (ZO t u s r k)
 | 0,hk=>by
  have:=ZlX g hs (hp 0 hk)
  exact ⟨hp 0 hk,this.1,this.2,Int.le_refl 0,by simp [ZO,hop0]⟩
 | k+1,hk=>by
  have ih:=Zfb g hu hs hp k (by omega)
  have:=ZlX g hs (hp (k+1) hk)
  have ht:=ih.told g hu
  have h0:=ih.op1
  have c:=ZkA hu (x:=Zaz t u (ZO t u s r k)+2 * u.Slack) (by have:=hu.s1;omega)
  have:=hu.s1;have:=hu.s2;have:=hu.g2
  refine ⟨hp (k+1) hk,?_,?_,?_,?_⟩
  ·show 84≤s.Size * (plk t (at0 r (k+1))).Per;omega
  ·show s.Size * (plk t (at0 r (k+1))).Per≤1542000;omega
  ·show 0≤Zi3 u (Zaz t u (ZO t u s r k)+2 * u.Slack);omega
  ·show Zi3 u (Zaz t u (ZO t u s r k)+2 * u.Slack)≤1600000 * ((k+1:Nat):Int);omega
def stAt (t:Ze) (u:ZL) (s:Zh) (r:List Int):Nat→ZQ
 | 0=>⟨0,0,0,0,0⟩
 | k+1=>ZO t u s r k
theorem ZnK {σ:Type} (g:Good t) (hu:ZkG u) (hs:ZhT s) {r:List Int} (h8:r.length≤8) (hp:∀ k,k<r.length→ZbT t (at0 r k)=true) {k:Nat} (hk:k<r.length) {y:σ→ZQ→Option (σ × Bool)} {b b':σ}
  (hy:y b (ZO t u s r k)=some (b',true)):Zav N y s t u r (k:Int) (stAt t u s r k).Port (stAt t u s r k).Early (stAt t u s r k).Late (stAt t u s r k).Open (stAt t u s r k).Long b =
   some (.inl (((k+1:Nat):Int),(ZO t u s r k).Port,(ZO t u s r k).Early,(ZO t u s r k).Late,(ZO t u s r k).Open,(ZO t u s r k).Long,b')):=by
 have hL:t.Links.length≤1000:=by have:=g.l24;omega
 have hlen:=ZlX g hs (hp k hk)
 have hb:=Zfb g hu hs hp k hk
 unfold Zav
 rw [if_pos (by simp;omega),Zcl hk,Option.bind_some]
 have hat:r[k]=at0 r k:=(Zgx hk).symm
 have key:(if decide ((k:Int) > 0)=true then (idx t.Links (w64 (Int.tdiv (stAt t u s r k).Port 2))).bind fun e1020 =>
    (quoI .i64 (w64 ((w64 ((w64 ((w64 ((w64 ((w64 ((stAt t u s r k).Open+(stAt t u s r k).Long))+e1020.Delay))+u.Proc))+(w64 (2 * u.Slack))))+u.Grid)) - 1)) u.Grid).bind fun q1026 =>
    (some ((w64 ((w64 ((w64 ((w64 ((stAt t u s r k).Open+(stAt t u s r k).Long))+e1020.Delay))+u.Proc)) - (w64 (2 * u.Slack)))),(w64 ((w64 ((w64 ((w64 ((stAt t u s r k).Open+(stAt t u s r k).Long))+e1020.Delay))+u.Proc))+(w64 (2 * u.Slack)))),(w64 (q1026 * u.Grid))))
   else some ((stAt t u s r k).Early,(stAt t u s r k).Late,(stAt t u s r k).Open))=some ((ZO t u s r k).Early,(ZO t u s r k).Late,(ZO t u s r k).Open):=by
  cases k with
  | zero=>rw [if_neg (by simp)];rfl
  | succ j =>
   rw [if_pos (by simp only [decide_eq_true_eq];omega)]
   have hbj:=Zfb g hu hs hp j (by omega)
   obtain ⟨o1,o2,o3⟩:=hbj.told g hu
   obtain ⟨_,_,d1,d2⟩:=ZeT g hbj.port
   obtain ⟨g1,g2,s1,s2,p1,p2⟩:=hu
   have l1:=hbj.long1;have l2:=hbj.long2;have l3:=hbj.op1;have l4:=hbj.op2
   have hj:(j:Int)≤8:=by omega
   show ((idx t.Links (w64 (Int.tdiv (ZO t u s r j).Port 2))).bind fun e1020=>_)=_
   rw [ZiF hL hbj.port,Option.bind_some]
   have e1:w64 ((ZO t u s r j).Open+(ZO t u s r j).Long)=(ZO t u s r j).Open+(ZO t u s r j).Long:=ZR (by omega) (by omega)
   have e2:w64 ((ZO t u s r j).Open+(ZO t u s r j).Long+(plk t (ZO t u s r j).Port).Delay)=(ZO t u s r j).Open+(ZO t u s r j).Long+(plk t (ZO t u s r j).Port).Delay:=ZR (by omega) (by omega)
   have e3:w64 ((ZO t u s r j).Open+(ZO t u s r j).Long+(plk t (ZO t u s r j).Port).Delay+u.Proc)=Zaz t u (ZO t u s r j):=ZR (by omega) (by omega)
   have e4:w64 (2 * u.Slack)=2 * u.Slack:=ZR (by omega) (by omega)
   simp only [stAt,e1,e2,e3,e4]
   have e5:w64 (Zaz t u (ZO t u s r j)+2 * u.Slack)=Zaz t u (ZO t u s r j)+2 * u.Slack:=ZR (by omega) (by omega)
   have e6:w64 (Zaz t u (ZO t u s r j) - 2 * u.Slack)=Zaz t u (ZO t u s r j) - 2 * u.Slack:=ZR (by omega) (by omega)
   have e7:w64 (Zaz t u (ZO t u s r j)+2 * u.Slack+u.Grid)=Zaz t u (ZO t u s r j)+2 * u.Slack+u.Grid:=ZR (by omega) (by omega)
   have e8:w64 (Zaz t u (ZO t u s r j)+2 * u.Slack+u.Grid - 1)=Zaz t u (ZO t u s r j)+2 * u.Slack+u.Grid - 1:=ZR (by omega) (by omega)
   rw [e5,e6,e7,e8,Zon (by omega),Option.bind_some]
   have hn:0≤Zaz t u (ZO t u s r j)+2 * u.Slack+u.Grid - 1:=by omega
   rw [Int.tdiv_eq_ediv_of_nonneg hn]
   have q1:0≤(Zaz t u (ZO t u s r j)+2 * u.Slack+u.Grid - 1) / u.Grid:=Int.ediv_nonneg hn (by omega)
   have q2:(Zaz t u (ZO t u s r j)+2 * u.Slack+u.Grid - 1) / u.Grid≤Zaz t u (ZO t u s r j)+2 * u.Slack+u.Grid - 1:=Int.ediv_le_self _ hn
   have e9:IntKind.i64.wrap ((Zaz t u (ZO t u s r j)+2 * u.Slack+u.Grid - 1) / u.Grid)=(Zaz t u (ZO t u s r j)+2 * u.Slack+u.Grid - 1) / u.Grid:=ZR (by omega) (by omega)
   have c:=ZkA ⟨g1,g2,s1,s2,p1,p2⟩ (x:=Zaz t u (ZO t u s r j)+2 * u.Slack) (by omega)
   have e10:w64 ((Zaz t u (ZO t u s r j)+2 * u.Slack+u.Grid - 1) / u.Grid * u.Grid)=Zi3 u (Zaz t u (ZO t u s r j)+2 * u.Slack):=ZR (by unfold Zi3 at c;omega) (by unfold Zi3 at c;omega)
   rw [e9,e10]
   rfl
 rw [key,Option.bind_some,hat,ZiF hL (hp k hk),Option.bind_some]
 have e11:w64 (s.Size * (plk t (at0 r k)).Per)=s.Size * (plk t (at0 r k)).Per:=ZR (by omega) (by omega)
 have e12:(ZQ.mk (at0 r k) (ZO t u s r k).Early (ZO t u s r k).Late (ZO t u s r k).Open (s.Size * (plk t (at0 r k)).Per))=ZO t u s r k:=by
  cases k<;>rfl
 rw [e11]
 simp only
 rw [e12,hy,Option.bind_some,Z1 (by omega)]
 simp only [Bool.not_true,Bool.false_eq_true,if_false,Zhp,ZjI]
theorem Zmu {σ:Type} (g:Good t) (hu:ZkG u) (hs:ZhT s) {r:List Int} (hr:ZaA t r=true) {y:σ→ZQ→Option (σ × Bool)} (G:Nat→σ) (hy:∀ k,k<r.length→y (G k) (ZO t u s r k)=some (G (k+1),true)) {kk:Int}
  (hk:idx s.Routes kk=some r) (hN:200≤N):Zby N y s kk t u (G 0)=some (G r.length):=by
 obtain ⟨h1,h8,hp⟩:=Zcj hr
 unfold Zby
 rw [hk,Option.bind_some]
 have key:∀ (M m N k:Nat),r.length - k=m→k≤r.length→m<N→Zae (fun x:Int × Int × Int × Int × Int × Int × σ=>Zav M y s t u r x.1 x.2.1 x.2.2.1 x.2.2.2.1 x.2.2.2.2.1 x.2.2.2.2.2.1 x.2.2.2.2.2.2) N ((k:Int),(stAt t u s r k).Port,(stAt t u s r k).Early,(stAt t u s r k).Late,(stAt t u s r k).Open,(stAt t u s r k).Long,G k)=some (.inl (G r.length)):=by
  intro M m
  induction m with
  | zero =>
   intro N k e1 e2 e3
   obtain rfl:k=r.length:=by omega
   cases N with
   | zero=>omega
   | succ N =>
    rw [Za8 (r:=(.inl (G r.length)))]
    show Zav _ y s t u r ((r.length:Nat):Int) _ _ _ _ _ _=_
    unfold Zav
    rw [if_neg (by simp)]
  | succ m ih =>
   intro N k e1 e2 e3
   cases N with
   | zero=>omega
   | succ N =>
    have hst:=ZnK (N:=M) g hu hs h8 hp (k:=k) (by omega) (hy k (by omega))
    rw [ZcU (y:=(((k+1:Nat):Int),(ZO t u s r k).Port,(ZO t u s r k).Early,(ZO t u s r k).Late,(ZO t u s r k).Open,(ZO t u s r k).Long,G (k+1))) hst]
    exact ih N (k+1) (by omega) (by omega) (by omega)
 have:=key N r.length N 0 (by omega) (by omega) (by omega)
 rw [show ((0:Nat):Int)=0 from rfl] at this
 have e:(Zae (fun x:Int × Int × Int × Int × Int × Int × σ=>Zav N y s t u r x.1 x.2.1 x.2.2.1 x.2.2.2.1 x.2.2.2.2.1 x.2.2.2.2.2.1 x.2.2.2.2.2.2) N (0,0,0,0,0,0,G 0))=some (.inl (G r.length)):=this
 rw [e]
 rfl
theorem Ze0 (k:Int) (hN:200≤N):Zdn N t u s k=some (if ZeL t then (if ZeO u then (if ZaS t s then (if s.Class=7∧0≤k∧k<s.Routes.length then 0 else 2) else 321) else 320) else 260):=by
 unfold Zdn
 rw [Zc7 (by omega),Option.bind_some]
 cases hT:ZeL t with
 | false=>rfl
 | true =>
  simp only [if_true,bne_self_eq_false,Bool.false_eq_true,if_false]
  rw [Zf8,Option.bind_some]
  cases hU:ZeO u with
  | false=>rfl
  | true =>
   simp only [if_true,bne_self_eq_false,Bool.false_eq_true,if_false]
   rw [Zd5 (Za1.1 hT) s hN,Option.bind_some]
   cases hS:ZaS t s with
   | false=>rfl
   | true =>
    rw [if_neg (by simp:¬ (!true)=true),if_pos (rfl:true=true)]
    have hl:1≤s.Routes.length∧s.Routes.length≤2:=by
     simp only [ZaS,lenB,Bool.and_eq_true,decide_eq_true_eq] at hS
     exact hS.2.2.1
    rw [ZR (by omega) (by omega),ZbL]
    have hb:inB k 0 ((s.Routes.length:Int) - 1)=decide (0≤k∧k<(s.Routes.length:Int)):=by
     rw [Bool.eq_iff_iff]
     simp only [inB,Bool.and_eq_true,decide_eq_true_eq]
     omega
    rw [hb]
    by_cases hc:s.Class=7
    ·have h7:(s.Class != 7)=false:=by simp [hc]
     rw [h7]
     by_cases hk:0≤k∧k<(s.Routes.length:Int)
     ·simp only [decide_eq_true hk,hc,hk,and_self,if_true];rfl
     ·simp only [decide_eq_false hk,hc,hk,and_false,if_false];rfl
    ·have h7:(s.Class != 7)=true:=by simp [hc]
     rw [h7]
     simp only [hc,false_and,if_false,if_true];rfl
def Zdi (s:Zh) (k:Int):List Int:=s.Routes.getD k.toNat []
theorem Zeo (h:ZaS t s=true):ZhT s:=by
 simp only [ZaS,Zm4,inB,Bool.and_eq_true,decide_eq_true_eq] at h
 exact h.1.2.2.2.2.1
theorem Zgc (h:ZaS t s=true):(1≤s.Routes.length∧s.Routes.length≤2)∧s.Routes.all (ZdZ t s)=true:=by
 simp only [ZaS,lenB,Bool.and_eq_true,decide_eq_true_eq] at h
 exact ⟨h.2.2.1,h.2.2.2.1⟩
theorem Ziz (h:ZaS t s=true) {k:Int} (h0:0≤k) (hk:k<s.Routes.length):idx s.Routes k=some (Zdi s k)∧ZaA t (Zdi s k)=true:=by
 refine ⟨ZcI [] h0 hk,(ZfB (Zgc h).2 (k:=k.toNat) (by omega)).1⟩
theorem Zfl (hT:ZeL t=true) (hU:ZeO u=true) (hS:ZaS t s=true) {k:Int} (hc:s.Class=7) (h0:0≤k) (hk:k<s.Routes.length) (hN:200≤N) :
  Zbo N t u s k=some ((List.range (Zdi s k).length).map (ZO t u s (Zdi s k)),0):=by
 obtain ⟨e1,e2⟩:=Ziz hS h0 hk
 have h8:=(Zcj e2).2.1
 unfold Zbo
 rw [Ze0 k hN,hT,hU,hS,if_pos rfl,if_pos rfl,if_pos rfl,if_pos ⟨hc,h0,hk⟩,Option.bind_some,if_neg (by decide)]
 show (Zby N _ s k t u []).bind _=_
 have:=Zmu (N:=N) (Za1.1 hT) (Zd8 hU) (Zeo hS) e2 (y:=fun (s:(List ZQ)) (x12:ZQ)=>Zc6 (fun v:(List ZQ)=>Zbh N v x12) s) (fun j=>(List.range j).map (ZO t u s (Zdi s k))) (fun j hj=>by
  show Zc6 (fun v=>Zbh N v (ZO t u s (Zdi s k) j)) _=_
  unfold Zc6 Zbh
  simp only
  rw [ZeW (by simp;omega) (by omega),List.range_succ,List.map_append]
  rfl) e1 hN
 simp only [List.range_zero,List.map_nil] at this
 rw [this]
 rfl
theorem Zfk (hT:ZeL t=true) (hU:ZeO u=true) (hS:ZaS t s=true) {k:Int} (hc:s.Class=7) (h0:0≤k) (hk:k<s.Routes.length) (hN:200≤N) :
  Zb0 N t u s k=some (Zaz t u (ZO t u s (Zdi s k) ((Zdi s k).length - 1)),0):=by
 obtain ⟨e1,e2⟩:=Ziz hS h0 hk
 obtain ⟨h1,h8,hp⟩:=Zcj e2
 have g:=Za1.1 hT
 have hL:t.Links.length≤1000:=by have:=g.l24;omega
 unfold Zb0
 rw [Ze0 k hN,hT,hU,hS,if_pos rfl,if_pos rfl,if_pos rfl,if_pos ⟨hc,h0,hk⟩,Option.bind_some,if_neg (by decide)]
 show (Zby N _ s k t u 0).bind _=_
 have:=Zmu (N:=N) g (Zd8 hU) (Zeo hS) e2 (y:=fun (s:Int) (x21:ZQ)=>Zc6 (fun v:Int=>Zbg N t u v x21) s) (fun j=>if j=0 then 0 else Zaz t u (ZO t u s (Zdi s k) (j - 1))) (fun j hj=>by
  show Zc6 (fun v=>Zbg N t u v (ZO t u s (Zdi s k) j)) _=_
  unfold Zc6 Zbg
  have hb:=Zfb g (Zd8 hU) (Zeo hS) hp j hj
  obtain ⟨o1,o2,o3⟩:=hb.told g (Zd8 hU)
  obtain ⟨_,_,d1,d2⟩:=ZeT g hb.port
  have l1:=hb.long1;have l2:=hb.long2;have l3:=hb.op1;have l4:=hb.op2
  have q:=(Zd8 hU).p1;have q':=(Zd8 hU).p2
  simp only
  rw [ZiF hL hb.port,Option.bind_some,ZR (x:=(ZO t u s (Zdi s k) j).Open+(ZO t u s (Zdi s k) j).Long) (by omega) (by omega),ZR (x:=(ZO t u s (Zdi s k) j).Open+(ZO t u s (Zdi s k) j).Long+_) (by omega) (by omega)]
  rw [show w64 ((ZO t u s (Zdi s k) j).Open+(ZO t u s (Zdi s k) j).Long+(plk t (ZO t u s (Zdi s k) j).Port).Delay+u.Proc)=Zaz t u (ZO t u s (Zdi s k) j) from ZR (by omega) (by omega)]
  rw [if_neg (Nat.succ_ne_zero j)]
  rfl) e1 hN
 rw [if_pos rfl] at this
 rw [this,Option.bind_some,if_neg (by omega)]
theorem Zim {k e:Int} (h:Zdn N t u s k=some e) (he:e ≠ 0):Zbo N t u s k=some ([],e)∧Zb0 N t u s k=some (0,e):=by
 have:(e != 0)=true:=by simpa using he
 constructor
 ·unfold Zbo;rw [h,Option.bind_some,this];rfl
 ·unfold Zb0;rw [h,Option.bind_some,this];rfl
theorem Zc9 (hN:200≤N):ZaM N t s=some (if ZeL t then (if ZaS t s then 0 else 321) else 260):=by
 unfold ZaM
 rw [Zc7 (by omega),Option.bind_some]
 cases hT:ZeL t with
 | false=>rfl
 | true =>
  simp only [if_true,bne_self_eq_false,Bool.false_eq_true,if_false]
  rw [Zd5 (Za1.1 hT) s hN,Option.bind_some]
  cases ZaS t s<;>rfl
def dS:Zh:=⟨0,0,0,0,0,0,⟨0,0⟩,0,[]⟩
def idAt (l:List Zh) (k:Nat):Int:=(l.getD k dS).Id
def Zoo (l:List Zh) (k:Nat):Bool := !((List.range k).any fun j=>idAt l j==idAt l k)
def allR (t:Ze) (l:List Zh):Int:=if ZeL t then (if l.length≤12 then (if l.all (ZaS t) then (if allB l.length (Zoo l) then 0 else 322) else 321) else 3) else 260
theorem ZgD (l:List Zh) (hN:200≤N):ZbN N t l=some (allR t l):=by
 unfold ZbN allR
 rw [Zc7 (by omega),Option.bind_some]
 cases hT:ZeL t with
 | false=>rfl
 | true =>
  have g:=Za1.1 hT
  simp only [if_true,bne_self_eq_false,Bool.false_eq_true,if_false]
  by_cases h12:l.length≤12
  ·rw [if_neg (by simp;omega),if_pos h12]
   have:=ZaU (n:=l.length) (p:=fun k=>ZaS t (l.getD k dS)) (body:=fun x:Int=>ZaJ N t l x) (bad:=.inr 321) (fin:=.inl ()) (fun k hk=>by
    unfold ZaJ
    rw [if_pos (by simp;omega),Zcl hk,Option.bind_some,Zc4 hk,Zd5 g _ hN,Option.bind_some,Z1 (by omega)]
    cases ZaS t l[k]<;>rfl) (by unfold ZaJ;rw [if_neg (by simp)]) (N:=N) (by omega)
   rw [this,Zja l dS (ZaS t)]
   cases l.all (ZaS t) with
   | false=>rfl
   | true =>
    simp only [if_true,Option.bind_some]
    have:=(Zl4 (n:=l.length) (p:=Zoo l) (f:=fun (b:List (Int × Bool)) k=>Zh2 b (idAt l k) true) (body:=fun x:Int × (List (Int × Bool))=>Zap N l x.1 x.2) (bad:=.inr 322) (fin:=fun _=>.inl ())
     (fun k b=>∀ x,Zkt b x false=(List.range k).any fun j=>idAt l j==x)
     (fun k b hk hb=>by
      show Zap N l (k:Int) b=_
      unfold Zap
      rw [if_pos (by simp;omega),Zcl hk,Option.bind_some]
      have hid:l[k].Id=idAt l k:=by unfold idAt;rw [Zc4 hk]
      rw [hid,hb,Z1 (by omega)]
      unfold Zoo
      cases (List.range k).any fun j=>idAt l j==idAt l k<;>rfl)
     (fun k b hk hb _ x=>by
      rw [ZlV,hb,List.range_succ,List.any_append]
      by_cases e:x=idAt l k
      ·subst e;simp
      ·have:(idAt l k==x)=false:=by simpa using Ne.symm e
       simp [e,this])
     (fun b hb=>by show Zap N l (l.length:Int) b=_;unfold Zap;rw [if_neg (by simp)]) (N:=N) (by omega) (b0:=[]) (fun x=>rfl)).1
    rw [this]
    cases allB l.length (Zoo l)<;>rfl
  ·rw [if_pos (by simp;omega),if_neg h12]
end
end Go.Sh

