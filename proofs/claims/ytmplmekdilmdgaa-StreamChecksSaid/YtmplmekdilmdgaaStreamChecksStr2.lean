/- Part of the proof; written by a program out of the texts in wip/. -/
import Derived.Test.YtmplmekdilmdgaaStreamChecksStr1
set_option linter.unusedVariables false
set_option linter.unusedSimpArgs false
namespace Go.Sh
open Go Go.Eng
theorem ZmE {κ υ:Type} [DecidableEq κ] (l:List (κ × υ)) (x y:κ) (v z:υ):Zlh (ZiE l x v) y z=if y=x then v else Zlh l y z:=by
 induction l with
 | nil =>
  unfold Zlh ZmD
  simp only [ZiE,List.find?_cons,List.find?_nil]
  by_cases e:x=y
  ·subst e;simp
  ·simp [e,Ne.symm e]
 | cons p r ih =>
  unfold Zlh ZmD at ih ⊢
  simp only [ZiE]
  by_cases e:p.1=x
  ·subst e
   simp only [if_true,List.find?_cons]
   by_cases e:p.1=y
   ·subst e;simp
   ·simp [e,Ne.symm e]
  ·simp only [e,if_false,List.find?_cons]
   by_cases e2:p.1=y
   ·subst e2;simp [e]
   ·simp only [e2,decide_false]
    exact ih
structure ZnW (u:ZL):Prop where
 g1:1≤u.Grid
 g2:u.Grid≤10000
 s1:0≤u.Slack
 s2:u.Slack≤1000
 p1:0≤u.Proc
 p2:u.Proc≤10000
theorem Zfx {u:ZL} (h:Zex u=true):ZnW u:=by
 simp only [Zex,inB,Bool.and_eq_true,decide_eq_true_eq] at h
 obtain ⟨⟨a,b⟩,⟨c,d⟩,⟨e,f⟩,_⟩:=h
 exact ⟨a,b,c,d,e,f⟩
def ZbG (t:Zg) (u:ZL) (h:ZT):Int:=h.Open+h.Long+(plk t h.Port).Delay+u.Proc
def hop0 (t:Zg) (s:Zh) (r:List Int):ZT:=⟨at0 r 0,0,0,0,s.Size * (plk t (at0 r 0)).Per⟩
def Zkl (u:ZL) (x:Int):Int:=(x+u.Grid - 1) / u.Grid * u.Grid
def hopN (t:Zg) (u:ZL) (s:Zh) (h:ZT) (p:Int):ZT :=
 ⟨p,ZbG t u h - 2 * u.Slack,ZbG t u h+2 * u.Slack,Zkl u (ZbG t u h+2 * u.Slack),s.Size * (plk t p).Per⟩
def Zas (t:Zg) (u:ZL) (s:Zh) (r:List Int):Nat→ZT
 | 0=>hop0 t s r
 | k+1=>hopN t u s (Zas t u s r k) (at0 r (k+1))
theorem Znh {u:ZL} (h:ZnW u) {x:Int} (hx:0≤x):x≤Zkl u x∧Zkl u x<x+u.Grid∧Zkl u x % u.Grid=0:=by
 unfold Zkl
 have hg:=h.g1
 have e:=Int.mul_ediv_add_emod (x+u.Grid - 1) u.Grid
 have e1:=Int.emod_nonneg (x+u.Grid - 1) (show u.Grid ≠ 0 by omega)
 have e2:=Int.emod_lt_of_pos (x+u.Grid - 1) (show 0<u.Grid by omega)
 rw [Int.mul_comm] at e
 refine ⟨by omega,by omega,?_⟩
 exact Int.mul_emod_left _ _
section
variable {N:Nat} {t:Zg} {u:ZL} {s:Zh}
theorem ZgC (g:Good t) {p:Int} (hp:ZcA t p=true):1≤(plk t p).Per∧(plk t p).Per≤1000∧0≤(plk t p).Delay∧(plk t p).Delay≤10000:=by
 obtain ⟨h1,h2⟩:=Zog hp
 have:=(g.links (Int.tdiv p 2).toNat (by omega)).1
 simp only [ZdL,Bool.and_eq_true,decide_eq_true_eq] at this
 exact ⟨this.2.2.2.2.1,this.2.2.2.2.2.1,this.2.2.2.2.2.2.1,this.2.2.2.2.2.2.2⟩
def Zmn (s:Zh):Prop:=84≤s.Size∧s.Size≤1542
theorem ZmG (g:Good t) (hs:Zmn s) {p:Int} (hp:ZcA t p=true):84≤s.Size * (plk t p).Per∧s.Size * (plk t p).Per≤1542000:=by
 obtain ⟨h1,h2,_,_⟩:=ZgC g hp
 obtain ⟨a,b⟩:=hs
 have c:s.Size * 1≤s.Size * (plk t p).Per:=Int.mul_le_mul_of_nonneg_left h1 (by omega)
 have d:s.Size * (plk t p).Per≤s.Size * 1000:=Int.mul_le_mul_of_nonneg_left h2 (by omega)
 omega
structure HB (t:Zg) (k:Nat) (h:ZT):Prop where
 port:ZcA t h.Port=true
 long1:84≤h.Long
 long2:h.Long≤1542000
 op1:0≤h.Open
 op2:h.Open≤1600000 * (k:Int)
theorem HB.told (g:Good t) (hu:ZnW u) {k:Nat} {h:ZT} (hb:HB t k h):h.Open+84≤ZbG t u h∧ZbG t u h≤1600000 * (k:Int)+1562000∧h.Open+h.Long≤ZbG t u h:=by
 obtain ⟨h1,h2,h3,h4,h5⟩:=hb
 obtain ⟨_,_,d1,d2⟩:=ZgC g h1
 have:=hu.p1;have:=hu.p2
 unfold ZbG
 omega
theorem ZnM (k:Nat) (r:List Int):(Zas t u s r k).Port=at0 r k:=by cases k<;>rfl
theorem ZnN (k:Nat) (r:List Int):(Zas t u s r k).Long=s.Size * (plk t (at0 r k)).Per:=by cases k<;>rfl
theorem ZiI (g:Good t) (hu:ZnW u) (hs:Zmn s) {r:List Int} (hp:∀ k,k<r.length→ZcA t (at0 r k)=true):∀ k,k<r.length→HB t k (Zas t u s r k)
 | 0,hk=>by
  have:=ZmG g hs (hp 0 hk)
  exact ⟨hp 0 hk,this.1,this.2,Int.le_refl 0,by simp [Zas,hop0]⟩
 | k+1,hk=>by
  have ih:=ZiI g hu hs hp k (by omega)
  have:=ZmG g hs (hp (k+1) hk)
  have ht:=ih.told g hu
  have h0:=ih.op1
  have c:=Znh hu (x:=ZbG t u (Zas t u s r k)+2 * u.Slack) (by have:=hu.s1;omega)
  have:=hu.s1;have:=hu.s2;have:=hu.g2
  refine ⟨hp (k+1) hk,?_,?_,?_,?_⟩
  ·show 84≤s.Size * (plk t (at0 r (k+1))).Per;omega
  ·show s.Size * (plk t (at0 r (k+1))).Per≤1542000;omega
  ·show 0≤Zkl u (ZbG t u (Zas t u s r k)+2 * u.Slack);omega
  ·show Zkl u (ZbG t u (Zas t u s r k)+2 * u.Slack)≤1600000 * ((k+1:Nat):Int);omega
def stAt (t:Zg) (u:ZL) (s:Zh) (r:List Int):Nat→ZT
 | 0=>⟨0,0,0,0,0⟩
 | k+1=>Zas t u s r k
theorem Zos {σ:Type} (g:Good t) (hu:ZnW u) (hs:Zmn s) {r:List Int} (h8:r.length≤8) (hp:∀ k,k<r.length→ZcA t (at0 r k)=true) {k:Nat} (hk:k<r.length) {y:σ→ZT→Option (σ × Bool)} {b b':σ}
  (hy:y b (Zas t u s r k)=some (b',true)):Zaz N y s t u r (k:Int) (stAt t u s r k).Port (stAt t u s r k).Early (stAt t u s r k).Late (stAt t u s r k).Open (stAt t u s r k).Long b =
   some (.inl (((k+1:Nat):Int),(Zas t u s r k).Port,(Zas t u s r k).Early,(Zas t u s r k).Late,(Zas t u s r k).Open,(Zas t u s r k).Long,b')):=by
 have hL:t.Links.length≤1000:=by have:=g.l24;omega
 have hlen:=ZmG g hs (hp k hk)
 have hb:=ZiI g hu hs hp k hk
 unfold Zaz
 rw [if_pos (by simp;omega),ZcB hk,Option.bind_some]
 have hat:r[k]=at0 r k:=(Zhz hk).symm
 have key:(if decide ((k:Int) > 0)=true then (idx t.Links (w64 (Int.tdiv (stAt t u s r k).Port 2))).bind fun e1020 =>
    (quoI .i64 (w64 ((w64 ((w64 ((w64 ((w64 ((w64 ((stAt t u s r k).Open+(stAt t u s r k).Long))+e1020.Delay))+u.Proc))+(w64 (2 * u.Slack))))+u.Grid)) - 1)) u.Grid).bind fun q1026 =>
    (some ((w64 ((w64 ((w64 ((w64 ((stAt t u s r k).Open+(stAt t u s r k).Long))+e1020.Delay))+u.Proc)) - (w64 (2 * u.Slack)))),(w64 ((w64 ((w64 ((w64 ((stAt t u s r k).Open+(stAt t u s r k).Long))+e1020.Delay))+u.Proc))+(w64 (2 * u.Slack)))),(w64 (q1026 * u.Grid))))
   else some ((stAt t u s r k).Early,(stAt t u s r k).Late,(stAt t u s r k).Open))=some ((Zas t u s r k).Early,(Zas t u s r k).Late,(Zas t u s r k).Open):=by
  cases k with
  | zero=>rw [if_neg (by simp)];rfl
  | succ j =>
   rw [if_pos (by simp only [decide_eq_true_eq];omega)]
   have hbj:=ZiI g hu hs hp j (by omega)
   obtain ⟨o1,o2,o3⟩:=hbj.told g hu
   obtain ⟨_,_,d1,d2⟩:=ZgC g hbj.port
   obtain ⟨g1,g2,s1,s2,p1,p2⟩:=hu
   have l1:=hbj.long1;have l2:=hbj.long2;have l3:=hbj.op1;have l4:=hbj.op2
   have hj:(j:Int)≤8:=by omega
   show ((idx t.Links (w64 (Int.tdiv (Zas t u s r j).Port 2))).bind fun e1020=>_)=_
   rw [Zkr hL hbj.port,Option.bind_some]
   have e1:w64 ((Zas t u s r j).Open+(Zas t u s r j).Long)=(Zas t u s r j).Open+(Zas t u s r j).Long:=Z5 (by omega) (by omega)
   have e2:w64 ((Zas t u s r j).Open+(Zas t u s r j).Long+(plk t (Zas t u s r j).Port).Delay)=(Zas t u s r j).Open+(Zas t u s r j).Long+(plk t (Zas t u s r j).Port).Delay:=Z5 (by omega) (by omega)
   have e3:w64 ((Zas t u s r j).Open+(Zas t u s r j).Long+(plk t (Zas t u s r j).Port).Delay+u.Proc)=ZbG t u (Zas t u s r j):=Z5 (by omega) (by omega)
   have e4:w64 (2 * u.Slack)=2 * u.Slack:=Z5 (by omega) (by omega)
   simp only [stAt,e1,e2,e3,e4]
   have e5:w64 (ZbG t u (Zas t u s r j)+2 * u.Slack)=ZbG t u (Zas t u s r j)+2 * u.Slack:=Z5 (by omega) (by omega)
   have e6:w64 (ZbG t u (Zas t u s r j) - 2 * u.Slack)=ZbG t u (Zas t u s r j) - 2 * u.Slack:=Z5 (by omega) (by omega)
   have e7:w64 (ZbG t u (Zas t u s r j)+2 * u.Slack+u.Grid)=ZbG t u (Zas t u s r j)+2 * u.Slack+u.Grid:=Z5 (by omega) (by omega)
   have e8:w64 (ZbG t u (Zas t u s r j)+2 * u.Slack+u.Grid - 1)=ZbG t u (Zas t u s r j)+2 * u.Slack+u.Grid - 1:=Z5 (by omega) (by omega)
   rw [e5,e6,e7,e8,Zo4 (by omega),Option.bind_some]
   have hn:0≤ZbG t u (Zas t u s r j)+2 * u.Slack+u.Grid - 1:=by omega
   rw [Int.tdiv_eq_ediv_of_nonneg hn]
   have q1:0≤(ZbG t u (Zas t u s r j)+2 * u.Slack+u.Grid - 1) / u.Grid:=Int.ediv_nonneg hn (by omega)
   have q2:(ZbG t u (Zas t u s r j)+2 * u.Slack+u.Grid - 1) / u.Grid≤ZbG t u (Zas t u s r j)+2 * u.Slack+u.Grid - 1:=Int.ediv_le_self _ hn
   have e9:IntKind.i64.wrap ((ZbG t u (Zas t u s r j)+2 * u.Slack+u.Grid - 1) / u.Grid)=(ZbG t u (Zas t u s r j)+2 * u.Slack+u.Grid - 1) / u.Grid:=Z5 (by omega) (by omega)
   have c:=Znh ⟨g1,g2,s1,s2,p1,p2⟩ (x:=ZbG t u (Zas t u s r j)+2 * u.Slack) (by omega)
   have e10:w64 ((ZbG t u (Zas t u s r j)+2 * u.Slack+u.Grid - 1) / u.Grid * u.Grid)=Zkl u (ZbG t u (Zas t u s r j)+2 * u.Slack):=Z5 (by unfold Zkl at c;omega) (by unfold Zkl at c;omega)
   rw [e9,e10]
   rfl
 rw [key,Option.bind_some,hat,Zkr hL (hp k hk),Option.bind_some]
 have e11:w64 (s.Size * (plk t (at0 r k)).Per)=s.Size * (plk t (at0 r k)).Per:=Z5 (by omega) (by omega)
 have e12:(ZT.mk (at0 r k) (Zas t u s r k).Early (Zas t u s r k).Late (Zas t u s r k).Open (s.Size * (plk t (at0 r k)).Per))=Zas t u s r k:=by
  cases k<;>rfl
 rw [e11]
 simp only
 rw [e12,hy,Option.bind_some,ZS (by omega)]
 simp only [Bool.not_true,Bool.false_eq_true,if_false,ZnM,ZnN]
theorem Znc {σ:Type} (g:Good t) (hu:ZnW u) (hs:Zmn s) {r:List Int} (hr:ZaG t r=true) {y:σ→ZT→Option (σ × Bool)} (G:Nat→σ) (hy:∀ k,k<r.length→y (G k) (Zas t u s r k)=some (G (k+1),true)) {kk:Int}
  (hk:idx s.Routes kk=some r) (hN:200≤N):ZbT N y s kk t u (G 0)=some (G r.length):=by
 obtain ⟨h1,h8,hp⟩:=ZcK hr
 unfold ZbT
 rw [hk,Option.bind_some]
 have key:∀ (M m N k:Nat),r.length - k=m→k≤r.length→m<N→Z2 (fun x:Int × Int × Int × Int × Int × Int × σ=>Zaz M y s t u r x.1 x.2.1 x.2.2.1 x.2.2.2.1 x.2.2.2.2.1 x.2.2.2.2.2.1 x.2.2.2.2.2.2) N ((k:Int),(stAt t u s r k).Port,(stAt t u s r k).Early,(stAt t u s r k).Late,(stAt t u s r k).Open,(stAt t u s r k).Long,G k)=some (.inl (G r.length)):=by
  intro M m
  induction m with
  | zero =>
   intro N k e1 e2 e3
   obtain rfl:k=r.length:=by omega
   cases N with
   | zero=>omega
   | succ N =>
    rw [Zbr (r:=(.inl (G r.length)))]
    show Zaz _ y s t u r ((r.length:Nat):Int) _ _ _ _ _ _=_
    unfold Zaz
    rw [if_neg (by simp)]
  | succ m ih =>
   intro N k e1 e2 e3
   cases N with
   | zero=>omega
   | succ N =>
    have hst:=Zos (N:=M) g hu hs h8 hp (k:=k) (by omega) (hy k (by omega))
    rw [Zdp (y:=(((k+1:Nat):Int),(Zas t u s r k).Port,(Zas t u s r k).Early,(Zas t u s r k).Late,(Zas t u s r k).Open,(Zas t u s r k).Long,G (k+1))) hst]
    exact ih N (k+1) (by omega) (by omega) (by omega)
 have:=key N r.length N 0 (by omega) (by omega) (by omega)
 rw [show ((0:Nat):Int)=0 from rfl] at this
 have e:(Z2 (fun x:Int × Int × Int × Int × Int × Int × σ=>Zaz N y s t u r x.1 x.2.1 x.2.2.1 x.2.2.2.1 x.2.2.2.2.1 x.2.2.2.2.2.1 x.2.2.2.2.2.2) N (0,0,0,0,0,0,G 0))=some (.inl (G r.length)):=this
 rw [e]
 rfl
theorem ZfG (k:Int) (hN:200≤N):ZdR N t u s k=some (if ZeD t then (if Zex u then (if ZaH t s then (if s.Class=7∧0≤k∧k<s.Routes.length then 0 else 2) else 321) else 320) else 260):=by
 unfold ZdR
 rw [ZdD (by omega),Option.bind_some]
 cases hT:ZeD t with
 | false=>rfl
 | true =>
  simp only [if_true,bne_self_eq_false,Bool.false_eq_true,if_false]
  rw [Zdf,Option.bind_some]
  cases hU:Zex u with
  | false=>rfl
  | true =>
   simp only [if_true,bne_self_eq_false,Bool.false_eq_true,if_false]
   rw [ZeN (Za1.1 hT) s hN,Option.bind_some]
   cases hS:ZaH t s with
   | false=>rfl
   | true =>
    rw [if_neg (by simp:¬ (!true)=true),if_pos (rfl:true=true)]
    have hl:1≤s.Routes.length∧s.Routes.length≤2:=by
     simp only [ZaH,lenB,Bool.and_eq_true,decide_eq_true_eq] at hS
     exact hS.2.2.1
    rw [Z5 (by omega) (by omega),Zch]
    have hb:inB k 0 ((s.Routes.length:Int) - 1)=decide (0≤k∧k<(s.Routes.length:Int)):=by
     rw [Bool.eq_iff_iff]
     simp only [inB,Bool.and_eq_true,decide_eq_true_eq]
     omega
    rw [hb]
    by_cases hc:s.Class=7
    ·have h7:(s.Class != 7)=false:=by simp [hc]
     rw [h7]
     by_cases hk:0≤k∧k<(s.Routes.length:Int)
     ·simp only [decide_eq_true hk,hc,hk,and_self,if_true];rfl
     ·simp only [decide_eq_false hk,hc,hk,and_false,if_false];rfl
    ·have h7:(s.Class != 7)=true:=by simp [hc]
     rw [h7]
     simp only [hc,false_and,if_false,if_true];rfl
def Zdd (s:Zh) (k:Int):List Int:=s.Routes.getD k.toNat []
theorem Zf9 (h:ZaH t s=true):Zmn s:=by
 simp only [ZaH,ZnO,inB,Bool.and_eq_true,decide_eq_true_eq] at h
 exact h.1.2.2.2.2.1
theorem Zd5 (h:ZaH t s=true):(1≤s.Routes.length∧s.Routes.length≤2)∧s.Routes.all (ZeF t s)=true:=by
 simp only [ZaH,lenB,Bool.and_eq_true,decide_eq_true_eq] at h
 exact ⟨h.2.2.1,h.2.2.2.1⟩
theorem Zhi (h:ZaH t s=true) {k:Int} (h0:0≤k) (hk:k<s.Routes.length):idx s.Routes k=some (Zdd s k)∧ZaG t (Zdd s k)=true:=by
 refine ⟨Zbk [] h0 hk,(Zgg (Zd5 h).2 (k:=k.toNat) (by omega)).1⟩
theorem Ziw (hT:ZeD t=true) (hU:Zex u=true) (hS:ZaH t s=true) {k:Int} (hc:s.Class=7) (h0:0≤k) (hk:k<s.Routes.length) (hN:200≤N) :
  Zb6 N t u s k=some ((List.range (Zdd s k).length).map (Zas t u s (Zdd s k)),0):=by
 obtain ⟨e1,e2⟩:=Zhi hS h0 hk
 have h8:=(ZcK e2).2.1
 unfold Zb6
 rw [ZfG k hN,hT,hU,hS,if_pos rfl,if_pos rfl,if_pos rfl,if_pos ⟨hc,h0,hk⟩,Option.bind_some,if_neg (by decide)]
 show (ZbT N _ s k t u []).bind _=_
 have:=Znc (N:=N) (Za1.1 hT) (Zfx hU) (Zf9 hS) e2 (y:=fun (s:(List ZT)) (x12:ZT)=>ZdB (fun v:(List ZT)=>Zbz N v x12) s) (fun j=>(List.range j).map (Zas t u s (Zdd s k))) (fun j hj=>by
  show ZdB (fun v=>Zbz N v (Zas t u s (Zdd s k) j)) _=_
  unfold ZdB Zbz
  simp only
  rw [Zep (by simp;omega) (by omega),List.range_succ,List.map_append]
  rfl) e1 hN
 simp only [List.range_zero,List.map_nil] at this
 rw [this]
 rfl
theorem Ziv (hT:ZeD t=true) (hU:Zex u=true) (hS:ZaH t s=true) {k:Int} (hc:s.Class=7) (h0:0≤k) (hk:k<s.Routes.length) (hN:200≤N) :
  ZcO N t u s k=some (ZbG t u (Zas t u s (Zdd s k) ((Zdd s k).length - 1)),0):=by
 obtain ⟨e1,e2⟩:=Zhi hS h0 hk
 obtain ⟨h1,h8,hp⟩:=ZcK e2
 have g:=Za1.1 hT
 have hL:t.Links.length≤1000:=by have:=g.l24;omega
 unfold ZcO
 rw [ZfG k hN,hT,hU,hS,if_pos rfl,if_pos rfl,if_pos rfl,if_pos ⟨hc,h0,hk⟩,Option.bind_some,if_neg (by decide)]
 show (ZbT N _ s k t u 0).bind _=_
 have:=Znc (N:=N) g (Zfx hU) (Zf9 hS) e2 (y:=fun (s:Int) (x21:ZT)=>ZdB (fun v:Int=>Zby N t u v x21) s) (fun j=>if j=0 then 0 else ZbG t u (Zas t u s (Zdd s k) (j - 1))) (fun j hj=>by
  show ZdB (fun v=>Zby N t u v (Zas t u s (Zdd s k) j)) _=_
  unfold ZdB Zby
  have hb:=ZiI g (Zfx hU) (Zf9 hS) hp j hj
  obtain ⟨o1,o2,o3⟩:=hb.told g (Zfx hU)
  obtain ⟨_,_,d1,d2⟩:=ZgC g hb.port
  have l1:=hb.long1;have l2:=hb.long2;have l3:=hb.op1;have l4:=hb.op2
  have q:=(Zfx hU).p1;have q':=(Zfx hU).p2
  simp only
  rw [Zkr hL hb.port,Option.bind_some,Z5 (x:=(Zas t u s (Zdd s k) j).Open+(Zas t u s (Zdd s k) j).Long) (by omega) (by omega),Z5 (x:=(Zas t u s (Zdd s k) j).Open+(Zas t u s (Zdd s k) j).Long+_) (by omega) (by omega)]
  rw [show w64 ((Zas t u s (Zdd s k) j).Open+(Zas t u s (Zdd s k) j).Long+(plk t (Zas t u s (Zdd s k) j).Port).Delay+u.Proc)=ZbG t u (Zas t u s (Zdd s k) j) from Z5 (by omega) (by omega)]
  rw [if_neg (Nat.succ_ne_zero j)]
  rfl) e1 hN
 rw [if_pos rfl] at this
 rw [this,Option.bind_some,if_neg (by omega)]
theorem Zi0 {k e:Int} (h:ZdR N t u s k=some e) (he:e ≠ 0):Zb6 N t u s k=some ([],e)∧ZcO N t u s k=some (0,e):=by
 have:(e != 0)=true:=by simpa using he
 constructor
 ·unfold Zb6;rw [h,Option.bind_some,this];rfl
 ·unfold ZcO;rw [h,Option.bind_some,this];rfl
theorem ZcP (hN:200≤N):Zal N t s=some (if ZeD t then (if ZaH t s then 0 else 321) else 260):=by
 unfold Zal
 rw [ZdD (by omega),Option.bind_some]
 cases hT:ZeD t with
 | false=>rfl
 | true =>
  simp only [if_true,bne_self_eq_false,Bool.false_eq_true,if_false]
  rw [ZeN (Za1.1 hT) s hN,Option.bind_some]
  cases ZaH t s<;>rfl
def dS:Zh:=⟨0,0,0,0,0,0,⟨0,0⟩,0,[]⟩
def idAt (l:List Zh) (k:Nat):Int:=(l.getD k dS).Id
def Zle (l:List Zh) (k:Nat):Bool := !((List.range k).any fun j=>idAt l j==idAt l k)
def allR (t:Zg) (l:List Zh):Int:=if ZeD t then (if l.length≤12 then (if l.all (ZaH t) then (if allB l.length (Zle l) then 0 else 322) else 321) else 3) else 260
theorem ZbW (l:List Zh) (hN:200≤N):ZaF N t l=some (allR t l):=by
 unfold ZaF allR
 rw [ZdD (by omega),Option.bind_some]
 cases hT:ZeD t with
 | false=>rfl
 | true =>
  have g:=Za1.1 hT
  simp only [if_true,bne_self_eq_false,Bool.false_eq_true,if_false]
  by_cases h12:l.length≤12
  ·rw [if_neg (by simp;omega),if_pos h12]
   have:=Zau (n:=l.length) (p:=fun k=>ZaH t (l.getD k dS)) (body:=fun x:Int=>ZaS N t l x) (bad:=.inr 321) (fin:=.inl ()) (fun k hk=>by
    unfold ZaS
    rw [if_pos (by simp;omega),ZcB hk,Option.bind_some,ZcX hk,ZeN g _ hN,Option.bind_some,ZS (by omega)]
    cases ZaH t l[k]<;>rfl) (by unfold ZaS;rw [if_neg (by simp)]) (N:=N) (by omega)
   rw [this,ZhA l dS (ZaH t)]
   cases l.all (ZaH t) with
   | false=>rfl
   | true =>
    simp only [if_true,Option.bind_some]
    have:=(Zjy (n:=l.length) (p:=Zle l) (f:=fun (b:List (Int × Bool)) k=>ZiE b (idAt l k) true) (body:=fun x:Int × (List (Int × Bool))=>Zar N l x.1 x.2) (bad:=.inr 322) (fin:=fun _=>.inl ())
     (fun k b=>∀ x,Zlh b x false=(List.range k).any fun j=>idAt l j==x)
     (fun k b hk hb=>by
      show Zar N l (k:Int) b=_
      unfold Zar
      rw [if_pos (by simp;omega),ZcB hk,Option.bind_some]
      have hid:l[k].Id=idAt l k:=by unfold idAt;rw [ZcX hk]
      rw [hid,hb,ZS (by omega)]
      unfold Zle
      cases (List.range k).any fun j=>idAt l j==idAt l k<;>rfl)
     (fun k b hk hb _ x=>by
      rw [ZmE,hb,List.range_succ,List.any_append]
      by_cases e:x=idAt l k
      ·subst e;simp
      ·have:(idAt l k==x)=false:=by simpa using Ne.symm e
       simp [e,this])
     (fun b hb=>by show Zar N l (l.length:Int) b=_;unfold Zar;rw [if_neg (by simp)]) (N:=N) (by omega) (b0:=[]) (fun x=>rfl)).1
    rw [this]
    cases allB l.length (Zle l)<;>rfl
  ·rw [if_pos (by simp;omega),if_neg h12]
end
end Go.Sh

