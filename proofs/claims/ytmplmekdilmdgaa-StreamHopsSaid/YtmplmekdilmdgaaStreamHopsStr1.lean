/- Part of the proof; written by a program out of the texts in wip/. -/
import Derived.Test.YtmplmekdilmdgaaStreamHopsTop3
set_option linter.unusedVariables false
set_option linter.unusedSimpArgs false
namespace Go.Sh
open Go Go.Eng
section
variable {N:Nat} {t:Zi}
theorem Zgd (g:Good t) (r:List Int) (hN:200≤N):Zca N t r=some (ZaM t r):=by
 by_cases h:r.length≤100
 ·exact Zj9 g h hN
 ·unfold Zca ZaM
  rw [if_pos (by simp;omega)]
  have:decide (r.length≤8)=false:=by simp;omega
  rw [this];simp
theorem Zf9 (g:Good t) (r:List Int) (hN:200≤N):Zbb N ⟨t⟩ r=some (ZaM t r):=by
 by_cases h:r.length≤100
 ·exact Zfd g h hN
 ·unfold Zbb ZaM
  rw [if_pos (by simp;omega)]
  have:decide (r.length≤8)=false:=by simp;omega
  rw [this];simp
theorem ZhG {r:List Int} (h:ZaM t r=true):r.length≤100:=by have:=Zci h;omega
theorem ZeK (r:List Int) (hN:200≤N):ZcO N t r=some (errR t r):=by
 by_cases h:r.length≤100
 ·exact Zd4 h hN
 ·unfold ZcO errR
  rw [Zdw (by omega),Option.bind_some]
  cases hT:Zeh t with
  | false=>rfl
  | true =>
   simp only [if_true,bne_self_eq_false,Bool.false_eq_true,if_false]
   rw [Zf9 (Zbe.1 hT) r hN,Option.bind_some]
   cases ZaM t r<;>rfl
theorem Zj3 (r:List Int) (hN:200≤N):ZcX N t r=some (if errR t r=0 then (nd t r 0,nd t r r.length,0) else (0,0,errR t r)):=by
 by_cases he:errR t r=0
 ·rw [if_pos he];exact Zj1 (ZhG (Zgr.1 he).2) hN he
 ·rw [if_neg he]
  by_cases h:r.length≤100
  ·exact Zj2 h hN he
  ·have hne:(errR t r != 0)=true:=by simpa using he
   unfold ZcX ZcN ZcE
   rw [ZeK r hN]
   simp only [Option.bind_some,hne,if_true]
theorem Zjf (a b:List Int) (hN:200≤N) :
  ZcP N t a b=some (if errR t a=0 then (if ZaM t b then (ZjV t a b,0) else (false,310)) else (false,errR t a)):=by
 by_cases ha:a.length≤100
 ·by_cases hb:b.length≤100
  ·exact Zj5 ha hb hN
  ·have hvb:ZaM t b=false:=by
    cases h:ZaM t b with
    | false=>rfl
    | true=>exact absurd (ZhG h) hb
   unfold ZcP ZcD
   rw [ZeK a hN,Option.bind_some]
   by_cases he:errR t a=0
   ·rw [if_pos he,he]
    simp only [bne_self_eq_false,Bool.false_eq_true,if_false]
    unfold ZcY
    rw [Zf9 (Zbe.1 (Zgr.1 he).1) b hN,hvb]
    rfl
   ·rw [if_neg he]
    have:(errR t a != 0)=true:=by simpa using he
    rw [this]
    rfl
 ·have hva:ZaM t a=false:=by
   cases h:ZaM t a with
   | false=>rfl
   | true=>exact absurd (ZhG h) ha
  have he:errR t a ≠ 0:=fun e=>by have:=(Zgr.1 e).2;rw [hva] at this;cases this
  unfold ZcP ZcD
  rw [ZeK a hN,Option.bind_some,if_neg he]
  have:(errR t a != 0)=true:=by simpa using he
  rw [this]
  rfl
def inB (v l h:Int):Bool:=decide (v ≥ l)&&decide (v≤h)
def ZdI (u:ZE):Bool:=inB u.Grid 1 10000&&(inB u.Slack 0 1000&&(inB u.Proc 0 10000&&inB u.Cap 1542 65536))
def ZjY (t:Zi) (n:Int):Bool:=Zdr t n&&stB t n
def Zmf (s:Zm):Bool :=
 if s.Class==7 then inB s.Period 1 240&&((s.Bucket.Burst==0)&&(s.Bucket.Rate==0))
 else if s.Class==6 then (s.Period==0)&&(inB s.Bucket.Burst s.Size 1048576&&inB s.Bucket.Rate 1 2097152) else false
def Zeu (t:Zi) (s:Zm) (r:List Int):Bool:=ZaM t r&&((nd t r 0==s.Talker)&&(nd t r r.length==s.Listener))
def ZmD (t:Zi) (s:Zm):Bool:=decide (s.Routes.length<2)||ZjV t (s.Routes.getD 0 []) (s.Routes.getD 1 [])
def ZnN (t:Zi) (s:Zm):Bool :=
 inB s.Id 1 4095&&(ZjY t s.Talker&&(ZjY t s.Listener&&((s.Talker != s.Listener)&&(inB s.Size 84 1542&&inB s.Deadline 1 1099511627776))))
def lenB (s:Zm):Bool:=decide (1≤s.Routes.length)&&decide (s.Routes.length≤2)
def Za5 (t:Zi) (s:Zm):Bool:=ZnN t s&&(Zmf s&&(lenB s&&(s.Routes.all (Zeu t s)&&ZmD t s)))
theorem Zcj (v l h:Int):Zao N v l h=some (inB v l h):=rfl
theorem ZfA (v l h:Int):Zb0 N v l h=some (inB v l h):=rfl
theorem ZgJ (u:ZE):Zck N u=some (if ZdI u then 0 else 320):=by
 unfold Zck ZdI
 simp only [Zcj,Option.bind_some]
 cases inB u.Grid 1 10000<;>cases inB u.Slack 0 1000<;>cases inB u.Proc 0 10000<;>cases inB u.Cap 1542 65536<;>rfl
theorem Zj8 (u:ZE):ZeL N u=some (ZdI u):=by
 unfold ZeL ZdI
 simp only [ZfA,Option.bind_some]
 cases inB u.Grid 1 10000<;>cases inB u.Slack 0 1000<;>cases inB u.Proc 0 10000<;>cases inB u.Cap 1542 65536<;>rfl
theorem Zna (g:Good t) (n:Int):inB n 0 (w64 (t.Nodes - 1))=Zdr t n:=by
 rw [ZV (by have:=g.n2;omega) (by have:=g.n12;omega)]
 unfold inB Zdr
 congr 1
 exact decide_eq_decide.2 ⟨fun h=>by omega,fun h=>by omega⟩
theorem ZhR (g:Good t) (n:Int):ZcC N t n=some (ZjY t n):=by
 unfold ZcC ZjY
 simp only [Zcj,Zna g,Option.bind_some]
 cases h:Zdr t n with
 | false=>rfl
 | true=>simp only [if_true,Zek g.st h,Option.bind_some,Bool.true_and]
theorem ZiD (g:Good t) (n:Int):ZbZ N t n=some (ZjY t n):=by
 unfold ZbZ ZjY
 simp only [ZfA,Zna g,Option.bind_some]
 cases h:Zdr t n with
 | false=>rfl
 | true=>simp only [if_true,Zek g.st h,Option.bind_some,Bool.true_and]
theorem Zi1 (g:Good t) (s:Zm) (r:List Int) (hN:200≤N):Zea N t r s.Talker s.Listener=some (Zeu t s r):=by
 unfold Zea Zeu
 rw [Zj3 r hN,Option.bind_some]
 have hT:=Zbe.2 g
 by_cases he:errR t r=0
 ·rw [if_pos he,(Zgr.1 he).2];rfl
 ·rw [if_neg he]
  have hv:ZaM t r=false:=by
   cases h:ZaM t r with
   | false=>rfl
   | true=>exact absurd (Zgr.2 ⟨hT,h⟩) he
  have:(errR t r==0)=false:=by simpa using he
  simp only [this,hv,Bool.false_and]
theorem ZjW {α:Type} (l:List α) (d:α) (p:α→Bool):allB l.length (fun k=>p (l.getD k d))=l.all p:=by
 rw [Bool.eq_iff_iff,Za8,List.all_eq_true]
 constructor
 ·intro h x hx
  obtain ⟨k,hk,rfl⟩:=List.getElem_of_mem hx
  have:=h k hk
  rwa [Zdq hk] at this
 ·intro h k hk
  rw [Zdq hk]
  exact h _ (List.getElem_mem hk)
theorem Zo8 {s:Zm}:inB ((List.length s.Routes:Nat):Int) 1 2=lenB s:=by
 unfold inB lenB
 congr 1<;>exact decide_eq_decide.2 ⟨fun h=>by omega,fun h=>by omega⟩
theorem ZhK (g:Good t) {s:Zm} (hl:lenB s=true) (hN:200≤N):Zc8 N s t=some (s.Routes.all (Zeu t s)):=by
 simp only [lenB,Bool.and_eq_true,decide_eq_true_eq] at hl
 unfold Zc8
 have:=Za0 (n:=s.Routes.length) (p:=fun k=>Zeu t s (s.Routes.getD k [])) (body:=fun x:Int=>Zbf N s t x) (bad:=.inr false) (fin:=.inl ()) (fun k hk=>by
  unfold Zbf
  rw [if_pos (by simp;omega),ZcH hk,Option.bind_some,Zdq hk,Zi1 g s _ hN,Option.bind_some,ZW (by omega)]
  cases Zeu t s s.Routes[k]<;>rfl) (by unfold Zbf;rw [if_neg (by simp)]) (N:=N) (by omega)
 rw [this,ZjW s.Routes [] (Zeu t s)]
 cases s.Routes.all (Zeu t s)<;>rfl
theorem Zf8 {s:Zm} (h:s.Routes.all (Zeu t s)=true) {k:Nat} (hk:k<s.Routes.length):ZaM t (s.Routes.getD k [])=true∧nd t (s.Routes.getD k []) 0=s.Talker∧nd t (s.Routes.getD k []) (s.Routes.getD k []).length=s.Listener:=by
 have:=List.all_eq_true.1 h _ (List.getElem_mem hk)
 rw [Zdq hk]
 simpa only [Zeu,Bool.and_eq_true,beq_iff_eq] using this
theorem ZhI (g:Good t) {s:Zm} (hl:lenB s=true) (hr:s.Routes.all (Zeu t s)=true) (hN:200≤N):Zc7 N s t=some (ZmD t s):=by
 simp only [lenB,Bool.and_eq_true,decide_eq_true_eq] at hl
 unfold Zc7 ZmD
 by_cases h2:s.Routes.length<2
 ·rw [if_pos (by simp;omega)];simp [h2]
 ·rw [if_neg (by simp;omega),show (0:Int)=((0:Nat):Int) from rfl,show (1:Int)=((1:Nat):Int) from rfl,ZcH (by omega),ZcH (by omega)]
  simp only [Option.bind_some]
  have e0:=Zf8 hr (k:=0) (by omega)
  have e1:=Zf8 hr (k:=1) (by omega)
  rw [Zdq (by omega)] at e0 e1
  rw [Zjf _ _ hN,if_pos (Zgr.2 ⟨Zbe.2 g,e0.1⟩),e1.1,Option.bind_some,Zdq (by omega),Zdq (by omega)]
  simp [h2]
theorem ZeE (g:Good t) (s:Zm) (hN:200≤N):ZcM N t s=some (Za5 t s):=by
 unfold ZcM Zd1 Zd0 ZdZ ZdY ZdX
 simp only [Zcj,Option.bind_some,ZhR g,Zo8]
 unfold Za5 ZnN
 cases inB s.Id 1 4095 with
 | false=>rfl
 | true =>
 cases ZjY t s.Talker with
 | false=>rfl
 | true =>
 cases ZjY t s.Listener with
 | false=>rfl
 | true =>
 cases h4:(s.Talker != s.Listener) with
 | false=>simp
 | true =>
 cases h5:inB s.Size 84 1542 with
 | false=>simp
 | true =>
 cases inB s.Deadline 1 1099511627776 with
 | false=>simp
 | true =>
 have hc:Zc9 N s=some (Zmf s):=by
  unfold Zc9 Zmf
  simp only [Zcj,Option.bind_some]
  by_cases c7:(s.Class==7)=true
  ·rw [if_pos c7,if_pos c7]
   cases inB s.Period 1 240<;>simp
  ·rw [if_neg c7,if_neg c7]
   by_cases c6:(s.Class==6)=true
   ·rw [if_pos c6,if_pos c6]
    cases s.Period==0 with
    | false=>rfl
    | true =>
     simp only [if_true]
     unfold Zfa Zco
     simp only [Option.bind_some]
     simp only [inB,Bool.and_eq_true,decide_eq_true_eq] at h5
     unfold inB
     by_cases q1:s.Bucket.Burst ≥ s.Size
     ·have q2:(1:Int)≤s.Bucket.Burst:=by omega
      by_cases q3:s.Bucket.Burst≤1048576<;>by_cases q4:(1:Int)≤s.Bucket.Rate<;>by_cases q5:s.Bucket.Rate≤2097152<;>simp [q1,q2,q3,q4,q5,ge_iff_le]
     ·by_cases q2:(1:Int)≤s.Bucket.Burst<;>by_cases q3:s.Bucket.Burst≤1048576<;>by_cases q4:(1:Int)≤s.Bucket.Rate<;>by_cases q5:s.Bucket.Rate≤2097152<;>simp [q1,q2,q3,q4,q5,ge_iff_le]
   ·rw [if_neg c6,if_neg c6]
 rw [hc]
 cases Zmf s with
 | false=>simp
 | true =>
 cases hl:lenB s with
 | false=>simp
 | true =>
 rw [ZhK g hl hN]
 cases hr:s.Routes.all (Zeu t s) with
 | false=>simp
 | true =>
 rw [ZhI g hl hr hN]
 cases ZmD t s<;>simp
end
end Go.Sh

set_option linter.unusedVariables false
set_option linter.unusedSimpArgs false
namespace Go.Sh
open Go Go.Eng
theorem ZmG {κ υ:Type} [DecidableEq κ] (l:List (κ × υ)) (x y:κ) (v z:υ):Zle (ZiG l x v) y z=if y=x then v else Zle l y z:=by
 induction l with
 | nil =>
  unfold Zle ZmF
  simp only [ZiG,List.find?_cons,List.find?_nil]
  by_cases e:x=y
  ·subst e;simp
  ·simp [e,Ne.symm e]
 | cons p r ih =>
  unfold Zle ZmF at ih ⊢
  simp only [ZiG]
  by_cases e:p.1=x
  ·subst e
   simp only [if_true,List.find?_cons]
   by_cases e:p.1=y
   ·subst e;simp
   ·simp [e,Ne.symm e]
  ·simp only [e,if_false,List.find?_cons]
   by_cases e2:p.1=y
   ·subst e2;simp [e]
   ·simp only [e2,decide_false]
    exact ih
structure Zls (u:ZE):Prop where
 g1:1≤u.Grid
 g2:u.Grid≤10000
 s1:0≤u.Slack
 s2:u.Slack≤1000
 p1:0≤u.Proc
 p2:u.Proc≤10000
theorem ZeH {u:ZE} (h:ZdI u=true):Zls u:=by
 simp only [ZdI,inB,Bool.and_eq_true,decide_eq_true_eq] at h
 obtain ⟨⟨a,b⟩,⟨c,d⟩,⟨e,f⟩,_⟩:=h
 exact ⟨a,b,c,d,e,f⟩
def Zaz (t:Zi) (u:ZE) (h:ZJ):Int:=h.Open+h.Long+(plk t h.Port).Delay+u.Proc
def hop0 (t:Zi) (s:Zm) (r:List Int):ZJ:=⟨at0 r 0,0,0,0,s.Size * (plk t (at0 r 0)).Per⟩
def ZjN (u:ZE) (x:Int):Int:=(x+u.Grid - 1) / u.Grid * u.Grid
def hopN (t:Zi) (u:ZE) (s:Zm) (h:ZJ) (p:Int):ZJ :=
 ⟨p,Zaz t u h - 2 * u.Slack,Zaz t u h+2 * u.Slack,ZjN u (Zaz t u h+2 * u.Slack),s.Size * (plk t p).Per⟩
def ZP (t:Zi) (u:ZE) (s:Zm) (r:List Int):Nat→ZJ
 | 0=>hop0 t s r
 | k+1=>hopN t u s (ZP t u s r k) (at0 r (k+1))
theorem Zlm {u:ZE} (h:Zls u) {x:Int} (hx:0≤x):x≤ZjN u x∧ZjN u x<x+u.Grid∧ZjN u x % u.Grid=0:=by
 unfold ZjN
 have hg:=h.g1
 have e:=Int.mul_ediv_add_emod (x+u.Grid - 1) u.Grid
 have e1:=Int.emod_nonneg (x+u.Grid - 1) (show u.Grid ≠ 0 by omega)
 have e2:=Int.emod_lt_of_pos (x+u.Grid - 1) (show 0<u.Grid by omega)
 rw [Int.mul_comm] at e
 refine ⟨by omega,by omega,?_⟩
 exact Int.mul_emod_left _ _
section
variable {N:Nat} {t:Zi} {u:ZE} {s:Zm}
theorem Zez (g:Good t) {p:Int} (hp:Zch t p=true):1≤(plk t p).Per∧(plk t p).Per≤1000∧0≤(plk t p).Delay∧(plk t p).Delay≤10000:=by
 obtain ⟨h1,h2⟩:=Zod hp
 have:=(g.links (Int.tdiv p 2).toNat (by omega)).1
 simp only [ZdE,Bool.and_eq_true,decide_eq_true_eq] at this
 exact ⟨this.2.2.2.2.1,this.2.2.2.2.2.1,this.2.2.2.2.2.2.1,this.2.2.2.2.2.2.2⟩
def Ziy (s:Zm):Prop:=84≤s.Size∧s.Size≤1542
theorem Zjw (g:Good t) (hs:Ziy s) {p:Int} (hp:Zch t p=true):84≤s.Size * (plk t p).Per∧s.Size * (plk t p).Per≤1542000:=by
 obtain ⟨h1,h2,_,_⟩:=Zez g hp
 obtain ⟨a,b⟩:=hs
 have c:s.Size * 1≤s.Size * (plk t p).Per:=Int.mul_le_mul_of_nonneg_left h1 (by omega)
 have d:s.Size * (plk t p).Per≤s.Size * 1000:=Int.mul_le_mul_of_nonneg_left h2 (by omega)
 omega
structure HB (t:Zi) (k:Nat) (h:ZJ):Prop where
 port:Zch t h.Port=true
 long1:84≤h.Long
 long2:h.Long≤1542000
 op1:0≤h.Open
 op2:h.Open≤1600000 * (k:Int)
theorem HB.told (g:Good t) (hu:Zls u) {k:Nat} {h:ZJ} (hb:HB t k h):h.Open+84≤Zaz t u h∧Zaz t u h≤1600000 * (k:Int)+1562000∧h.Open+h.Long≤Zaz t u h:=by
 obtain ⟨h1,h2,h3,h4,h5⟩:=hb
 obtain ⟨_,_,d1,d2⟩:=Zez g h1
 have:=hu.p1;have:=hu.p2
 unfold Zaz
 omega
theorem ZnL (k:Nat) (r:List Int):(ZP t u s r k).Port=at0 r k:=by cases k<;>rfl
theorem ZnM (k:Nat) (r:List Int):(ZP t u s r k).Long=s.Size * (plk t (at0 r k)).Per:=by cases k<;>rfl
theorem Ze6 (g:Good t) (hu:Zls u) (hs:Ziy s) {r:List Int} (hp:∀ k,k<r.length→Zch t (at0 r k)=true):∀ k,k<r.length→HB t k (ZP t u s r k)
 | 0,hk=>by
  have:=Zjw g hs (hp 0 hk)
  exact ⟨hp 0 hk,this.1,this.2,Int.le_refl 0,by simp [ZP,hop0]⟩
 | k+1,hk=>by
  have ih:=Ze6 g hu hs hp k (by omega)
  have:=Zjw g hs (hp (k+1) hk)
  have ht:=ih.told g hu
  have h0:=ih.op1
  have c:=Zlm hu (x:=Zaz t u (ZP t u s r k)+2 * u.Slack) (by have:=hu.s1;omega)
  have:=hu.s1;have:=hu.s2;have:=hu.g2
  refine ⟨hp (k+1) hk,?_,?_,?_,?_⟩
  ·show 84≤s.Size * (plk t (at0 r (k+1))).Per;omega
  ·show s.Size * (plk t (at0 r (k+1))).Per≤1542000;omega
  ·show 0≤ZjN u (Zaz t u (ZP t u s r k)+2 * u.Slack);omega
  ·show ZjN u (Zaz t u (ZP t u s r k)+2 * u.Slack)≤1600000 * ((k+1:Nat):Int);omega
def stAt (t:Zi) (u:ZE) (s:Zm) (r:List Int):Nat→ZJ
 | 0=>⟨0,0,0,0,0⟩
 | k+1=>ZP t u s r k
theorem Zoo {σ:Type} (g:Good t) (hu:Zls u) (hs:Ziy s) {r:List Int} (h8:r.length≤8) (hp:∀ k,k<r.length→Zch t (at0 r k)=true) {k:Nat} (hk:k<r.length) {y:σ→ZJ→Option (σ × Bool)} {b b':σ}
  (hy:y b (ZP t u s r k)=some (b',true)):ZaI N y s t u r (k:Int) (stAt t u s r k).Port (stAt t u s r k).Early (stAt t u s r k).Late (stAt t u s r k).Open (stAt t u s r k).Long b =
   some (.inl (((k+1:Nat):Int),(ZP t u s r k).Port,(ZP t u s r k).Early,(ZP t u s r k).Late,(ZP t u s r k).Open,(ZP t u s r k).Long,b')):=by
 have hL:t.Links.length≤1000:=by have:=g.l24;omega
 have hlen:=Zjw g hs (hp k hk)
 have hb:=Ze6 g hu hs hp k hk
 unfold ZaI
 rw [if_pos (by simp;omega),ZcH hk,Option.bind_some]
 have hat:r[k]=at0 r k:=(Zg8 hk).symm
 have key:(if decide ((k:Int) > 0)=true then (idx t.Links (w64 (Int.tdiv (stAt t u s r k).Port 2))).bind fun e1020 =>
    (quoI .i64 (w64 ((w64 ((w64 ((w64 ((w64 ((w64 ((stAt t u s r k).Open+(stAt t u s r k).Long))+e1020.Delay))+u.Proc))+(w64 (2 * u.Slack))))+u.Grid)) - 1)) u.Grid).bind fun q1026 =>
    (some ((w64 ((w64 ((w64 ((w64 ((stAt t u s r k).Open+(stAt t u s r k).Long))+e1020.Delay))+u.Proc)) - (w64 (2 * u.Slack)))),(w64 ((w64 ((w64 ((w64 ((stAt t u s r k).Open+(stAt t u s r k).Long))+e1020.Delay))+u.Proc))+(w64 (2 * u.Slack)))),(w64 (q1026 * u.Grid))))
   else some ((stAt t u s r k).Early,(stAt t u s r k).Late,(stAt t u s r k).Open))=some ((ZP t u s r k).Early,(ZP t u s r k).Late,(ZP t u s r k).Open):=by
  cases k with
  | zero=>rw [if_neg (by simp)];rfl
  | succ j =>
   rw [if_pos (by simp only [decide_eq_true_eq];omega)]
   have hbj:=Ze6 g hu hs hp j (by omega)
   obtain ⟨o1,o2,o3⟩:=hbj.told g hu
   obtain ⟨_,_,d1,d2⟩:=Zez g hbj.port
   obtain ⟨g1,g2,s1,s2,p1,p2⟩:=hu
   have l1:=hbj.long1;have l2:=hbj.long2;have l3:=hbj.op1;have l4:=hbj.op2
   have hj:(j:Int)≤8:=by omega
   show ((idx t.Links (w64 (Int.tdiv (ZP t u s r j).Port 2))).bind fun e1020=>_)=_
   rw [Zim hL hbj.port,Option.bind_some]
   have e1:w64 ((ZP t u s r j).Open+(ZP t u s r j).Long)=(ZP t u s r j).Open+(ZP t u s r j).Long:=ZV (by omega) (by omega)
   have e2:w64 ((ZP t u s r j).Open+(ZP t u s r j).Long+(plk t (ZP t u s r j).Port).Delay)=(ZP t u s r j).Open+(ZP t u s r j).Long+(plk t (ZP t u s r j).Port).Delay:=ZV (by omega) (by omega)
   have e3:w64 ((ZP t u s r j).Open+(ZP t u s r j).Long+(plk t (ZP t u s r j).Port).Delay+u.Proc)=Zaz t u (ZP t u s r j):=ZV (by omega) (by omega)
   have e4:w64 (2 * u.Slack)=2 * u.Slack:=ZV (by omega) (by omega)
   simp only [stAt,e1,e2,e3,e4]
   have e5:w64 (Zaz t u (ZP t u s r j)+2 * u.Slack)=Zaz t u (ZP t u s r j)+2 * u.Slack:=ZV (by omega) (by omega)
   have e6:w64 (Zaz t u (ZP t u s r j) - 2 * u.Slack)=Zaz t u (ZP t u s r j) - 2 * u.Slack:=ZV (by omega) (by omega)
   have e7:w64 (Zaz t u (ZP t u s r j)+2 * u.Slack+u.Grid)=Zaz t u (ZP t u s r j)+2 * u.Slack+u.Grid:=ZV (by omega) (by omega)
   have e8:w64 (Zaz t u (ZP t u s r j)+2 * u.Slack+u.Grid - 1)=Zaz t u (ZP t u s r j)+2 * u.Slack+u.Grid - 1:=ZV (by omega) (by omega)
   rw [e5,e6,e7,e8,Zo0 (by omega),Option.bind_some]
   have hn:0≤Zaz t u (ZP t u s r j)+2 * u.Slack+u.Grid - 1:=by omega
   rw [Int.tdiv_eq_ediv_of_nonneg hn]
   have q1:0≤(Zaz t u (ZP t u s r j)+2 * u.Slack+u.Grid - 1) / u.Grid:=Int.ediv_nonneg hn (by omega)
   have q2:(Zaz t u (ZP t u s r j)+2 * u.Slack+u.Grid - 1) / u.Grid≤Zaz t u (ZP t u s r j)+2 * u.Slack+u.Grid - 1:=Int.ediv_le_self _ hn
   have e9:IntKind.i64.wrap ((Zaz t u (ZP t u s r j)+2 * u.Slack+u.Grid - 1) / u.Grid)=(Zaz t u (ZP t u s r j)+2 * u.Slack+u.Grid - 1) / u.Grid:=ZV (by omega) (by omega)
   have c:=Zlm ⟨g1,g2,s1,s2,p1,p2⟩ (x:=Zaz t u (ZP t u s r j)+2 * u.Slack) (by omega)
   have e10:w64 ((Zaz t u (ZP t u s r j)+2 * u.Slack+u.Grid - 1) / u.Grid * u.Grid)=ZjN u (Zaz t u (ZP t u s r j)+2 * u.Slack):=ZV (by unfold ZjN at c;omega) (by unfold ZjN at c;omega)
   rw [e9,e10]
   rfl
 rw [key,Option.bind_some,hat,Zim hL (hp k hk),Option.bind_some]
 have e11:w64 (s.Size * (plk t (at0 r k)).Per)=s.Size * (plk t (at0 r k)).Per:=ZV (by omega) (by omega)
 have e12:(ZJ.mk (at0 r k) (ZP t u s r k).Early (ZP t u s r k).Late (ZP t u s r k).Open (s.Size * (plk t (at0 r k)).Per))=ZP t u s r k:=by
  cases k<;>rfl
 rw [e11]
 simp only
 rw [e12,hy,Option.bind_some,ZW (by omega)]
 simp only [Bool.not_true,Bool.false_eq_true,if_false,ZnL,ZnM]
theorem Znd {σ:Type} (g:Good t) (hu:Zls u) (hs:Ziy s) {r:List Int} (hr:ZaM t r=true) {y:σ→ZJ→Option (σ × Bool)} (G:Nat→σ) (hy:∀ k,k<r.length→y (G k) (ZP t u s r k)=some (G (k+1),true)) {kk:Int}
  (hk:idx s.Routes kk=some r) (hN:200≤N):ZbX N y s kk t u (G 0)=some (G r.length):=by
 obtain ⟨h1,h8,hp⟩:=Zci hr
 unfold ZbX
 rw [hk,Option.bind_some]
 have key:∀ (M m N k:Nat),r.length - k=m→k≤r.length→m<N→Zac (fun x:Int × Int × Int × Int × Int × Int × σ=>ZaI M y s t u r x.1 x.2.1 x.2.2.1 x.2.2.2.1 x.2.2.2.2.1 x.2.2.2.2.2.1 x.2.2.2.2.2.2) N ((k:Int),(stAt t u s r k).Port,(stAt t u s r k).Early,(stAt t u s r k).Late,(stAt t u s r k).Open,(stAt t u s r k).Long,G k)=some (.inl (G r.length)):=by
  intro M m
  induction m with
  | zero =>
   intro N k e1 e2 e3
   obtain rfl:k=r.length:=by omega
   cases N with
   | zero=>omega
   | succ N =>
    rw [Zbq (r:=(.inl (G r.length)))]
    show ZaI _ y s t u r ((r.length:Nat):Int) _ _ _ _ _ _=_
    unfold ZaI
    rw [if_neg (by simp)]
  | succ m ih =>
   intro N k e1 e2 e3
   cases N with
   | zero=>omega
   | succ N =>
    have hst:=Zoo (N:=M) g hu hs h8 hp (k:=k) (by omega) (hy k (by omega))
    rw [ZcS (y:=(((k+1:Nat):Int),(ZP t u s r k).Port,(ZP t u s r k).Early,(ZP t u s r k).Late,(ZP t u s r k).Open,(ZP t u s r k).Long,G (k+1))) hst]
    exact ih N (k+1) (by omega) (by omega) (by omega)
 have:=key N r.length N 0 (by omega) (by omega) (by omega)
 rw [show ((0:Nat):Int)=0 from rfl] at this
 have e:(Zac (fun x:Int × Int × Int × Int × Int × Int × σ=>ZaI N y s t u r x.1 x.2.1 x.2.2.1 x.2.2.2.1 x.2.2.2.2.1 x.2.2.2.2.2.1 x.2.2.2.2.2.2) N (0,0,0,0,0,0,G 0))=some (.inl (G r.length)):=this
 rw [e]
 rfl
theorem Zes (k:Int) (hN:200≤N):Zdo N t u s k=some (if Zeh t then (if ZdI u then (if Za5 t s then (if s.Class=7∧0≤k∧k<s.Routes.length then 0 else 2) else 321) else 320) else 260):=by
 unfold Zdo
 rw [Zdw (by omega),Option.bind_some]
 cases hT:Zeh t with
 | false=>rfl
 | true =>
  simp only [if_true,bne_self_eq_false,Bool.false_eq_true,if_false]
  rw [ZgJ,Option.bind_some]
  cases hU:ZdI u with
  | false=>rfl
  | true =>
   simp only [if_true,bne_self_eq_false,Bool.false_eq_true,if_false]
   rw [ZeE (Zbe.1 hT) s hN,Option.bind_some]
   cases hS:Za5 t s with
   | false=>rfl
   | true =>
    rw [if_neg (by simp:¬ (!true)=true),if_pos (rfl:true=true)]
    have hl:1≤s.Routes.length∧s.Routes.length≤2:=by
     simp only [Za5,lenB,Bool.and_eq_true,decide_eq_true_eq] at hS
     exact hS.2.2.1
    rw [ZV (by omega) (by omega),Zcj]
    have hb:inB k 0 ((s.Routes.length:Int) - 1)=decide (0≤k∧k<(s.Routes.length:Int)):=by
     rw [Bool.eq_iff_iff]
     simp only [inB,Bool.and_eq_true,decide_eq_true_eq]
     omega
    rw [hb]
    by_cases hc:s.Class=7
    ·have h7:(s.Class != 7)=false:=by simp [hc]
     rw [h7]
     by_cases hk:0≤k∧k<(s.Routes.length:Int)
     ·simp only [decide_eq_true hk,hc,hk,and_self,if_true];rfl
     ·simp only [decide_eq_false hk,hc,hk,and_false,if_false];rfl
    ·have h7:(s.Class != 7)=true:=by simp [hc]
     rw [h7]
     simp only [hc,false_and,if_false,if_true];rfl
def ZaB (s:Zm) (k:Int):List Int:=s.Routes.getD k.toNat []
theorem Ze0 (h:Za5 t s=true):Ziy s:=by
 simp only [Za5,ZnN,inB,Bool.and_eq_true,decide_eq_true_eq] at h
 exact h.1.2.2.2.2.1
theorem Zd2 (h:Za5 t s=true):(1≤s.Routes.length∧s.Routes.length≤2)∧s.Routes.all (Zeu t s)=true:=by
 simp only [Za5,lenB,Bool.and_eq_true,decide_eq_true_eq] at h
 exact ⟨h.2.2.1,h.2.2.2.1⟩
theorem Zga (h:Za5 t s=true) {k:Int} (h0:0≤k) (hk:k<s.Routes.length):idx s.Routes k=some (ZaB s k)∧ZaM t (ZaB s k)=true:=by
 refine ⟨Zbu [] h0 hk,(Zf8 (Zd2 h).2 (k:=k.toNat) (by omega)).1⟩
theorem ZfR (hT:Zeh t=true) (hU:ZdI u=true) (hS:Za5 t s=true) {k:Int} (hc:s.Class=7) (h0:0≤k) (hk:k<s.Routes.length) (hN:200≤N) :
  Zaa N t u s k=some ((List.range (ZaB s k).length).map (ZP t u s (ZaB s k)),0):=by
 obtain ⟨e1,e2⟩:=Zga hS h0 hk
 have h8:=(Zci e2).2.1
 unfold Zaa
 rw [Zes k hN,hT,hU,hS,if_pos rfl,if_pos rfl,if_pos rfl,if_pos ⟨hc,h0,hk⟩,Option.bind_some,if_neg (by decide)]
 show (ZbX N _ s k t u []).bind _=_
 have:=Znd (N:=N) (Zbe.1 hT) (ZeH hU) (Ze0 hS) e2 (y:=fun (s:(List ZJ)) (x12:ZJ)=>Zds (fun v:(List ZJ)=>ZbI N v x12) s) (fun j=>(List.range j).map (ZP t u s (ZaB s k))) (fun j hj=>by
  show Zds (fun v=>ZbI N v (ZP t u s (ZaB s k) j)) _=_
  unfold Zds ZbI
  simp only
  rw [ZdM (by simp;omega) (by omega),List.range_succ,List.map_append]
  rfl) e1 hN
 simp only [List.range_zero,List.map_nil] at this
 rw [this]
 rfl
theorem ZfQ (hT:Zeh t=true) (hU:ZdI u=true) (hS:Za5 t s=true) {k:Int} (hc:s.Class=7) (h0:0≤k) (hk:k<s.Routes.length) (hN:200≤N) :
  Zah N t u s k=some (Zaz t u (ZP t u s (ZaB s k) ((ZaB s k).length - 1)),0):=by
 obtain ⟨e1,e2⟩:=Zga hS h0 hk
 obtain ⟨h1,h8,hp⟩:=Zci e2
 have g:=Zbe.1 hT
 have hL:t.Links.length≤1000:=by have:=g.l24;omega
 unfold Zah
 rw [Zes k hN,hT,hU,hS,if_pos rfl,if_pos rfl,if_pos rfl,if_pos ⟨hc,h0,hk⟩,Option.bind_some,if_neg (by decide)]
 show (ZbX N _ s k t u 0).bind _=_
 have:=Znd (N:=N) g (ZeH hU) (Ze0 hS) e2 (y:=fun (s:Int) (x21:ZJ)=>Zds (fun v:Int=>ZbH N t u v x21) s) (fun j=>if j=0 then 0 else Zaz t u (ZP t u s (ZaB s k) (j - 1))) (fun j hj=>by
  show Zds (fun v=>ZbH N t u v (ZP t u s (ZaB s k) j)) _=_
  unfold Zds ZbH
  have hb:=Ze6 g (ZeH hU) (Ze0 hS) hp j hj
  obtain ⟨o1,o2,o3⟩:=hb.told g (ZeH hU)
  obtain ⟨_,_,d1,d2⟩:=Zez g hb.port
  have l1:=hb.long1;have l2:=hb.long2;have l3:=hb.op1;have l4:=hb.op2
  have q:=(ZeH hU).p1;have q':=(ZeH hU).p2
  simp only
  rw [Zim hL hb.port,Option.bind_some,ZV (x:=(ZP t u s (ZaB s k) j).Open+(ZP t u s (ZaB s k) j).Long) (by omega) (by omega),ZV (x:=(ZP t u s (ZaB s k) j).Open+(ZP t u s (ZaB s k) j).Long+_) (by omega) (by omega)]
  rw [show w64 ((ZP t u s (ZaB s k) j).Open+(ZP t u s (ZaB s k) j).Long+(plk t (ZP t u s (ZaB s k) j).Port).Delay+u.Proc)=Zaz t u (ZP t u s (ZaB s k) j) from ZV (by omega) (by omega)]
  rw [if_neg (Nat.succ_ne_zero j)]
  rfl) e1 hN
 rw [if_pos rfl] at this
 rw [this,Option.bind_some,if_neg (by omega)]
theorem Zf1 {k e:Int} (h:Zdo N t u s k=some e) (he:e ≠ 0):Zaa N t u s k=some ([],e)∧Zah N t u s k=some (0,e):=by
 have:(e != 0)=true:=by simpa using he
 constructor
 ·unfold Zaa;rw [h,Option.bind_some,this];rfl
 ·unfold Zah;rw [h,Option.bind_some,this];rfl
theorem Zdy (hN:200≤N):Zba N t s=some (if Zeh t then (if Za5 t s then 0 else 321) else 260):=by
 unfold Zba
 rw [Zdw (by omega),Option.bind_some]
 cases hT:Zeh t with
 | false=>rfl
 | true =>
  simp only [if_true,bne_self_eq_false,Bool.false_eq_true,if_false]
  rw [ZeE (Zbe.1 hT) s hN,Option.bind_some]
  cases Za5 t s<;>rfl
def dS:Zm:=⟨0,0,0,0,0,0,⟨0,0⟩,0,[]⟩
def idAt (l:List Zm) (k:Nat):Int:=(l.getD k dS).Id
def Zo1 (l:List Zm) (k:Nat):Bool := !((List.range k).any fun j=>idAt l j==idAt l k)
def allR (t:Zi) (l:List Zm):Int:=if Zeh t then (if l.length≤12 then (if l.all (Za5 t) then (if allB l.length (Zo1 l) then 0 else 322) else 321) else 3) else 260
theorem Zhf (l:List Zm) (hN:200≤N):Zcl N t l=some (allR t l):=by
 unfold Zcl allR
 rw [Zdw (by omega),Option.bind_some]
 cases hT:Zeh t with
 | false=>rfl
 | true =>
  have g:=Zbe.1 hT
  simp only [if_true,bne_self_eq_false,Bool.false_eq_true,if_false]
  by_cases h12:l.length≤12
  ·rw [if_neg (by simp;omega),if_pos h12]
   have:=Za0 (n:=l.length) (p:=fun k=>Za5 t (l.getD k dS)) (body:=fun x:Int=>Za4 N t l x) (bad:=.inr 321) (fin:=.inl ()) (fun k hk=>by
    unfold Za4
    rw [if_pos (by simp;omega),ZcH hk,Option.bind_some,Zdq hk,ZeE g _ hN,Option.bind_some,ZW (by omega)]
    cases Za5 t l[k]<;>rfl) (by unfold Za4;rw [if_neg (by simp)]) (N:=N) (by omega)
   rw [this,ZjW l dS (Za5 t)]
   cases l.all (Za5 t) with
   | false=>rfl
   | true =>
    simp only [if_true,Option.bind_some]
    have:=(Zjz (n:=l.length) (p:=Zo1 l) (f:=fun (b:List (Int × Bool)) k=>ZiG b (idAt l k) true) (body:=fun x:Int × (List (Int × Bool))=>ZaA N l x.1 x.2) (bad:=.inr 322) (fin:=fun _=>.inl ())
     (fun k b=>∀ x,Zle b x false=(List.range k).any fun j=>idAt l j==x)
     (fun k b hk hb=>by
      show ZaA N l (k:Int) b=_
      unfold ZaA
      rw [if_pos (by simp;omega),ZcH hk,Option.bind_some]
      have hid:l[k].Id=idAt l k:=by unfold idAt;rw [Zdq hk]
      rw [hid,hb,ZW (by omega)]
      unfold Zo1
      cases (List.range k).any fun j=>idAt l j==idAt l k<;>rfl)
     (fun k b hk hb _ x=>by
      rw [ZmG,hb,List.range_succ,List.any_append]
      by_cases e:x=idAt l k
      ·subst e;simp
      ·have:(idAt l k==x)=false:=by simpa using Ne.symm e
       simp [e,this])
     (fun b hb=>by show ZaA N l (l.length:Int) b=_;unfold ZaA;rw [if_neg (by simp)]) (N:=N) (by omega) (b0:=[]) (fun x=>rfl)).1
    rw [this]
    cases allB l.length (Zo1 l)<;>rfl
  ·rw [if_pos (by simp;omega),if_neg h12]
end
end Go.Sh

set_option linter.unusedVariables false
set_option linter.unusedSimpArgs false
namespace Go.Sh
open Go Go.Eng
def PF (p:Int→Bool) (k:Nat):List Int:=((List.range k).map (fun (n:Nat)=>(n:Int))).filter p
theorem ZoF (p:Int→Bool) (k:Nat):PF p (k+1)=if p (k:Int)=true then PF p k++[(k:Int)] else PF p k:=by
 unfold PF
 rw [List.range_succ,List.map_append,List.filter_append]
 by_cases h:p (k:Int)=true
 ·rw [if_pos h];simp [h]
 ·rw [if_neg h];simp [h]
theorem Zpp (p:Int→Bool) (k:Nat):(PF p k).length≤k:=by
 induction k with
 | zero=>simp [PF]
 | succ k ih =>
  rw [ZoF]
  split
  ·rw [List.length_append,List.length_singleton];omega
  ·omega
theorem PF_mem {p:Int→Bool} {k:Nat} {x:Int}:x ∈ PF p k↔0≤x∧x<k∧p x=true:=by
 unfold PF
 simp only [List.mem_filter,List.mem_map,List.mem_range]
 constructor
 ·rintro ⟨⟨n,hn,rfl⟩,hp⟩;exact ⟨by omega,by omega,hp⟩
 ·rintro ⟨h0,h1,hp⟩;exact ⟨⟨x.toNat,by omega,by omega⟩,hp⟩
section
variable {N:Nat} {t:Zi}
theorem Zjy {β ρ:Type} {n:Nat} {body:Int × β→Option ((Int × β) ⊕ ρ)} {fin:β→ρ} (I:Nat→β→Prop)
  (hstep:∀ k b,k<n→I k b→∃ b',body ((k:Int),b)=some (.inl (((k+1:Nat):Int),b'))∧I (k+1) b') (hend:∀ b,I n b→body ((n:Int),b)=some (.inr (fin b))) :
  ∀ (m N k:Nat) (b:β),n - k=m→k≤n→m<N→I k b→∃ b',Zac body N ((k:Int),b)=some (fin b')∧I n b':=by
 intro m
 induction m with
 | zero =>
  intro N k b h1 h2 h3 hb
  obtain rfl:k=n:=by omega
  cases N with
  | zero=>omega
  | succ N=>exact ⟨b,by rw [Zbq (hend b hb)],hb⟩
 | succ m ih =>
  intro N k b h1 h2 h3 hb
  cases N with
  | zero=>omega
  | succ N =>
   obtain ⟨b',s1,s2⟩:=hstep k b (by omega) hb
   obtain ⟨b'',i1,i2⟩:=ih N (k+1) b' (by omega) (by omega) (by omega) s2
   exact ⟨b'',by rw [ZcS s1,i1],i2⟩
end
end Go.Sh
