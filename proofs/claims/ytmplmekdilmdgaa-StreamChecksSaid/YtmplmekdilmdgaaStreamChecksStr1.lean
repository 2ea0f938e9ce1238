/- Part of the proof; written by a program out of the texts in wip/. -/
import Derived.Test.YtmplmekdilmdgaaStreamChecksTop5
set_option linter.unusedVariables false
set_option linter.unusedSimpArgs false
namespace Go.Sh
open Go Go.Eng
section
variable {N:Nat} {t:Zg}
theorem Zgk (g:Good t) (r:List Int) (hN:200≤N):Zb9 N t r=some (ZaG t r):=by
 by_cases h:r.length≤100
 ·exact Zka g h hN
 ·unfold Zb9 ZaG
  rw [if_pos (by simp;omega)]
  have:decide (r.length≤8)=false:=by simp;omega
  rw [this];simp
theorem Zgh (g:Good t) (r:List Int) (hN:200≤N):ZaY N ⟨t⟩ r=some (ZaG t r):=by
 by_cases h:r.length≤100
 ·exact Zfk g h hN
 ·unfold ZaY ZaG
  rw [if_pos (by simp;omega)]
  have:decide (r.length≤8)=false:=by simp;omega
  rw [this];simp
theorem ZhG {r:List Int} (h:ZaG t r=true):r.length≤100:=by have:=ZcK h;omega
theorem ZeS (r:List Int) (hN:200≤N):ZcR N t r=some (errR t r):=by
 by_cases h:r.length≤100
 ·exact Zd7 h hN
 ·unfold ZcR errR
  rw [ZdD (by omega),Option.bind_some]
  cases hT:ZeD t with
  | false=>rfl
  | true =>
   simp only [if_true,bne_self_eq_false,Bool.false_eq_true,if_false]
   rw [Zgh (Za1.1 hT) r hN,Option.bind_some]
   cases ZaG t r<;>rfl
theorem Zj3 (r:List Int) (hN:200≤N):Zc1 N t r=some (if errR t r=0 then (nd t r 0,nd t r r.length,0) else (0,0,errR t r)):=by
 by_cases he:errR t r=0
 ·rw [if_pos he];exact Zj1 (ZhG (Zgx.1 he).2) hN he
 ·rw [if_neg he]
  by_cases h:r.length≤100
  ·exact Zj2 h hN he
  ·have hne:(errR t r != 0)=true:=by simpa using he
   unfold Zc1 ZcQ ZcE
   rw [ZeS r hN]
   simp only [Option.bind_some,hne,if_true]
theorem Zje (a b:List Int) (hN:200≤N) :
  ZcS N t a b=some (if errR t a=0 then (if ZaG t b then (ZjT t a b,0) else (false,310)) else (false,errR t a)):=by
 by_cases ha:a.length≤100
 ·by_cases hb:b.length≤100
  ·exact Zj5 ha hb hN
  ·have hvb:ZaG t b=false:=by
    cases h:ZaG t b with
    | false=>rfl
    | true=>exact absurd (ZhG h) hb
   unfold ZcS ZcD
   rw [ZeS a hN,Option.bind_some]
   by_cases he:errR t a=0
   ·rw [if_pos he,he]
    simp only [bne_self_eq_false,Bool.false_eq_true,if_false]
    unfold Zc2
    rw [Zgh (Za1.1 (Zgx.1 he).1) b hN,hvb]
    rfl
   ·rw [if_neg he]
    have:(errR t a != 0)=true:=by simpa using he
    rw [this]
    rfl
 ·have hva:ZaG t a=false:=by
   cases h:ZaG t a with
   | false=>rfl
   | true=>exact absurd (ZhG h) ha
  have he:errR t a ≠ 0:=fun e=>by have:=(Zgx.1 e).2;rw [hva] at this;cases this
  unfold ZcS ZcD
  rw [ZeS a hN,Option.bind_some,if_neg he]
  have:(errR t a != 0)=true:=by simpa using he
  rw [this]
  rfl
def inB (v l h:Int):Bool:=decide (v ≥ l)&&decide (v≤h)
def Zex (u:ZL):Bool:=inB u.Grid 1 10000&&(inB u.Slack 0 1000&&(inB u.Proc 0 10000&&inB u.Cap 1542 65536))
def ZjY (t:Zg) (n:Int):Bool:=ZdA t n&&stB t n
def Zmb (s:Zh):Bool :=
 if s.Class==7 then inB s.Period 1 240&&((s.Bucket.Burst==0)&&(s.Bucket.Rate==0))
 else if s.Class==6 then (s.Period==0)&&(inB s.Bucket.Burst s.Size 1048576&&inB s.Bucket.Rate 1 2097152) else false
def ZeF (t:Zg) (s:Zh) (r:List Int):Bool:=ZaG t r&&((nd t r 0==s.Talker)&&(nd t r r.length==s.Listener))
def ZmB (t:Zg) (s:Zh):Bool:=decide (s.Routes.length<2)||ZjT t (s.Routes.getD 0 []) (s.Routes.getD 1 [])
def ZnO (t:Zg) (s:Zh):Bool :=
 inB s.Id 1 4095&&(ZjY t s.Talker&&(ZjY t s.Listener&&((s.Talker != s.Listener)&&(inB s.Size 84 1542&&inB s.Deadline 1 1099511627776))))
def lenB (s:Zh):Bool:=decide (1≤s.Routes.length)&&decide (s.Routes.length≤2)
def ZaH (t:Zg) (s:Zh):Bool:=ZnO t s&&(Zmb s&&(lenB s&&(s.Routes.all (ZeF t s)&&ZmB t s)))
theorem Zch (v l h:Int):Zai N v l h=some (inB v l h):=rfl
theorem ZfK (v l h:Int):ZbZ N v l h=some (inB v l h):=rfl
theorem Zdf (u:ZL):Za3 N u=some (if Zex u then 0 else 320):=by
 unfold Za3 Zex
 simp only [Zch,Option.bind_some]
 cases inB u.Grid 1 10000<;>cases inB u.Slack 0 1000<;>cases inB u.Proc 0 10000<;>cases inB u.Cap 1542 65536<;>rfl
theorem Zj8 (u:ZL):ZeT N u=some (Zex u):=by
 unfold ZeT Zex
 simp only [ZfK,Option.bind_some]
 cases inB u.Grid 1 10000<;>cases inB u.Slack 0 1000<;>cases inB u.Proc 0 10000<;>cases inB u.Cap 1542 65536<;>rfl
theorem ZeV (u:ZL):ZbQ N u=some (if Zex u then 0 else 320):=by
 unfold ZbQ
 rw [Zj8,Option.bind_some]
 cases Zex u<;>rfl
theorem Zna (g:Good t) (n:Int):inB n 0 (w64 (t.Nodes - 1))=ZdA t n:=by
 rw [Z5 (by have:=g.n2;omega) (by have:=g.n12;omega)]
 unfold inB ZdA
 congr 1
 exact decide_eq_decide.2 ⟨fun h=>by omega,fun h=>by omega⟩
theorem ZhR (g:Good t) (n:Int):ZcC N t n=some (ZjY t n):=by
 unfold ZcC ZjY
 simp only [Zch,Zna g,Option.bind_some]
 cases h:ZdA t n with
 | false=>rfl
 | true=>simp only [if_true,Zeu g.st h,Option.bind_some,Bool.true_and]
theorem ZiA (g:Good t) (n:Int):ZbY N t n=some (ZjY t n):=by
 unfold ZbY ZjY
 simp only [ZfK,Zna g,Option.bind_some]
 cases h:ZdA t n with
 | false=>rfl
 | true=>simp only [if_true,Zeu g.st h,Option.bind_some,Bool.true_and]
theorem ZiZ (g:Good t) (s:Zh) (r:List Int) (hN:200≤N):Zeh N t r s.Talker s.Listener=some (ZeF t s r):=by
 unfold Zeh ZeF
 rw [Zj3 r hN,Option.bind_some]
 have hT:=Za1.2 g
 by_cases he:errR t r=0
 ·rw [if_pos he,(Zgx.1 he).2];rfl
 ·rw [if_neg he]
  have hv:ZaG t r=false:=by
   cases h:ZaG t r with
   | false=>rfl
   | true=>exact absurd (Zgx.2 ⟨hT,h⟩) he
  have:(errR t r==0)=false:=by simpa using he
  simp only [this,hv,Bool.false_and]
theorem ZhA {α:Type} (l:List α) (d:α) (p:α→Bool):allB l.length (fun k=>p (l.getD k d))=l.all p:=by
 rw [Bool.eq_iff_iff,ZaV,List.all_eq_true]
 constructor
 ·intro h x hx
  obtain ⟨k,hk,rfl⟩:=List.getElem_of_mem hx
  have:=h k hk
  rwa [ZcX hk] at this
 ·intro h k hk
  rw [ZcX hk]
  exact h _ (List.getElem_mem hk)
theorem Zpb {s:Zh}:inB ((List.length s.Routes:Nat):Int) 1 2=lenB s:=by
 unfold inB lenB
 congr 1<;>exact decide_eq_decide.2 ⟨fun h=>by omega,fun h=>by omega⟩
theorem ZhK (g:Good t) {s:Zh} (hl:lenB s=true) (hN:200≤N):Zdh N s t=some (s.Routes.all (ZeF t s)):=by
 simp only [lenB,Bool.and_eq_true,decide_eq_true_eq] at hl
 unfold Zdh
 have:=Zau (n:=s.Routes.length) (p:=fun k=>ZeF t s (s.Routes.getD k [])) (body:=fun x:Int=>Za2 N s t x) (bad:=.inr false) (fin:=.inl ()) (fun k hk=>by
  unfold Za2
  rw [if_pos (by simp;omega),ZcB hk,Option.bind_some,ZcX hk,ZiZ g s _ hN,Option.bind_some,ZS (by omega)]
  cases ZeF t s s.Routes[k]<;>rfl) (by unfold Za2;rw [if_neg (by simp)]) (N:=N) (by omega)
 rw [this,ZhA s.Routes [] (ZeF t s)]
 cases s.Routes.all (ZeF t s)<;>rfl
theorem Zgg {s:Zh} (h:s.Routes.all (ZeF t s)=true) {k:Nat} (hk:k<s.Routes.length):ZaG t (s.Routes.getD k [])=true∧nd t (s.Routes.getD k []) 0=s.Talker∧nd t (s.Routes.getD k []) (s.Routes.getD k []).length=s.Listener:=by
 have:=List.all_eq_true.1 h _ (List.getElem_mem hk)
 rw [ZcX hk]
 simpa only [ZeF,Bool.and_eq_true,beq_iff_eq] using this
theorem ZhI (g:Good t) {s:Zh} (hl:lenB s=true) (hr:s.Routes.all (ZeF t s)=true) (hN:200≤N):Zdg N s t=some (ZmB t s):=by
 simp only [lenB,Bool.and_eq_true,decide_eq_true_eq] at hl
 unfold Zdg ZmB
 by_cases h2:s.Routes.length<2
 ·rw [if_pos (by simp;omega)];simp [h2]
 ·rw [if_neg (by simp;omega),show (0:Int)=((0:Nat):Int) from rfl,show (1:Int)=((1:Nat):Int) from rfl,ZcB (by omega),ZcB (by omega)]
  simp only [Option.bind_some]
  have e0:=Zgg hr (k:=0) (by omega)
  have e1:=Zgg hr (k:=1) (by omega)
  rw [ZcX (by omega)] at e0 e1
  rw [Zje _ _ hN,if_pos (Zgx.2 ⟨Za1.2 g,e0.1⟩),e1.1,Option.bind_some,ZcX (by omega),ZcX (by omega)]
  simp [h2]
theorem ZeN (g:Good t) (s:Zh) (hN:200≤N):ZcN N t s=some (ZaH t s):=by
 unfold ZcN Zd4 Zd3 Zd2 Zd1 Zd0
 simp only [Zch,Option.bind_some,ZhR g,Zpb]
 unfold ZaH ZnO
 cases inB s.Id 1 4095 with
 | false=>rfl
 | true =>
 cases ZjY t s.Talker with
 | false=>rfl
 | true =>
 cases ZjY t s.Listener with
 | false=>rfl
 | true =>
 cases h4:(s.Talker != s.Listener) with
 | false=>simp
 | true =>
 cases h5:inB s.Size 84 1542 with
 | false=>simp
 | true =>
 cases inB s.Deadline 1 1099511627776 with
 | false=>simp
 | true =>
 have hc:Zdi N s=some (Zmb s):=by
  unfold Zdi Zmb
  simp only [Zch,Option.bind_some]
  by_cases c7:(s.Class==7)=true
  ·rw [if_pos c7,if_pos c7]
   cases inB s.Period 1 240<;>simp
  ·rw [if_neg c7,if_neg c7]
   by_cases c6:(s.Class==6)=true
   ·rw [if_pos c6,if_pos c6]
    cases s.Period==0 with
    | false=>rfl
    | true =>
     simp only [if_true]
     unfold Zfh Zcm
     simp only [Option.bind_some]
     simp only [inB,Bool.and_eq_true,decide_eq_true_eq] at h5
     unfold inB
     by_cases q1:s.Bucket.Burst ≥ s.Size
     ·have q2:(1:Int)≤s.Bucket.Burst:=by omega
      by_cases q3:s.Bucket.Burst≤1048576<;>by_cases q4:(1:Int)≤s.Bucket.Rate<;>by_cases q5:s.Bucket.Rate≤2097152<;>simp [q1,q2,q3,q4,q5,ge_iff_le]
     ·by_cases q2:(1:Int)≤s.Bucket.Burst<;>by_cases q3:s.Bucket.Burst≤1048576<;>by_cases q4:(1:Int)≤s.Bucket.Rate<;>by_cases q5:s.Bucket.Rate≤2097152<;>simp [q1,q2,q3,q4,q5,ge_iff_le]
   ·rw [if_neg c6,if_neg c6]
 rw [hc]
 cases Zmb s with
 | false=>simp
 | true =>
 cases hl:lenB s with
 | false=>simp
 | true =>
 rw [ZhK g hl hN]
 cases hr:s.Routes.all (ZeF t s) with
 | false=>simp
 | true =>
 rw [ZhI g hl hr hN]
 cases ZmB t s<;>simp
end
end Go.Sh

