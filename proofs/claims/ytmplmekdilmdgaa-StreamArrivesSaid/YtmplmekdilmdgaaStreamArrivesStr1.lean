/- Part of the proof; written by a program out of the texts in wip/. -/
import Derived.Test.YtmplmekdilmdgaaStreamArrivesTop5
set_option linter.unusedVariables false
set_option linter.unusedSimpArgs false
namespace Go.Sh
open Go Go.Eng
section
variable {N:Nat} {t:Ze}
theorem ZfF (g:Good t) (r:List Int) (hN:200≤N):ZbG N t r=some (ZaA t r):=by
 by_cases h:r.length≤100
 ·exact Zjn g h hN
 ·unfold ZbG ZaA
  rw [if_pos (by simp;omega)]
  have:decide (r.length≤8)=false:=by simp;omega
  rw [this];simp
theorem ZfC (g:Good t) (r:List Int) (hN:200≤N):ZaN N ⟨t⟩ r=some (ZaA t r):=by
 by_cases h:r.length≤100
 ·exact ZeB g h hN
 ·unfold ZaN ZaA
  rw [if_pos (by simp;omega)]
  have:decide (r.length≤8)=false:=by simp;omega
  rw [this];simp
theorem Zg0 {r:List Int} (h:ZaA t r=true):r.length≤100:=by have:=Zcj h;omega
theorem Zeb (r:List Int) (hN:200≤N):Zco N t r=some (errR t r):=by
 by_cases h:r.length≤100
 ·exact Zdy h hN
 ·unfold Zco errR
  rw [Zc7 (by omega),Option.bind_some]
  cases hT:ZeL t with
  | false=>rfl
  | true =>
   simp only [if_true,bne_self_eq_false,Bool.false_eq_true,if_false]
   rw [ZfC (Za1.1 hT) r hN,Option.bind_some]
   cases ZaA t r<;>rfl
theorem Zjh (r:List Int) (hN:200≤N):Zcz N t r=some (if errR t r=0 then (nd t r 0,nd t r r.length,0) else (0,0,errR t r)):=by
 by_cases he:errR t r=0
 ·rw [if_pos he];exact Zjf (Zg0 (ZfQ.1 he).2) hN he
 ·rw [if_neg he]
  by_cases h:r.length≤100
  ·exact Zjg h hN he
  ·have hne:(errR t r != 0)=true:=by simpa using he
   unfold Zcz Zcn Zca
   rw [Zeb r hN]
   simp only [Option.bind_some,hne,if_true]
theorem Ziy (a b:List Int) (hN:200≤N) :
  Zcp N t a b=some (if errR t a=0 then (if ZaA t b then (Zi9 t a b,0) else (false,310)) else (false,errR t a)):=by
 by_cases ha:a.length≤100
 ·by_cases hb:b.length≤100
  ·exact Zjj ha hb hN
  ·have hvb:ZaA t b=false:=by
    cases h:ZaA t b with
    | false=>rfl
    | true=>exact absurd (Zg0 h) hb
   unfold Zcp Zb9
   rw [Zeb a hN,Option.bind_some]
   by_cases he:errR t a=0
   ·rw [if_pos he,he]
    simp only [bne_self_eq_false,Bool.false_eq_true,if_false]
    unfold ZcA
    rw [ZfC (Za1.1 (ZfQ.1 he).1) b hN,hvb]
    rfl
   ·rw [if_neg he]
    have:(errR t a != 0)=true:=by simpa using he
    rw [this]
    rfl
 ·have hva:ZaA t a=false:=by
   cases h:ZaA t a with
   | false=>rfl
   | true=>exact absurd (Zg0 h) ha
  have he:errR t a ≠ 0:=fun e=>by have:=(ZfQ.1 e).2;rw [hva] at this;cases this
  unfold Zcp Zb9
  rw [Zeb a hN,Option.bind_some,if_neg he]
  have:(errR t a != 0)=true:=by simpa using he
  rw [this]
  rfl
def inB (v l h:Int):Bool:=decide (v ≥ l)&&decide (v≤h)
def ZeO (u:ZL):Bool:=inB u.Grid 1 10000&&(inB u.Slack 0 1000&&(inB u.Proc 0 10000&&inB u.Cap 1542 65536))
def Zjc (t:Ze) (n:Int):Bool:=Zc5 t n&&stB t n
def Zlt (s:Zh):Bool :=
 if s.Class==7 then inB s.Period 1 240&&((s.Bucket.Burst==0)&&(s.Bucket.Rate==0))
 else if s.Class==6 then (s.Period==0)&&(inB s.Bucket.Burst s.Size 1048576&&inB s.Bucket.Rate 1 2097152) else false
def ZdZ (t:Ze) (s:Zh) (r:List Int):Bool:=ZaA t r&&((nd t r 0==s.Talker)&&(nd t r r.length==s.Listener))
def ZlS (t:Ze) (s:Zh):Bool:=decide (s.Routes.length<2)||Zi9 t (s.Routes.getD 0 []) (s.Routes.getD 1 [])
def Zm4 (t:Ze) (s:Zh):Bool :=
 inB s.Id 1 4095&&(Zjc t s.Talker&&(Zjc t s.Listener&&((s.Talker != s.Listener)&&(inB s.Size 84 1542&&inB s.Deadline 1 1099511627776))))
def lenB (s:Zh):Bool:=decide (1≤s.Routes.length)&&decide (s.Routes.length≤2)
def ZaS (t:Ze) (s:Zh):Bool:=Zm4 t s&&(Zlt s&&(lenB s&&(s.Routes.all (ZdZ t s)&&ZlS t s)))
theorem ZbL (v l h:Int):Zag N v l h=some (inB v l h):=rfl
theorem Zgo (v l h:Int):ZcB N v l h=some (inB v l h):=rfl
theorem Zf8 (u:ZL):ZbM N u=some (if ZeO u then 0 else 320):=by
 unfold ZbM ZeO
 simp only [ZbL,Option.bind_some]
 cases inB u.Grid 1 10000<;>cases inB u.Slack 0 1000<;>cases inB u.Proc 0 10000<;>cases inB u.Cap 1542 65536<;>rfl
theorem Zmr (g:Good t) (n:Int):inB n 0 (w64 (t.Nodes - 1))=Zc5 t n:=by
 rw [ZR (by have:=g.n2;omega) (by have:=g.n12;omega)]
 unfold inB Zc5
 congr 1
 exact decide_eq_decide.2 ⟨fun h=>by omega,fun h=>by omega⟩
theorem Zhb (g:Good t) (n:Int):Zb8 N t n=some (Zjc t n):=by
 unfold Zb8 Zjc
 simp only [ZbL,Zmr g,Option.bind_some]
 cases h:Zc5 t n with
 | false=>rfl
 | true=>simp only [if_true,ZdQ g.st h,Option.bind_some,Bool.true_and]
theorem ZhY (g:Good t) (n:Int):ZbA N t n=some (Zjc t n):=by
 unfold ZbA Zjc
 simp only [Zgo,Zmr g,Option.bind_some]
 cases h:Zc5 t n with
 | false=>rfl
 | true=>simp only [if_true,ZdQ g.st h,Option.bind_some,Bool.true_and]
theorem Zil (g:Good t) (s:Zh) (r:List Int) (hN:200≤N):ZdF N t r s.Talker s.Listener=some (ZdZ t s r):=by
 unfold ZdF ZdZ
 rw [Zjh r hN,Option.bind_some]
 have hT:=Za1.2 g
 by_cases he:errR t r=0
 ·rw [if_pos he,(ZfQ.1 he).2];rfl
 ·rw [if_neg he]
  have hv:ZaA t r=false:=by
   cases h:ZaA t r with
   | false=>rfl
   | true=>exact absurd (ZfQ.2 ⟨hT,h⟩) he
  have:(errR t r==0)=false:=by simpa using he
  simp only [this,hv,Bool.false_and]
theorem Zja {α:Type} (l:List α) (d:α) (p:α→Bool):allB l.length (fun k=>p (l.getD k d))=l.all p:=by
 rw [Bool.eq_iff_iff,ZaP,List.all_eq_true]
 constructor
 ·intro h x hx
  obtain ⟨k,hk,rfl⟩:=List.getElem_of_mem hx
  have:=h k hk
  rwa [Zc4 hk] at this
 ·intro h k hk
  rw [Zc4 hk]
  exact h _ (List.getElem_mem hk)
theorem Zov {s:Zh}:inB ((List.length s.Routes:Nat):Int) 1 2=lenB s:=by
 unfold inB lenB
 congr 1<;>exact decide_eq_decide.2 ⟨fun h=>by omega,fun h=>by omega⟩
theorem Zg4 (g:Good t) {s:Zh} (hl:lenB s=true) (hN:200≤N):ZcM N s t=some (s.Routes.all (ZdZ t s)):=by
 simp only [lenB,Bool.and_eq_true,decide_eq_true_eq] at hl
 unfold ZcM
 have:=ZaU (n:=s.Routes.length) (p:=fun k=>ZdZ t s (s.Routes.getD k [])) (body:=fun x:Int=>ZaR N s t x) (bad:=.inr false) (fin:=.inl ()) (fun k hk=>by
  unfold ZaR
  rw [if_pos (by simp;omega),Zcl hk,Option.bind_some,Zc4 hk,Zil g s _ hN,Option.bind_some,Z1 (by omega)]
  cases ZdZ t s s.Routes[k]<;>rfl) (by unfold ZaR;rw [if_neg (by simp)]) (N:=N) (by omega)
 rw [this,Zja s.Routes [] (ZdZ t s)]
 cases s.Routes.all (ZdZ t s)<;>rfl
theorem ZfB {s:Zh} (h:s.Routes.all (ZdZ t s)=true) {k:Nat} (hk:k<s.Routes.length):ZaA t (s.Routes.getD k [])=true∧nd t (s.Routes.getD k []) 0=s.Talker∧nd t (s.Routes.getD k []) (s.Routes.getD k []).length=s.Listener:=by
 have:=List.all_eq_true.1 h _ (List.getElem_mem hk)
 rw [Zc4 hk]
 simpa only [ZdZ,Bool.and_eq_true,beq_iff_eq] using this
theorem Zg2 (g:Good t) {s:Zh} (hl:lenB s=true) (hr:s.Routes.all (ZdZ t s)=true) (hN:200≤N):ZcL N s t=some (ZlS t s):=by
 simp only [lenB,Bool.and_eq_true,decide_eq_true_eq] at hl
 unfold ZcL ZlS
 by_cases h2:s.Routes.length<2
 ·rw [if_pos (by simp;omega)];simp [h2]
 ·rw [if_neg (by simp;omega),show (0:Int)=((0:Nat):Int) from rfl,show (1:Int)=((1:Nat):Int) from rfl,Zcl (by omega),Zcl (by omega)]
  simp only [Option.bind_some]
  have e0:=ZfB hr (k:=0) (by omega)
  have e1:=ZfB hr (k:=1) (by omega)
  rw [Zc4 (by omega)] at e0 e1
  rw [Ziy _ _ hN,if_pos (ZfQ.2 ⟨Za1.2 g,e0.1⟩),e1.1,Option.bind_some,Zc4 (by omega),Zc4 (by omega)]
  simp [h2]
theorem Zd5 (g:Good t) (s:Zh) (hN:200≤N):Zcm N t s=some (ZaS t s):=by
 unfold Zcm Zdw Zdv Zdu Zdt Zds
 simp only [ZbL,Option.bind_some,Zhb g,Zov]
 unfold ZaS Zm4
 cases inB s.Id 1 4095 with
 | false=>rfl
 | true =>
 cases Zjc t s.Talker with
 | false=>rfl
 | true =>
 cases Zjc t s.Listener with
 | false=>rfl
 | true =>
 cases h4:(s.Talker != s.Listener) with
 | false=>simp
 | true =>
 cases h5:inB s.Size 84 1542 with
 | false=>simp
 | true =>
 cases inB s.Deadline 1 1099511627776 with
 | false=>simp
 | true =>
 have hc:ZcN N s=some (Zlt s):=by
  unfold ZcN Zlt
  simp only [ZbL,Option.bind_some]
  by_cases c7:(s.Class==7)=true
  ·rw [if_pos c7,if_pos c7]
   cases inB s.Period 1 240<;>simp
  ·rw [if_neg c7,if_neg c7]
   by_cases c6:(s.Class==6)=true
   ·rw [if_pos c6,if_pos c6]
    cases s.Period==0 with
    | false=>rfl
    | true =>
     simp only [if_true]
     unfold Zex ZbR
     simp only [Option.bind_some]
     simp only [inB,Bool.and_eq_true,decide_eq_true_eq] at h5
     unfold inB
     by_cases q1:s.Bucket.Burst ≥ s.Size
     ·have q2:(1:Int)≤s.Bucket.Burst:=by omega
      by_cases q3:s.Bucket.Burst≤1048576<;>by_cases q4:(1:Int)≤s.Bucket.Rate<;>by_cases q5:s.Bucket.Rate≤2097152<;>simp [q1,q2,q3,q4,q5,ge_iff_le]
     ·by_cases q2:(1:Int)≤s.Bucket.Burst<;>by_cases q3:s.Bucket.Burst≤1048576<;>by_cases q4:(1:Int)≤s.Bucket.Rate<;>by_cases q5:s.Bucket.Rate≤2097152<;>simp [q1,q2,q3,q4,q5,ge_iff_le]
   ·rw [if_neg c6,if_neg c6]
 rw [hc]
 cases Zlt s with
 | false=>simp
 | true =>
 cases hl:lenB s with
 | false=>simp
 | true =>
 rw [Zg4 g hl hN]
 cases hr:s.Routes.all (ZdZ t s) with
 | false=>simp
 | true =>
 rw [Zg2 g hl hr hN]
 cases ZlS t s<;>simp
end
end Go.Sh

