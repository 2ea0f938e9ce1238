/- Part of the proof; written by a program out of the texts in wip/. -/
import Derived.Test.YthipedbbcjemhaaGreatPlanCoversPla2
set_option linter.unusedVariables false
set_option linter.unusedSimpArgs false
namespace Go.Sh
open Go Go.Eng
section
variable {N:Nat} {t:Zh}
def ZnV (a b:List Int):Bool:=allB a.length fun i=>allB b.length fun k => !(w64 (Int.tdiv (at0 a i) 2)==w64 (Int.tdiv (at0 b k) 2))
theorem Zkk {a b:List Int} (ha:a.length≤100) (hb:b.length≤100) (hN:200≤N):Zer N a b=some (!ZnV a b):=by
 unfold Zer ZnV
 have h2:∀ i,i<a.length→Z2 (fun x:Int=>ZbO N b (at0 a i) x) N 0=some (if allB b.length (fun k => !(w64 (Int.tdiv (at0 a i) 2)==w64 (Int.tdiv (at0 b k) 2))) then .inl () else .inr true):=fun i hi =>
  Zbl (n:=b.length) (fun k hk=>by
   unfold ZbO
   rw [if_pos (by simp;omega),Zcz hk,Option.bind_some,← Zix hk,ZT (by omega)]
   cases (w64 (Int.tdiv (at0 a i) 2)==w64 (Int.tdiv (at0 b k) 2))<;>rfl) (by unfold ZbO;rw [if_neg (by simp)]) (by omega)
 have:=Zbl (n:=a.length) (p:=fun i=>allB b.length fun k => !(w64 (Int.tdiv (at0 a i) 2)==w64 (Int.tdiv (at0 b k) 2))) (body:=fun x:Int=>ZbP N a b x) (bad:=.inr true) (fin:=.inl ()) (fun i hi=>by
  unfold ZbP
  rw [if_pos (by simp;omega),Zcz hi,Option.bind_some,← Zix hi,h2 i hi,ZT (by omega)]
  cases allB b.length (fun k => !(w64 (Int.tdiv (at0 a i) 2)==w64 (Int.tdiv (at0 b k) 2)))<;>rfl) (by unfold ZbP;rw [if_neg (by simp)]) (N:=N) (by omega)
 rw [this]
 cases allB a.length (fun i=>allB b.length fun k => !(w64 (Int.tdiv (at0 a i) 2)==w64 (Int.tdiv (at0 b k) 2)))<;>rfl
def ZhN (A B:List Int):Bool:=(List.range' 1 (A.length - 2)).all fun i => !B.contains (at0 A i)
theorem ZgA {A B:List Int} (h1:2≤A.length) (hA:A.length≤100) (hB:B.length≤100) (hN:200≤N):Zdd N A B=some (!ZhN A B):=by
 unfold Zdd ZhN
 have:=Zpu (n:=A.length - 1) (p:=fun i => !B.contains (at0 A i)) (body:=fun x:Int=>Zbv N A B x) (bad:=.inr true) (fin:=.inl ()) (fun i hi=>by
  unfold Zbv
  rw [if_pos (by rw [ZP (by omega) (by omega)];simp;omega),Zcz (by omega),Option.bind_some,← Zix (by omega),ZhW (by omega) (by omega),Option.bind_some,ZT (by omega)]
  cases B.contains (at0 A i)<;>rfl) (by unfold Zbv;rw [if_neg (by rw [ZP (by omega) (by omega)];simp;omega)]) (A.length - 2) N 1 (by omega) (by omega) (by omega)
 rw [show ((1:Nat):Int)=1 from rfl] at this
 rw [this]
 cases (List.range' 1 (A.length - 2)).all (fun i => !B.contains (at0 A i))<;>rfl
theorem ZhJ (g:Good t) {a b:List Int} (hva:ZaE t a=true) (hvb:ZaE t b=true) (hN:200≤N):ZbT N ⟨t⟩ a b=some (!ZhN (Zah t a) (Zah t b)):=by
 obtain ⟨a1,a8,_⟩:=Zb3 hva
 obtain ⟨b1,b8,_⟩:=Zb3 hvb
 have hla:=Zdi (t:=t) a
 have hlb:=Zdi (t:=t) b
 unfold ZbT ZhN
 rw [ZfE g hva hN,Option.bind_some,ZfE g hvb hN,Option.bind_some]
 generalize hA:Zah t a=A at *
 generalize hB:Zah t b=B at *
 have hsub:subI A 1 (w64 ((A.length:Int) - 1))=some ((A.take (A.length - 1)).drop 1):=by
  rw [ZP (by omega) (by omega)]
  unfold subI
  rw [if_pos ⟨by omega,by omega,by omega⟩,show ((A.length:Int) - 1).toNat=A.length - 1 by omega]
  rfl
 rw [hsub,Option.bind_some]
 have hil:((A.take (A.length - 1)).drop 1).length=A.length - 2:=by simp;omega
 have:=Zbl (n:=A.length - 2) (p:=fun i => !B.contains (at0 A (i+1))) (body:=fun x:Int=>ZaN N B ((A.take (A.length - 1)).drop 1) x) (bad:=.inr true) (fin:=.inl ()) (fun i hi=>by
  unfold ZaN
  rw [if_pos (by rw [hil];simp;omega),Zcz (by omega),Option.bind_some]
  have e:((A.take (A.length - 1)).drop 1)[i]'(by omega)=at0 A (i+1):=by
   rw [Zix (by omega),List.getElem_drop,List.getElem_take]
   congr 1;omega
  rw [e,Ze3 (by omega) (by omega),Option.bind_some,ZT (by omega)]
  cases B.contains (at0 A (i+1))<;>rfl) (by unfold ZaN;rw [if_neg (by rw [hil];simp)]) (N:=N) (by omega)
 rw [this]
 have e2:(List.range' 1 (A.length - 2)).all (fun i => !B.contains (at0 A i))=allB (A.length - 2) (fun i => !B.contains (at0 A (i+1))):=by
  unfold allB
  rw [Bool.eq_iff_iff,List.all_eq_true,List.all_eq_true]
  constructor
  ·intro h i hi
   exact h (i+1) (by simp only [List.mem_range] at hi;simp only [List.mem_range'_1];omega)
  ·intro h i hi
   simp only [List.mem_range'_1] at hi
   have:=h (i - 1) (by simp only [List.mem_range];omega)
   rwa [show i - 1+1=i by omega] at this
 rw [e2]
 cases allB (A.length - 2) (fun i => !B.contains (at0 A (i+1)))<;>rfl
def Zk9 (t:Zh) (a b:List Int):Bool:=ZnV a b&&(ZhN (Zah t a) (Zah t b)&&ZhN (Zah t b) (Zah t a))
theorem ZhM (g:Good t) {a b:List Int} (hva:ZaE t a=true) (hvb:ZaE t b=true) (hN:200≤N):Zcu N t a b=some (Zk9 t a b):=by
 obtain ⟨a1,a8,pa⟩:=Zb3 hva
 obtain ⟨b1,b8,pb⟩:=Zb3 hvb
 have hla:=Zdi (t:=t) a
 have hlb:=Zdi (t:=t) b
 have hL:t.Links.length≤1000:=by have:=g.l24;omega
 unfold Zcu Zk9
 have h2:∀ i:Nat,i<a.length→Z2 (fun x:Int=>Zcb N a b (i:Int) x) N 0=some (if allB b.length (fun k => !(w64 (Int.tdiv (at0 a i) 2)==w64 (Int.tdiv (at0 b k) 2))) then .inl () else .inr false):=fun i hi =>
  Zbl (n:=b.length) (fun k hk=>by
   unfold Zcb
   rw [if_pos (by simp;omega),Zcz hi,Option.bind_some,Zcz hk,Option.bind_some,← Zix hi,← Zix hk,ZT (by omega)]
   cases (w64 (Int.tdiv (at0 a i) 2)==w64 (Int.tdiv (at0 b k) 2))<;>rfl) (by unfold Zcb;rw [if_neg (by simp)]) (by omega)
 have:=Zbl (n:=a.length) (p:=fun i=>allB b.length fun k => !(w64 (Int.tdiv (at0 a i) 2)==w64 (Int.tdiv (at0 b k) 2))) (body:=fun x:Int=>Zcc N a b x) (bad:=.inr false) (fin:=.inl ()) (fun i hi=>by
  unfold Zcc
  rw [if_pos (by simp;omega),h2 i hi,ZT (by omega)]
  cases allB b.length (fun k => !(w64 (Int.tdiv (at0 a i) 2)==w64 (Int.tdiv (at0 b k) 2)))<;>rfl) (by unfold Zcc;rw [if_neg (by simp)]) (N:=N) (by omega)
 rw [this]
 unfold ZnV
 cases allB a.length (fun i=>allB b.length fun k => !(w64 (Int.tdiv (at0 a i) 2)==w64 (Int.tdiv (at0 b k) 2))) with
 | false=>rfl
 | true =>
  simp only [if_true,Option.bind_some,Bool.true_and]
  rw [ZfF hL a1 (by omega) pa hN,ZfF hL b1 (by omega) pb hN]
  simp only [Option.bind_some]
  rw [ZgA (by omega) (by omega) (by omega) hN,ZgA (by omega) (by omega) (by omega) hN]
  cases ZhN (Zah t a) (Zah t b)<;>cases ZhN (Zah t b) (Zah t a)<;>rfl
theorem Zlk {a b:List Int} (ha:a.length≤100) (hb:b.length≤100) (hN:200≤N) :
  ZcX N t a b=some (if errR t a=0 then (if ZaE t b then (Zk9 t a b,0) else (false,310)) else (false,errR t a)):=by
 unfold ZcX ZcH
 rw [Zei ha hN,Option.bind_some]
 by_cases he:errR t a=0
 ·obtain ⟨hT,hva⟩:=Zhe.1 he
  have g:=ZaX.1 hT
  rw [if_pos he,he]
  simp only [bne_self_eq_false,Bool.false_eq_true,if_false]
  unfold Zda
  rw [ZfD g hb hN,Option.bind_some]
  cases hvb:ZaE t b with
  | false=>rfl
  | true =>
   simp only [Bool.not_true,Bool.false_eq_true,if_false,if_true]
   rw [Zkk ha hb hN,ZhJ g hva hvb hN,ZhJ g hvb hva hN]
   unfold Zk9
   cases ZnV a b<;>cases ZhN (Zah t a) (Zah t b)<;>cases ZhN (Zah t b) (Zah t a)<;>rfl
 ·rw [if_neg he]
  have:(errR t a != 0)=true:=by simpa using he
  rw [this]
  rfl
end
end Go.Sh
set_option linter.unusedVariables false
set_option linter.unusedSimpArgs false
namespace Go.Sh
open Go Go.Eng
section
variable {N:Nat} {t:Zh}
theorem ZgY (g:Good t) (r:List Int) (hN:200≤N):Zca N t r=some (ZaE t r):=by
 by_cases h:r.length≤100
 ·exact Zlq g h hN
 ·unfold Zca ZaE
  rw [if_pos (by simp;omega)]
  have:decide (r.length≤8)=false:=by simp;omega
  rw [this];simp
theorem ZgU (g:Good t) (r:List Int) (hN:200≤N):Zbc N ⟨t⟩ r=some (ZaE t r):=by
 by_cases h:r.length≤100
 ·exact ZfD g h hN
 ·unfold Zbc ZaE
  rw [if_pos (by simp;omega)]
  have:decide (r.length≤8)=false:=by simp;omega
  rw [this];simp
theorem ZiB {r:List Int} (h:ZaE t r=true):r.length≤100:=by have:=Zb3 h;omega
theorem Ze6 (r:List Int) (hN:200≤N):ZcW N t r=some (errR t r):=by
 by_cases h:r.length≤100
 ·exact Zei h hN
 ·unfold ZcW errR
  rw [ZeN (by omega),Option.bind_some]
  cases hT:Zeo t with
  | false=>rfl
  | true =>
   simp only [if_true,bne_self_eq_false,Bool.false_eq_true,if_false]
   rw [ZgU (ZaX.1 hT) r hN,Option.bind_some]
   cases ZaE t r<;>rfl
theorem Zli (r:List Int) (hN:200≤N):Zc9 N t r=some (if errR t r=0 then (nd t r 0,nd t r r.length,0) else (0,0,errR t r)):=by
 by_cases he:errR t r=0
 ·rw [if_pos he];exact Zlg (ZiB (Zhe.1 he).2) hN he
 ·rw [if_neg he]
  by_cases h:r.length≤100
  ·exact Zlh h hN he
  ·have hne:(errR t r != 0)=true:=by simpa using he
   unfold Zc9 ZcV ZcI
   rw [Ze6 r hN]
   simp only [Option.bind_some,hne,if_true]
theorem Zkn (a b:List Int) (hN:200≤N) :
  ZcX N t a b=some (if errR t a=0 then (if ZaE t b then (Zk9 t a b,0) else (false,310)) else (false,errR t a)):=by
 by_cases ha:a.length≤100
 ·by_cases hb:b.length≤100
  ·exact Zlk ha hb hN
  ·have hvb:ZaE t b=false:=by
    cases h:ZaE t b with
    | false=>rfl
    | true=>exact absurd (ZiB h) hb
   unfold ZcX ZcH
   rw [Ze6 a hN,Option.bind_some]
   by_cases he:errR t a=0
   ·rw [if_pos he,he]
    simp only [bne_self_eq_false,Bool.false_eq_true,if_false]
    unfold Zda
    rw [ZgU (ZaX.1 (Zhe.1 he).1) b hN,hvb]
    rfl
   ·rw [if_neg he]
    have:(errR t a != 0)=true:=by simpa using he
    rw [this]
    rfl
 ·have hva:ZaE t a=false:=by
   cases h:ZaE t a with
   | false=>rfl
   | true=>exact absurd (ZiB h) ha
  have he:errR t a ≠ 0:=fun e=>by have:=(Zhe.1 e).2;rw [hva] at this;cases this
  unfold ZcX ZcH
  rw [Ze6 a hN,Option.bind_some,if_neg he]
  have:(errR t a != 0)=true:=by simpa using he
  rw [this]
  rfl
def inB (v l h:Int):Bool:=decide (v ≥ l)&&decide (v≤h)
def ZeJ (u:ZE):Bool:=inB u.Grid 1 10000&&(inB u.Slack 0 1000&&(inB u.Proc 0 10000&&inB u.Cap 1542 65536))
def Zld (t:Zh) (n:Int):Bool:=ZdK t n&&stB t n
def ZlX (s:Zj):Bool :=
 if s.Class==7 then inB s.Period 1 240&&((s.Bucket.Burst==0)&&(s.Bucket.Rate==0))
 else if s.Class==6 then (s.Period==0)&&(inB s.Bucket.Burst s.Size 1048576&&inB s.Bucket.Rate 1 2097152) else false
def ZeV (t:Zh) (s:Zj) (r:List Int):Bool:=ZaE t r&&((nd t r 0==s.Talker)&&(nd t r r.length==s.Listener))
def Zoa (t:Zh) (s:Zj):Bool:=decide (s.Routes.length<2)||Zk9 t (s.Routes.getD 0 []) (s.Routes.getD 1 [])
def Zol (t:Zh) (s:Zj):Bool :=
 inB s.Id 1 4095&&(Zld t s.Talker&&(Zld t s.Listener&&((s.Talker != s.Listener)&&(inB s.Size 84 1542&&inB s.Deadline 1 1099511627776))))
def lenB (s:Zj):Bool:=decide (1≤s.Routes.length)&&decide (s.Routes.length≤2)
def ZaI (t:Zh) (s:Zj):Bool:=Zol t s&&(ZlX s&&(lenB s&&(s.Routes.all (ZeV t s)&&Zoa t s)))
theorem Zcg (v l h:Int):Zan N v l h=some (inB v l h):=rfl
theorem ZhU (v l h:Int):Zdb N v l h=some (inB v l h):=rfl
theorem ZeI (u:ZE):ZbH N u=some (if ZeJ u then 0 else 320):=by
 unfold ZbH ZeJ
 simp only [Zcg,Option.bind_some]
 cases inB u.Grid 1 10000<;>cases inB u.Slack 0 1000<;>cases inB u.Proc 0 10000<;>cases inB u.Cap 1542 65536<;>rfl
theorem ZoM (g:Good t) (n:Int):inB n 0 (w64 (t.Nodes - 1))=ZdK t n:=by
 rw [ZP (by have:=g.n2;omega) (by have:=g.n12;omega)]
 unfold inB ZdK
 congr 1
 exact decide_eq_decide.2 ⟨fun h=>by omega,fun h=>by omega⟩
theorem ZiM (g:Good t) (n:Int):ZcG N t n=some (Zld t n):=by
 unfold ZcG Zld
 simp only [Zcg,ZoM g,Option.bind_some]
 cases h:ZdK t n with
 | false=>rfl
 | true=>simp only [if_true,ZeF g.st h,Option.bind_some,Bool.true_and]
theorem ZjI (g:Good t) (n:Int):Zb0 N t n=some (Zld t n):=by
 unfold Zb0 Zld
 simp only [ZhU,ZoM g,Option.bind_some]
 cases h:ZdK t n with
 | false=>rfl
 | true=>simp only [if_true,ZeF g.st h,Option.bind_some,Bool.true_and]
theorem Zka (g:Good t) (s:Zj) (r:List Int) (hN:200≤N):Zep N t r s.Talker s.Listener=some (ZeV t s r):=by
 unfold Zep ZeV
 rw [Zli r hN,Option.bind_some]
 have hT:=ZaX.2 g
 by_cases he:errR t r=0
 ·rw [if_pos he,(Zhe.1 he).2];rfl
 ·rw [if_neg he]
  have hv:ZaE t r=false:=by
   cases h:ZaE t r with
   | false=>rfl
   | true=>exact absurd (Zhe.2 ⟨hT,h⟩) he
  have:(errR t r==0)=false:=by simpa using he
  simp only [this,hv,Bool.false_and]
theorem Zla {α:Type} (l:List α) (d:α) (p:α→Bool):allB l.length (fun k=>p (l.getD k d))=l.all p:=by
 rw [Bool.eq_iff_iff,Zba,List.all_eq_true]
 constructor
 ·intro h x hx
  obtain ⟨k,hk,rfl⟩:=List.getElem_of_mem hx
  have:=h k hk
  rwa [Zc4 hk] at this
 ·intro h k hk
  rw [Zc4 hk]
  exact h _ (List.getElem_mem hk)
theorem Zra {s:Zj}:inB ((List.length s.Routes:Nat):Int) 1 2=lenB s:=by
 unfold inB lenB
 congr 1<;>exact decide_eq_decide.2 ⟨fun h=>by omega,fun h=>by omega⟩
theorem ZiF (g:Good t) {s:Zj} (hl:lenB s=true) (hN:200≤N):Zdm N s t=some (s.Routes.all (ZeV t s)):=by
 simp only [lenB,Bool.and_eq_true,decide_eq_true_eq] at hl
 unfold Zdm
 have:=Zbl (n:=s.Routes.length) (p:=fun k=>ZeV t s (s.Routes.getD k [])) (body:=fun x:Int=>Zbf N s t x) (bad:=.inr false) (fin:=.inl ()) (fun k hk=>by
  unfold Zbf
  rw [if_pos (by simp;omega),Zcz hk,Option.bind_some,Zc4 hk,Zka g s _ hN,Option.bind_some,ZT (by omega)]
  cases ZeV t s s.Routes[k]<;>rfl) (by unfold Zbf;rw [if_neg (by simp)]) (N:=N) (by omega)
 rw [this,Zla s.Routes [] (ZeV t s)]
 cases s.Routes.all (ZeV t s)<;>rfl
theorem ZfU {s:Zj} (h:s.Routes.all (ZeV t s)=true) {k:Nat} (hk:k<s.Routes.length):ZaE t (s.Routes.getD k [])=true∧nd t (s.Routes.getD k []) 0=s.Talker∧nd t (s.Routes.getD k []) (s.Routes.getD k []).length=s.Listener:=by
 have:=List.all_eq_true.1 h _ (List.getElem_mem hk)
 rw [Zc4 hk]
 simpa only [ZeV,Bool.and_eq_true,beq_iff_eq] using this
theorem ZiD (g:Good t) {s:Zj} (hl:lenB s=true) (hr:s.Routes.all (ZeV t s)=true) (hN:200≤N):Zdl N s t=some (Zoa t s):=by
 simp only [lenB,Bool.and_eq_true,decide_eq_true_eq] at hl
 unfold Zdl Zoa
 by_cases h2:s.Routes.length<2
 ·rw [if_pos (by simp;omega)];simp [h2]
 ·rw [if_neg (by simp;omega),show (0:Int)=((0:Nat):Int) from rfl,show (1:Int)=((1:Nat):Int) from rfl,Zcz (by omega),Zcz (by omega)]
  simp only [Option.bind_some]
  have e0:=ZfU hr (k:=0) (by omega)
  have e1:=ZfU hr (k:=1) (by omega)
  rw [Zc4 (by omega)] at e0 e1
  rw [Zkn _ _ hN,if_pos (Zhe.2 ⟨ZaX.2 g,e0.1⟩),e1.1,Option.bind_some,Zc4 (by omega),Zc4 (by omega)]
  simp [h2]
theorem ZgO (g:Good t) (s:Zj) (hN:200≤N):ZdE N t s=some (ZaI t s):=by
 unfold ZdE Zeg Zef Zee Zed Zec
 simp only [Zcg,Option.bind_some,ZiM g,Zra]
 unfold ZaI Zol
 cases inB s.Id 1 4095 with
 | false=>rfl
 | true =>
 cases Zld t s.Talker with
 | false=>rfl
 | true =>
 cases Zld t s.Listener with
 | false=>rfl
 | true =>
 cases h4:(s.Talker != s.Listener) with
 | false=>simp
 | true =>
 cases h5:inB s.Size 84 1542 with
 | false=>simp
 | true =>
 cases inB s.Deadline 1 1099511627776 with
 | false=>simp
 | true =>
 have hc:Zdn N s=some (ZlX s):=by
  unfold Zdn ZlX
  simp only [Zcg,Option.bind_some]
  by_cases c7:(s.Class==7)=true
  ·rw [if_pos c7,if_pos c7]
   cases inB s.Period 1 240<;>simp
  ·rw [if_neg c7,if_neg c7]
   by_cases c6:(s.Class==6)=true
   ·rw [if_pos c6,if_pos c6]
    cases s.Period==0 with
    | false=>rfl
    | true =>
     simp only [if_true]
     unfold ZfB Zcn
     simp only [Option.bind_some]
     simp only [inB,Bool.and_eq_true,decide_eq_true_eq] at h5
     unfold inB
     by_cases q1:s.Bucket.Burst ≥ s.Size
     ·have q2:(1:Int)≤s.Bucket.Burst:=by omega
      by_cases q3:s.Bucket.Burst≤1048576<;>by_cases q4:(1:Int)≤s.Bucket.Rate<;>by_cases q5:s.Bucket.Rate≤2097152<;>simp [q1,q2,q3,q4,q5,ge_iff_le]
     ·by_cases q2:(1:Int)≤s.Bucket.Burst<;>by_cases q3:s.Bucket.Burst≤1048576<;>by_cases q4:(1:Int)≤s.Bucket.Rate<;>by_cases q5:s.Bucket.Rate≤2097152<;>simp [q1,q2,q3,q4,q5,ge_iff_le]
   ·rw [if_neg c6,if_neg c6]
 rw [hc]
 cases ZlX s with
 | false=>simp
 | true =>
 cases hl:lenB s with
 | false=>simp
 | true =>
 rw [ZiF g hl hN]
 cases hr:s.Routes.all (ZeV t s) with
 | false=>simp
 | true =>
 rw [ZiD g hl hr hN]
 cases Zoa t s<;>simp
end
end Go.Sh

set_option linter.unusedVariables false
set_option linter.unusedSimpArgs false
namespace Go.Sh
open Go Go.Eng
theorem Zob {κ υ:Type} [DecidableEq κ] (l:List (κ × υ)) (x y:κ) (v z:υ):ZfJ (ZcT l x v) y z=if y=x then v else ZfJ l y z:=by
 induction l with
 | nil =>
  unfold ZfJ ZnA
  simp only [ZcT,List.find?_cons,List.find?_nil]
  by_cases e:x=y
  ·subst e;simp
  ·simp [e,Ne.symm e]
 | cons p r ih =>
  unfold ZfJ ZnA at ih ⊢
  simp only [ZcT]
  by_cases e:p.1=x
  ·subst e
   simp only [if_true,List.find?_cons]
   by_cases e:p.1=y
   ·subst e;simp
   ·simp [e,Ne.symm e]
  ·simp only [e,if_false,List.find?_cons]
   by_cases e2:p.1=y
   ·subst e2;simp [e]
   ·simp only [e2,decide_false]
    exact ih
structure ZgH (u:ZE):Prop where
 g1:1≤u.Grid
 g2:u.Grid≤10000
 s1:0≤u.Slack
 s2:u.Slack≤1000
 p1:0≤u.Proc
 p2:u.Proc≤10000
theorem ZcB {u:ZE} (h:ZeJ u=true):ZgH u:=by
 simp only [ZeJ,inB,Bool.and_eq_true,decide_eq_true_eq] at h
 obtain ⟨⟨a,b⟩,⟨c,d⟩,⟨e,f⟩,_⟩:=h
 exact ⟨a,b,c,d,e,f⟩
def ZaY (t:Zh) (u:ZE) (h:ZR):Int:=h.Open+h.Long+(plk t h.Port).Delay+u.Proc
def hop0 (t:Zh) (s:Zj) (r:List Int):ZR:=⟨at0 r 0,0,0,0,s.Size * (plk t (at0 r 0)).Per⟩
def Zk2 (u:ZE) (x:Int):Int:=(x+u.Grid - 1) / u.Grid * u.Grid
def hopN (t:Zh) (u:ZE) (s:Zj) (h:ZR) (p:Int):ZR :=
 ⟨p,ZaY t u h - 2 * u.Slack,ZaY t u h+2 * u.Slack,Zk2 u (ZaY t u h+2 * u.Slack),s.Size * (plk t p).Per⟩
def Z4 (t:Zh) (u:ZE) (s:Zj) (r:List Int):Nat→ZR
 | 0=>hop0 t s r
 | k+1=>hopN t u s (Z4 t u s r k) (at0 r (k+1))
theorem ZmO {u:ZE} (h:ZgH u) {x:Int} (hx:0≤x):x≤Zk2 u x∧Zk2 u x<x+u.Grid∧Zk2 u x % u.Grid=0:=by
 unfold Zk2
 have hg:=h.g1
 have e:=Int.mul_ediv_add_emod (x+u.Grid - 1) u.Grid
 have e1:=Int.emod_nonneg (x+u.Grid - 1) (show u.Grid ≠ 0 by omega)
 have e2:=Int.emod_lt_of_pos (x+u.Grid - 1) (show 0<u.Grid by omega)
 rw [Int.mul_comm] at e
 refine ⟨by omega,by omega,?_⟩
 exact Int.mul_emod_left _ _
section
variable {N:Nat} {t:Zh} {u:ZE} {s:Zj}
theorem Zhk (g:Good t) {p:Int} (hp:ZbS t p=true):1≤(plk t p).Per∧(plk t p).Per≤1000∧0≤(plk t p).Delay∧(plk t p).Delay≤10000:=by
 obtain ⟨h1,h2⟩:=Zp4 hp
 have:=(g.links (Int.tdiv p 2).toNat (by omega)).1
 simp only [Zfa,Bool.and_eq_true,decide_eq_true_eq] at this
 exact ⟨this.2.2.2.2.1,this.2.2.2.2.2.1,this.2.2.2.2.2.2.1,this.2.2.2.2.2.2.2⟩
def Zjy (s:Zj):Prop:=84≤s.Size∧s.Size≤1542
theorem Zod (g:Good t) (hs:Zjy s) {p:Int} (hp:ZbS t p=true):84≤s.Size * (plk t p).Per∧s.Size * (plk t p).Per≤1542000:=by
 obtain ⟨h1,h2,_,_⟩:=Zhk g hp
 obtain ⟨a,b⟩:=hs
 have c:s.Size * 1≤s.Size * (plk t p).Per:=Int.mul_le_mul_of_nonneg_left h1 (by omega)
 have d:s.Size * (plk t p).Per≤s.Size * 1000:=Int.mul_le_mul_of_nonneg_left h2 (by omega)
 omega
structure HB (t:Zh) (k:Nat) (h:ZR):Prop where
 port:ZbS t h.Port=true
 long1:84≤h.Long
 long2:h.Long≤1542000
 op1:0≤h.Open
 op2:h.Open≤1600000 * (k:Int)
theorem HB.told (g:Good t) (hu:ZgH u) {k:Nat} {h:ZR} (hb:HB t k h):h.Open+84≤ZaY t u h∧ZaY t u h≤1600000 * (k:Int)+1562000∧h.Open+h.Long≤ZaY t u h:=by
 obtain ⟨h1,h2,h3,h4,h5⟩:=hb
 obtain ⟨_,_,d1,d2⟩:=Zhk g h1
 have:=hu.p1;have:=hu.p2
 unfold ZaY
 omega
theorem Zpw (k:Nat) (r:List Int):(Z4 t u s r k).Port=at0 r k:=by cases k<;>rfl
theorem Zpx (k:Nat) (r:List Int):(Z4 t u s r k).Long=s.Size * (plk t (at0 r k)).Per:=by cases k<;>rfl
theorem Zgn (g:Good t) (hu:ZgH u) (hs:Zjy s) {r:List Int} (hp:∀ k,k<r.length→ZbS t (at0 r k)=true):∀ k,k<r.length→HB t k (Z4 t u s r k)
 | 0,hk=>by
  have:=Zod g hs (hp 0 hk)
  exact ⟨hp 0 hk,this.1,this.2,Int.le_refl 0,by simp [Z4,hop0]⟩
 | k+1,hk=>by
  have ih:=Zgn g hu hs hp k (by omega)
  have:=Zod g hs (hp (k+1) hk)
  have ht:=ih.told g hu
  have h0:=ih.op1
  have c:=ZmO hu (x:=ZaY t u (Z4 t u s r k)+2 * u.Slack) (by have:=hu.s1;omega)
  have:=hu.s1;have:=hu.s2;have:=hu.g2
  refine ⟨hp (k+1) hk,?_,?_,?_,?_⟩
  ·show 84≤s.Size * (plk t (at0 r (k+1))).Per;omega
  ·show s.Size * (plk t (at0 r (k+1))).Per≤1542000;omega
  ·show 0≤Zk2 u (ZaY t u (Z4 t u s r k)+2 * u.Slack);omega
  ·show Zk2 u (ZaY t u (Z4 t u s r k)+2 * u.Slack)≤1600000 * ((k+1:Nat):Int);omega
def stAt (t:Zh) (u:ZE) (s:Zj) (r:List Int):Nat→ZR
 | 0=>⟨0,0,0,0,0⟩
 | k+1=>Z4 t u s r k
theorem Zqj {σ:Type} (g:Good t) (hu:ZgH u) (hs:Zjy s) {r:List Int} (h8:r.length≤8) (hp:∀ k,k<r.length→ZbS t (at0 r k)=true) {k:Nat} (hk:k<r.length) {y:σ→ZR→Option (σ × Bool)} {b b':σ}
  (hy:y b (Z4 t u s r k)=some (b',true)):ZaD N y s t u r (k:Int) (stAt t u s r k).Port (stAt t u s r k).Early (stAt t u s r k).Late (stAt t u s r k).Open (stAt t u s r k).Long b =
   some (.inl (((k+1:Nat):Int),(Z4 t u s r k).Port,(Z4 t u s r k).Early,(Z4 t u s r k).Late,(Z4 t u s r k).Open,(Z4 t u s r k).Long,b')):=by
 have hL:t.Links.length≤1000:=by have:=g.l24;omega
 have hlen:=Zod g hs (hp k hk)
 have hb:=Zgn g hu hs hp k hk
 unfold ZaD
 rw [if_pos (by simp;omega),Zcz hk,Option.bind_some]
 have hat:r[k]=at0 r k:=(Zix hk).symm
 have key:(if decide ((k:Int) > 0)=true then (idx t.Links (w64 (Int.tdiv (stAt t u s r k).Port 2))).bind fun e1020 =>
    (quoI .i64 (w64 ((w64 ((w64 ((w64 ((w64 ((w64 ((stAt t u s r k).Open+(stAt t u s r k).Long))+e1020.Delay))+u.Proc))+(w64 (2 * u.Slack))))+u.Grid)) - 1)) u.Grid).bind fun q1026 =>
    (some ((w64 ((w64 ((w64 ((w64 ((stAt t u s r k).Open+(stAt t u s r k).Long))+e1020.Delay))+u.Proc)) - (w64 (2 * u.Slack)))),(w64 ((w64 ((w64 ((w64 ((stAt t u s r k).Open+(stAt t u s r k).Long))+e1020.Delay))+u.Proc))+(w64 (2 * u.Slack)))),(w64 (q1026 * u.Grid))))
   else some ((stAt t u s r k).Early,(stAt t u s r k).Late,(stAt t u s r k).Open))=some ((Z4 t u s r k).Early,(Z4 t u s r k).Late,(Z4 t u s r k).Open):=by
  cases k with
  | zero=>rw [if_neg (by simp)];rfl
  | succ j =>
   rw [if_pos (by simp only [decide_eq_true_eq];omega)]
   have hbj:=Zgn g hu hs hp j (by omega)
   obtain ⟨o1,o2,o3⟩:=hbj.told g hu
   obtain ⟨_,_,d1,d2⟩:=Zhk g hbj.port
   obtain ⟨g1,g2,s1,s2,p1,p2⟩:=hu
   have l1:=hbj.long1;have l2:=hbj.long2;have l3:=hbj.op1;have l4:=hbj.op2
   have hj:(j:Int)≤8:=by omega
   show ((idx t.Links (w64 (Int.tdiv (Z4 t u s r j).Port 2))).bind fun e1020=>_)=_
   rw [ZlG hL hbj.port,Option.bind_some]
   have e1:w64 ((Z4 t u s r j).Open+(Z4 t u s r j).Long)=(Z4 t u s r j).Open+(Z4 t u s r j).Long:=ZP (by omega) (by omega)
   have e2:w64 ((Z4 t u s r j).Open+(Z4 t u s r j).Long+(plk t (Z4 t u s r j).Port).Delay)=(Z4 t u s r j).Open+(Z4 t u s r j).Long+(plk t (Z4 t u s r j).Port).Delay:=ZP (by omega) (by omega)
   have e3:w64 ((Z4 t u s r j).Open+(Z4 t u s r j).Long+(plk t (Z4 t u s r j).Port).Delay+u.Proc)=ZaY t u (Z4 t u s r j):=ZP (by omega) (by omega)
   have e4:w64 (2 * u.Slack)=2 * u.Slack:=ZP (by omega) (by omega)
   simp only [stAt,e1,e2,e3,e4]
   have e5:w64 (ZaY t u (Z4 t u s r j)+2 * u.Slack)=ZaY t u (Z4 t u s r j)+2 * u.Slack:=ZP (by omega) (by omega)
   have e6:w64 (ZaY t u (Z4 t u s r j) - 2 * u.Slack)=ZaY t u (Z4 t u s r j) - 2 * u.Slack:=ZP (by omega) (by omega)
   have e7:w64 (ZaY t u (Z4 t u s r j)+2 * u.Slack+u.Grid)=ZaY t u (Z4 t u s r j)+2 * u.Slack+u.Grid:=ZP (by omega) (by omega)
   have e8:w64 (ZaY t u (Z4 t u s r j)+2 * u.Slack+u.Grid - 1)=ZaY t u (Z4 t u s r j)+2 * u.Slack+u.Grid - 1:=ZP (by omega) (by omega)
   rw [e5,e6,e7,e8,ZjQ (by omega),Option.bind_some]
   have hn:0≤ZaY t u (Z4 t u s r j)+2 * u.Slack+u.Grid - 1:=by omega
   rw [Int.tdiv_eq_ediv_of_nonneg hn]
   have q1:0≤(ZaY t u (Z4 t u s r j)+2 * u.Slack+u.Grid - 1) / u.Grid:=Int.ediv_nonneg hn (by omega)
   have q2:(ZaY t u (Z4 t u s r j)+2 * u.Slack+u.Grid - 1) / u.Grid≤ZaY t u (Z4 t u s r j)+2 * u.Slack+u.Grid - 1:=Int.ediv_le_self _ hn
   have e9:IntKind.i64.wrap ((ZaY t u (Z4 t u s r j)+2 * u.Slack+u.Grid - 1) / u.Grid)=(ZaY t u (Z4 t u s r j)+2 * u.Slack+u.Grid - 1) / u.Grid:=ZP (by omega) (by omega)
   have c:=ZmO ⟨g1,g2,s1,s2,p1,p2⟩ (x:=ZaY t u (Z4 t u s r j)+2 * u.Slack) (by omega)
   have e10:w64 ((ZaY t u (Z4 t u s r j)+2 * u.Slack+u.Grid - 1) / u.Grid * u.Grid)=Zk2 u (ZaY t u (Z4 t u s r j)+2 * u.Slack):=ZP (by unfold Zk2 at c;omega) (by unfold Zk2 at c;omega)
   rw [e9,e10]
   rfl
 rw [key,Option.bind_some,hat,ZlG hL (hp k hk),Option.bind_some]
 have e11:w64 (s.Size * (plk t (at0 r k)).Per)=s.Size * (plk t (at0 r k)).Per:=ZP (by omega) (by omega)
 have e12:(ZR.mk (at0 r k) (Z4 t u s r k).Early (Z4 t u s r k).Late (Z4 t u s r k).Open (s.Size * (plk t (at0 r k)).Per))=Z4 t u s r k:=by
  cases k<;>rfl
 rw [e11]
 simp only
 rw [e12,hy,Option.bind_some,ZT (by omega)]
 simp only [Bool.not_true,Bool.false_eq_true,if_false,Zpw,Zpx]
theorem ZoP {σ:Type} (g:Good t) (hu:ZgH u) (hs:Zjy s) {r:List Int} (hr:ZaE t r=true) {y:σ→ZR→Option (σ × Bool)} (G:Nat→σ) (hy:∀ k,k<r.length→y (G k) (Z4 t u s r k)=some (G (k+1),true)) {kk:Int}
  (hk:idx s.Routes kk=some r) (hN:200≤N):ZbY N y s kk t u (G 0)=some (G r.length):=by
 obtain ⟨h1,h8,hp⟩:=Zb3 hr
 unfold ZbY
 rw [hk,Option.bind_some]
 have key:∀ (M m N k:Nat),r.length - k=m→k≤r.length→m<N→Z2 (fun x:Int × Int × Int × Int × Int × Int × σ=>ZaD M y s t u r x.1 x.2.1 x.2.2.1 x.2.2.2.1 x.2.2.2.2.1 x.2.2.2.2.2.1 x.2.2.2.2.2.2) N ((k:Int),(stAt t u s r k).Port,(stAt t u s r k).Early,(stAt t u s r k).Late,(stAt t u s r k).Open,(stAt t u s r k).Long,G k)=some (.inl (G r.length)):=by
  intro M m
  induction m with
  | zero =>
   intro N k e1 e2 e3
   obtain rfl:k=r.length:=by omega
   cases N with
   | zero=>omega
   | succ N =>
    rw [ZaH (r:=(.inl (G r.length)))]
    show ZaD _ y s t u r ((r.length:Nat):Int) _ _ _ _ _ _=_
    unfold ZaD
    rw [if_neg (by simp)]
  | succ m ih =>
   intro N k e1 e2 e3
   cases N with
   | zero=>omega
   | succ N =>
    have hst:=Zqj (N:=M) g hu hs h8 hp (k:=k) (by omega) (hy k (by omega))
    rw [Zb5 (y:=(((k+1:Nat):Int),(Z4 t u s r k).Port,(Z4 t u s r k).Early,(Z4 t u s r k).Late,(Z4 t u s r k).Open,(Z4 t u s r k).Long,G (k+1))) hst]
    exact ih N (k+1) (by omega) (by omega) (by omega)
 have:=key N r.length N 0 (by omega) (by omega) (by omega)
 rw [show ((0:Nat):Int)=0 from rfl] at this
 have e:(Z2 (fun x:Int × Int × Int × Int × Int × Int × σ=>ZaD N y s t u r x.1 x.2.1 x.2.2.1 x.2.2.2.1 x.2.2.2.2.1 x.2.2.2.2.2.1 x.2.2.2.2.2.2) N (0,0,0,0,0,0,G 0))=some (.inl (G r.length)):=this
 rw [e]
 rfl
theorem Zib (k:Int) (hN:200≤N):ZeW N t u s k=some (if Zeo t then (if ZeJ u then (if ZaI t s then (if s.Class=7∧0≤k∧k<s.Routes.length then 0 else 2) else 321) else 320) else 260):=by
 unfold ZeW
 rw [ZeN (by omega),Option.bind_some]
 cases hT:Zeo t with
 | false=>rfl
 | true =>
  simp only [if_true,bne_self_eq_false,Bool.false_eq_true,if_false]
  rw [ZeI,Option.bind_some]
  cases hU:ZeJ u with
  | false=>rfl
  | true =>
   simp only [if_true,bne_self_eq_false,Bool.false_eq_true,if_false]
   rw [ZgO (ZaX.1 hT) s hN,Option.bind_some]
   cases hS:ZaI t s with
   | false=>rfl
   | true =>
    rw [if_neg (by simp:¬ (!true)=true),if_pos (rfl:true=true)]
    have hl:1≤s.Routes.length∧s.Routes.length≤2:=by
     simp only [ZaI,lenB,Bool.and_eq_true,decide_eq_true_eq] at hS
     exact hS.2.2.1
    rw [ZP (by omega) (by omega),Zcg]
    have hb:inB k 0 ((s.Routes.length:Int) - 1)=decide (0≤k∧k<(s.Routes.length:Int)):=by
     rw [Bool.eq_iff_iff]
     simp only [inB,Bool.and_eq_true,decide_eq_true_eq]
     omega
    rw [hb]
    by_cases hc:s.Class=7
    ·have h7:(s.Class != 7)=false:=by simp [hc]
     rw [h7]
     by_cases hk:0≤k∧k<(s.Routes.length:Int)
     ·simp only [decide_eq_true hk,hc,hk,and_self,if_true];rfl
     ·simp only [decide_eq_false hk,hc,hk,and_false,if_false];rfl
    ·have h7:(s.Class != 7)=true:=by simp [hc]
     rw [h7]
     simp only [hc,false_and,if_false,if_true];rfl
def ZdF (s:Zj) (k:Int):List Int:=s.Routes.getD k.toNat []
theorem ZcU (h:ZaI t s=true):Zjy s:=by
 simp only [ZaI,Zol,inB,Bool.and_eq_true,decide_eq_true_eq] at h
 exact h.1.2.2.2.2.1
theorem ZhE (h:ZaI t s=true):(1≤s.Routes.length∧s.Routes.length≤2)∧s.Routes.all (ZeV t s)=true:=by
 simp only [ZaI,lenB,Bool.and_eq_true,decide_eq_true_eq] at h
 exact ⟨h.2.2.1,h.2.2.2.1⟩
theorem Znh (h:ZaI t s=true) {k:Int} (h0:0≤k) (hk:k<s.Routes.length):idx s.Routes k=some (ZdF s k)∧ZaE t (ZdF s k)=true:=by
 refine ⟨ZcR [] h0 hk,(ZfU (ZhE h).2 (k:=k.toNat) (by omega)).1⟩
theorem Zgx (hT:Zeo t=true) (hU:ZeJ u=true) (hS:ZaI t s=true) {k:Int} (hc:s.Class=7) (h0:0≤k) (hk:k<s.Routes.length) (hN:200≤N) :
  Zd4 N t u s k=some ((List.range (ZdF s k).length).map (Z4 t u s (ZdF s k)),0):=by
 obtain ⟨e1,e2⟩:=Znh hS h0 hk
 have h8:=(Zb3 e2).2.1
 unfold Zd4
 rw [Zib k hN,hT,hU,hS,if_pos rfl,if_pos rfl,if_pos rfl,if_pos ⟨hc,h0,hk⟩,Option.bind_some,if_neg (by decide)]
 show (ZbY N _ s k t u []).bind _=_
 have:=ZoP (N:=N) (ZaX.1 hT) (ZcB hU) (ZcU hS) e2 (y:=fun (s:(List ZR)) (x12:ZR)=>ZdL (fun v:(List ZR)=>ZbE N v x12) s) (fun j=>(List.range j).map (Z4 t u s (ZdF s k))) (fun j hj=>by
  show ZdL (fun v=>ZbE N v (Z4 t u s (ZdF s k) j)) _=_
  unfold ZdL ZbE
  simp only
  rw [Zf2 (by simp;omega) (by omega),List.range_succ,List.map_append]
  rfl) e1 hN
 simp only [List.range_zero,List.map_nil] at this
 rw [this]
 rfl
theorem Zgw (hT:Zeo t=true) (hU:ZeJ u=true) (hS:ZaI t s=true) {k:Int} (hc:s.Class=7) (h0:0≤k) (hk:k<s.Routes.length) (hN:200≤N) :
  Zd3 N t u s k=some (ZaY t u (Z4 t u s (ZdF s k) ((ZdF s k).length - 1)),0):=by
 obtain ⟨e1,e2⟩:=Znh hS h0 hk
 obtain ⟨h1,h8,hp⟩:=Zb3 e2
 have g:=ZaX.1 hT
 have hL:t.Links.length≤1000:=by have:=g.l24;omega
 unfold Zd3
 rw [Zib k hN,hT,hU,hS,if_pos rfl,if_pos rfl,if_pos rfl,if_pos ⟨hc,h0,hk⟩,Option.bind_some,if_neg (by decide)]
 show (ZbY N _ s k t u 0).bind _=_
 have:=ZoP (N:=N) g (ZcB hU) (ZcU hS) e2 (y:=fun (s:Int) (x21:ZR)=>ZdL (fun v:Int=>ZbD N t u v x21) s) (fun j=>if j=0 then 0 else ZaY t u (Z4 t u s (ZdF s k) (j - 1))) (fun j hj=>by
  show ZdL (fun v=>ZbD N t u v (Z4 t u s (ZdF s k) j)) _=_
  unfold ZdL ZbD
  have hb:=Zgn g (ZcB hU) (ZcU hS) hp j hj
  obtain ⟨o1,o2,o3⟩:=hb.told g (ZcB hU)
  obtain ⟨_,_,d1,d2⟩:=Zhk g hb.port
  have l1:=hb.long1;have l2:=hb.long2;have l3:=hb.op1;have l4:=hb.op2
  have q:=(ZcB hU).p1;have q':=(ZcB hU).p2
  simp only
  rw [ZlG hL hb.port,Option.bind_some,ZP (x:=(Z4 t u s (ZdF s k) j).Open+(Z4 t u s (ZdF s k) j).Long) (by omega) (by omega),ZP (x:=(Z4 t u s (ZdF s k) j).Open+(Z4 t u s (ZdF s k) j).Long+_) (by omega) (by omega)]
  rw [show w64 ((Z4 t u s (ZdF s k) j).Open+(Z4 t u s (ZdF s k) j).Long+(plk t (Z4 t u s (ZdF s k) j).Port).Delay+u.Proc)=ZaY t u (Z4 t u s (ZdF s k) j) from ZP (by omega) (by omega)]
  rw [if_neg (Nat.succ_ne_zero j)]
  rfl) e1 hN
 rw [if_pos rfl] at this
 rw [this,Option.bind_some,if_neg (by omega)]
def dS:Zj:=⟨0,0,0,0,0,0,⟨0,0⟩,0,[]⟩
def idAt (l:List Zj) (k:Nat):Int:=(l.getD k dS).Id
def Zpi (l:List Zj) (k:Nat):Bool := !((List.range k).any fun j=>idAt l j==idAt l k)
def allR (t:Zh) (l:List Zj):Int:=if Zeo t then (if l.length≤12 then (if l.all (ZaI t) then (if allB l.length (Zpi l) then 0 else 322) else 321) else 3) else 260
theorem Zfk (l:List Zj) (hN:200≤N):Zch N t l=some (allR t l):=by
 unfold Zch allR
 rw [ZeN (by omega),Option.bind_some]
 cases hT:Zeo t with
 | false=>rfl
 | true =>
  have g:=ZaX.1 hT
  simp only [if_true,bne_self_eq_false,Bool.false_eq_true,if_false]
  by_cases h12:l.length≤12
  ·rw [if_neg (by simp;omega),if_pos h12]
   have:=Zbl (n:=l.length) (p:=fun k=>ZaI t (l.getD k dS)) (body:=fun x:Int=>Za5 N t l x) (bad:=.inr 321) (fin:=.inl ()) (fun k hk=>by
    unfold Za5
    rw [if_pos (by simp;omega),Zcz hk,Option.bind_some,Zc4 hk,ZgO g _ hN,Option.bind_some,ZT (by omega)]
    cases ZaI t l[k]<;>rfl) (by unfold Za5;rw [if_neg (by simp)]) (N:=N) (by omega)
   rw [this,Zla l dS (ZaI t)]
   cases l.all (ZaI t) with
   | false=>rfl
   | true =>
    simp only [if_true,Option.bind_some]
    have:=(Zoi (n:=l.length) (p:=Zpi l) (f:=fun (b:List (Int × Bool)) k=>ZcT b (idAt l k) true) (body:=fun x:Int × (List (Int × Bool))=>Zav N l x.1 x.2) (bad:=.inr 322) (fin:=fun _=>.inl ())
     (fun k b=>∀ x,ZfJ b x false=(List.range k).any fun j=>idAt l j==x)
     (fun k b hk hb=>by
      show Zav N l (k:Int) b=_
      unfold Zav
      rw [if_pos (by simp;omega),Zcz hk,Option.bind_some]
      have hid:l[k].Id=idAt l k:=by unfold idAt;rw [Zc4 hk]
      rw [hid,hb,ZT (by omega)]
      unfold Zpi
      cases (List.range k).any fun j=>idAt l j==idAt l k<;>rfl)
     (fun k b hk hb _ x=>by
      rw [Zob,hb,List.range_succ,List.any_append]
      by_cases e:x=idAt l k
      ·subst e;simp
      ·have:(idAt l k==x)=false:=by simpa using Ne.symm e
       simp [e,this])
     (fun b hb=>by show Zav N l (l.length:Int) b=_;unfold Zav;rw [if_neg (by simp)]) (N:=N) (by omega) (b0:=[]) (fun x=>rfl)).1
    rw [this]
    cases allB l.length (Zpi l)<;>rfl
  ·rw [if_pos (by simp;omega),if_neg h12]
end
end Go.Sh

