/- Part of the proof; written by a program out of the texts in wip/. -/
import Derived.Test.YtmplmekdilmdgaaStreamArrivesTop4
set_option linter.unusedVariables false
set_option linter.unusedSimpArgs false
namespace Go.Sh
open Go Go.Eng
section
variable {N:Nat} {t:Ze}
def ZlB (a b:List Int):Bool:=allB a.length fun i=>allB b.length fun k => !(w64 (Int.tdiv (at0 a i) 2)==w64 (Int.tdiv (at0 b k) 2))
theorem Ziv {a b:List Int} (ha:a.length≤100) (hb:b.length≤100) (hN:200≤N):ZdH N a b=some (!ZlB a b):=by
 unfold ZdH ZlB
 have h2:∀ i,i<a.length→Zae (fun x:Int=>Zbp N b (at0 a i) x) N 0=some (if allB b.length (fun k => !(w64 (Int.tdiv (at0 a i) 2)==w64 (Int.tdiv (at0 b k) 2))) then .inl () else .inr true):=fun i hi =>
  ZaU (n:=b.length) (fun k hk=>by
   unfold Zbp
   rw [if_pos (by simp;omega),Zcl hk,Option.bind_some,← Zgx hk,Z1 (by omega)]
   cases (w64 (Int.tdiv (at0 a i) 2)==w64 (Int.tdiv (at0 b k) 2))<;>rfl) (by unfold Zbp;rw [if_neg (by simp)]) (by omega)
 have:=ZaU (n:=a.length) (p:=fun i=>allB b.length fun k => !(w64 (Int.tdiv (at0 a i) 2)==w64 (Int.tdiv (at0 b k) 2))) (body:=fun x:Int=>Zbq N a b x) (bad:=.inr true) (fin:=.inl ()) (fun i hi=>by
  unfold Zbq
  rw [if_pos (by simp;omega),Zcl hi,Option.bind_some,← Zgx hi,h2 i hi,Z1 (by omega)]
  cases allB b.length (fun k => !(w64 (Int.tdiv (at0 a i) 2)==w64 (Int.tdiv (at0 b k) 2)))<;>rfl) (by unfold Zbq;rw [if_neg (by simp)]) (N:=N) (by omega)
 rw [this]
 cases allB a.length (fun i=>allB b.length fun k => !(w64 (Int.tdiv (at0 a i) 2)==w64 (Int.tdiv (at0 b k) 2)))<;>rfl
def Zgk (A B:List Int):Bool:=(List.range' 1 (A.length - 2)).all fun i => !B.contains (at0 A i)
theorem Zfp {A B:List Int} (h1:2≤A.length) (hA:A.length≤100) (hB:B.length≤100) (hN:200≤N):ZcE N A B=some (!Zgk A B):=by
 unfold ZcE Zgk
 have:=Zm1 (n:=A.length - 1) (p:=fun i => !B.contains (at0 A i)) (body:=fun x:Int=>Za4 N A B x) (bad:=.inr true) (fin:=.inl ()) (fun i hi=>by
  unfold Za4
  rw [if_pos (by rw [ZR (by omega) (by omega)];simp;omega),Zcl (by omega),Option.bind_some,← Zgx (by omega),Zgq (by omega) (by omega),Option.bind_some,Z1 (by omega)]
  cases B.contains (at0 A i)<;>rfl) (by unfold Za4;rw [if_neg (by rw [ZR (by omega) (by omega)];simp;omega)]) (A.length - 2) N 1 (by omega) (by omega) (by omega)
 rw [show ((1:Nat):Int)=1 from rfl] at this
 rw [this]
 cases (List.range' 1 (A.length - 2)).all (fun i => !B.contains (at0 A i))<;>rfl
theorem Zgh (g:Good t) {a b:List Int} (hva:ZaA t a=true) (hvb:ZaA t b=true) (hN:200≤N):Zbv N ⟨t⟩ a b=some (!Zgk (Z6 t a) (Z6 t b)):=by
 obtain ⟨a1,a8,_⟩:=Zcj hva
 obtain ⟨b1,b8,_⟩:=Zcj hvb
 have hla:=ZcH (t:=t) a
 have hlb:=ZcH (t:=t) b
 unfold Zbv Zgk
 rw [ZeC g hva hN,Option.bind_some,ZeC g hvb hN,Option.bind_some]
 generalize hA:Z6 t a=A at *
 generalize hB:Z6 t b=B at *
 have hsub:subI A 1 (w64 ((A.length:Int) - 1))=some ((A.take (A.length - 1)).drop 1):=by
  rw [ZR (by omega) (by omega)]
  unfold subI
  rw [if_pos ⟨by omega,by omega,by omega⟩,show ((A.length:Int) - 1).toNat=A.length - 1 by omega]
  rfl
 rw [hsub,Option.bind_some]
 have hil:((A.take (A.length - 1)).drop 1).length=A.length - 2:=by simp;omega
 have:=ZaU (n:=A.length - 2) (p:=fun i => !B.contains (at0 A (i+1))) (body:=fun x:Int=>ZaB N B ((A.take (A.length - 1)).drop 1) x) (bad:=.inr true) (fin:=.inl ()) (fun i hi=>by
  unfold ZaB
  rw [if_pos (by rw [hil];simp;omega),Zcl (by omega),Option.bind_some]
  have e:((A.take (A.length - 1)).drop 1)[i]'(by omega)=at0 A (i+1):=by
   rw [Zgx (by omega),List.getElem_drop,List.getElem_take]
   congr 1;omega
  rw [e,Zd7 (by omega) (by omega),Option.bind_some,Z1 (by omega)]
  cases B.contains (at0 A (i+1))<;>rfl) (by unfold ZaB;rw [if_neg (by rw [hil];simp)]) (N:=N) (by omega)
 rw [this]
 have e2:(List.range' 1 (A.length - 2)).all (fun i => !B.contains (at0 A i))=allB (A.length - 2) (fun i => !B.contains (at0 A (i+1))):=by
  unfold allB
  rw [Bool.eq_iff_iff,List.all_eq_true,List.all_eq_true]
  constructor
  ·intro h i hi
   exact h (i+1) (by simp only [List.mem_range] at hi;simp only [List.mem_range'_1];omega)
  ·intro h i hi
   simp only [List.mem_range'_1] at hi
   have:=h (i - 1) (by simp only [List.mem_range];omega)
   rwa [show i - 1+1=i by omega] at this
 rw [e2]
 cases allB (A.length - 2) (fun i => !B.contains (at0 A (i+1)))<;>rfl
def Zi9 (t:Ze) (a b:List Int):Bool:=ZlB a b&&(Zgk (Z6 t a) (Z6 t b)&&Zgk (Z6 t b) (Z6 t a))
theorem Zgj (g:Good t) {a b:List Int} (hva:ZaA t a=true) (hvb:ZaA t b=true) (hN:200≤N):Zb2 N t a b=some (Zi9 t a b):=by
 obtain ⟨a1,a8,pa⟩:=Zcj hva
 obtain ⟨b1,b8,pb⟩:=Zcj hvb
 have hla:=ZcH (t:=t) a
 have hlb:=ZcH (t:=t) b
 have hL:t.Links.length≤1000:=by have:=g.l24;omega
 unfold Zb2 Zi9
 have h2:∀ i:Nat,i<a.length→Zae (fun x:Int=>ZbH N a b (i:Int) x) N 0=some (if allB b.length (fun k => !(w64 (Int.tdiv (at0 a i) 2)==w64 (Int.tdiv (at0 b k) 2))) then .inl () else .inr false):=fun i hi =>
  ZaU (n:=b.length) (fun k hk=>by
   unfold ZbH
   rw [if_pos (by simp;omega),Zcl hi,Option.bind_some,Zcl hk,Option.bind_some,← Zgx hi,← Zgx hk,Z1 (by omega)]
   cases (w64 (Int.tdiv (at0 a i) 2)==w64 (Int.tdiv (at0 b k) 2))<;>rfl) (by unfold ZbH;rw [if_neg (by simp)]) (by omega)
 have:=ZaU (n:=a.length) (p:=fun i=>allB b.length fun k => !(w64 (Int.tdiv (at0 a i) 2)==w64 (Int.tdiv (at0 b k) 2))) (body:=fun x:Int=>ZbI N a b x) (bad:=.inr false) (fin:=.inl ()) (fun i hi=>by
  unfold ZbI
  rw [if_pos (by simp;omega),h2 i hi,Z1 (by omega)]
  cases allB b.length (fun k => !(w64 (Int.tdiv (at0 a i) 2)==w64 (Int.tdiv (at0 b k) 2)))<;>rfl) (by unfold ZbI;rw [if_neg (by simp)]) (N:=N) (by omega)
 rw [this]
 unfold ZlB
 cases allB a.length (fun i=>allB b.length fun k => !(w64 (Int.tdiv (at0 a i) 2)==w64 (Int.tdiv (at0 b k) 2))) with
 | false=>rfl
 | true =>
  simp only [if_true,Option.bind_some,Bool.true_and]
  rw [ZeE hL a1 (by omega) pa hN,ZeE hL b1 (by omega) pb hN]
  simp only [Option.bind_some]
  rw [Zfp (by omega) (by omega) (by omega) hN,Zfp (by omega) (by omega) (by omega) hN]
  cases Zgk (Z6 t a) (Z6 t b)<;>cases Zgk (Z6 t b) (Z6 t a)<;>rfl
theorem Zjj {a b:List Int} (ha:a.length≤100) (hb:b.length≤100) (hN:200≤N) :
  Zcp N t a b=some (if errR t a=0 then (if ZaA t b then (Zi9 t a b,0) else (false,310)) else (false,errR t a)):=by
 unfold Zcp Zb9
 rw [Zdy ha hN,Option.bind_some]
 by_cases he:errR t a=0
 ·obtain ⟨hT,hva⟩:=ZfQ.1 he
  have g:=Za1.1 hT
  rw [if_pos he,he]
  simp only [bne_self_eq_false,Bool.false_eq_true,if_false]
  unfold ZcA
  rw [ZeB g hb hN,Option.bind_some]
  cases hvb:ZaA t b with
  | false=>rfl
  | true =>
   simp only [Bool.not_true,Bool.false_eq_true,if_false,if_true]
   rw [Ziv ha hb hN,Zgh g hva hvb hN,Zgh g hvb hva hN]
   unfold Zi9
   cases ZlB a b<;>cases Zgk (Z6 t a) (Z6 t b)<;>cases Zgk (Z6 t b) (Z6 t a)<;>rfl
 ·rw [if_neg he]
  have:(errR t a != 0)=true:=by simpa using he
  rw [this]
  rfl
end
end Go.Sh
