/- Part of the proof; written by a program out of the texts in wip/. -/
import Derived.Test.YtmplmekdilmdgaaStreamChecksTop4
set_option linter.unusedVariables false
set_option linter.unusedSimpArgs false
namespace Go.Sh
open Go Go.Eng
section
variable {N:Nat} {t:Zg}
def Zmi (a b:List Int):Bool:=allB a.length fun i=>allB b.length fun k => !(w64 (Int.tdiv (at0 a i) 2)==w64 (Int.tdiv (at0 b k) 2))
theorem Zjb {a b:List Int} (ha:a.length≤100) (hb:b.length≤100) (hN:200≤N):Zek N a b=some (!Zmi a b):=by
 unfold Zek Zmi
 have h2:∀ i,i<a.length→Z2 (fun x:Int=>ZbI N b (at0 a i) x) N 0=some (if allB b.length (fun k => !(w64 (Int.tdiv (at0 a i) 2)==w64 (Int.tdiv (at0 b k) 2))) then .inl () else .inr true):=fun i hi =>
  Zau (n:=b.length) (fun k hk=>by
   unfold ZbI
   rw [if_pos (by simp;omega),ZcB hk,Option.bind_some,← Zhz hk,ZS (by omega)]
   cases (w64 (Int.tdiv (at0 a i) 2)==w64 (Int.tdiv (at0 b k) 2))<;>rfl) (by unfold ZbI;rw [if_neg (by simp)]) (by omega)
 have:=Zau (n:=a.length) (p:=fun i=>allB b.length fun k => !(w64 (Int.tdiv (at0 a i) 2)==w64 (Int.tdiv (at0 b k) 2))) (body:=fun x:Int=>ZbJ N a b x) (bad:=.inr true) (fin:=.inl ()) (fun i hi=>by
  unfold ZbJ
  rw [if_pos (by simp;omega),ZcB hi,Option.bind_some,← Zhz hi,h2 i hi,ZS (by omega)]
  cases allB b.length (fun k => !(w64 (Int.tdiv (at0 a i) 2)==w64 (Int.tdiv (at0 b k) 2)))<;>rfl) (by unfold ZbJ;rw [if_neg (by simp)]) (N:=N) (by omega)
 rw [this]
 cases allB a.length (fun i=>allB b.length fun k => !(w64 (Int.tdiv (at0 a i) 2)==w64 (Int.tdiv (at0 b k) 2)))<;>rfl
def Zg2 (A B:List Int):Bool:=(List.range' 1 (A.length - 2)).all fun i => !B.contains (at0 A i)
theorem Zf3 {A B:List Int} (h1:2≤A.length) (hA:A.length≤100) (hB:B.length≤100) (hN:200≤N):Zc7 N A B=some (!Zg2 A B):=by
 unfold Zc7 Zg2
 have:=ZnK (n:=A.length - 1) (p:=fun i => !B.contains (at0 A i)) (body:=fun x:Int=>Zbo N A B x) (bad:=.inr true) (fin:=.inl ()) (fun i hi=>by
  unfold Zbo
  rw [if_pos (by rw [Z5 (by omega) (by omega)];simp;omega),ZcB (by omega),Option.bind_some,← Zhz (by omega),ZfN (by omega) (by omega),Option.bind_some,ZS (by omega)]
  cases B.contains (at0 A i)<;>rfl) (by unfold Zbo;rw [if_neg (by rw [Z5 (by omega) (by omega)];simp;omega)]) (A.length - 2) N 1 (by omega) (by omega) (by omega)
 rw [show ((1:Nat):Int)=1 from rfl] at this
 rw [this]
 cases (List.range' 1 (A.length - 2)).all (fun i => !B.contains (at0 A i))<;>rfl
theorem ZgV (g:Good t) {a b:List Int} (hva:ZaG t a=true) (hvb:ZaG t b=true) (hN:200≤N):ZbO N ⟨t⟩ a b=some (!Zg2 (Zaa t a) (Zaa t b)):=by
 obtain ⟨a1,a8,_⟩:=ZcK hva
 obtain ⟨b1,b8,_⟩:=ZcK hvb
 have hla:=Zda (t:=t) a
 have hlb:=Zda (t:=t) b
 unfold ZbO Zg2
 rw [Zfl g hva hN,Option.bind_some,Zfl g hvb hN,Option.bind_some]
 generalize hA:Zaa t a=A at *
 generalize hB:Zaa t b=B at *
 have hsub:subI A 1 (w64 ((A.length:Int) - 1))=some ((A.take (A.length - 1)).drop 1):=by
  rw [Z5 (by omega) (by omega)]
  unfold subI
  rw [if_pos ⟨by omega,by omega,by omega⟩,show ((A.length:Int) - 1).toNat=A.length - 1 by omega]
  rfl
 rw [hsub,Option.bind_some]
 have hil:((A.take (A.length - 1)).drop 1).length=A.length - 2:=by simp;omega
 have:=Zau (n:=A.length - 2) (p:=fun i => !B.contains (at0 A (i+1))) (body:=fun x:Int=>ZaI N B ((A.take (A.length - 1)).drop 1) x) (bad:=.inr true) (fin:=.inl ()) (fun i hi=>by
  unfold ZaI
  rw [if_pos (by rw [hil];simp;omega),ZcB (by omega),Option.bind_some]
  have e:((A.take (A.length - 1)).drop 1)[i]'(by omega)=at0 A (i+1):=by
   rw [Zhz (by omega),List.getElem_drop,List.getElem_take]
   congr 1;omega
  rw [e,ZeP (by omega) (by omega),Option.bind_some,ZS (by omega)]
  cases B.contains (at0 A (i+1))<;>rfl) (by unfold ZaI;rw [if_neg (by rw [hil];simp)]) (N:=N) (by omega)
 rw [this]
 have e2:(List.range' 1 (A.length - 2)).all (fun i => !B.contains (at0 A i))=allB (A.length - 2) (fun i => !B.contains (at0 A (i+1))):=by
  unfold allB
  rw [Bool.eq_iff_iff,List.all_eq_true,List.all_eq_true]
  constructor
  ·intro h i hi
   exact h (i+1) (by simp only [List.mem_range] at hi;simp only [List.mem_range'_1];omega)
  ·intro h i hi
   simp only [List.mem_range'_1] at hi
   have:=h (i - 1) (by simp only [List.mem_range];omega)
   rwa [show i - 1+1=i by omega] at this
 rw [e2]
 cases allB (A.length - 2) (fun i => !B.contains (at0 A (i+1)))<;>rfl
def ZjT (t:Zg) (a b:List Int):Bool:=Zmi a b&&(Zg2 (Zaa t a) (Zaa t b)&&Zg2 (Zaa t b) (Zaa t a))
theorem ZgX (g:Good t) {a b:List Int} (hva:ZaG t a=true) (hvb:ZaG t b=true) (hN:200≤N):Zcx N t a b=some (ZjT t a b):=by
 obtain ⟨a1,a8,pa⟩:=ZcK hva
 obtain ⟨b1,b8,pb⟩:=ZcK hvb
 have hla:=Zda (t:=t) a
 have hlb:=Zda (t:=t) b
 have hL:t.Links.length≤1000:=by have:=g.l24;omega
 unfold Zcx ZjT
 have h2:∀ i:Nat,i<a.length→Z2 (fun x:Int=>Zca N a b (i:Int) x) N 0=some (if allB b.length (fun k => !(w64 (Int.tdiv (at0 a i) 2)==w64 (Int.tdiv (at0 b k) 2))) then .inl () else .inr false):=fun i hi =>
  Zau (n:=b.length) (fun k hk=>by
   unfold Zca
   rw [if_pos (by simp;omega),ZcB hi,Option.bind_some,ZcB hk,Option.bind_some,← Zhz hi,← Zhz hk,ZS (by omega)]
   cases (w64 (Int.tdiv (at0 a i) 2)==w64 (Int.tdiv (at0 b k) 2))<;>rfl) (by unfold Zca;rw [if_neg (by simp)]) (by omega)
 have:=Zau (n:=a.length) (p:=fun i=>allB b.length fun k => !(w64 (Int.tdiv (at0 a i) 2)==w64 (Int.tdiv (at0 b k) 2))) (body:=fun x:Int=>Zcb N a b x) (bad:=.inr false) (fin:=.inl ()) (fun i hi=>by
  unfold Zcb
  rw [if_pos (by simp;omega),h2 i hi,ZS (by omega)]
  cases allB b.length (fun k => !(w64 (Int.tdiv (at0 a i) 2)==w64 (Int.tdiv (at0 b k) 2)))<;>rfl) (by unfold Zcb;rw [if_neg (by simp)]) (N:=N) (by omega)
 rw [this]
 unfold Zmi
 cases allB a.length (fun i=>allB b.length fun k => !(w64 (Int.tdiv (at0 a i) 2)==w64 (Int.tdiv (at0 b k) 2))) with
 | false=>rfl
 | true =>
  simp only [if_true,Option.bind_some,Bool.true_and]
  rw [Zfo hL a1 (by omega) pa hN,Zfo hL b1 (by omega) pb hN]
  simp only [Option.bind_some]
  rw [Zf3 (by omega) (by omega) (by omega) hN,Zf3 (by omega) (by omega) (by omega) hN]
  cases Zg2 (Zaa t a) (Zaa t b)<;>cases Zg2 (Zaa t b) (Zaa t a)<;>rfl
theorem Zj5 {a b:List Int} (ha:a.length≤100) (hb:b.length≤100) (hN:200≤N) :
  ZcS N t a b=some (if errR t a=0 then (if ZaG t b then (ZjT t a b,0) else (false,310)) else (false,errR t a)):=by
 unfold ZcS ZcD
 rw [Zd7 ha hN,Option.bind_some]
 by_cases he:errR t a=0
 ·obtain ⟨hT,hva⟩:=Zgx.1 he
  have g:=Za1.1 hT
  rw [if_pos he,he]
  simp only [bne_self_eq_false,Bool.false_eq_true,if_false]
  unfold Zc2
  rw [Zfk g hb hN,Option.bind_some]
  cases hvb:ZaG t b with
  | false=>rfl
  | true =>
   simp only [Bool.not_true,Bool.false_eq_true,if_false,if_true]
   rw [Zjb ha hb hN,ZgV g hva hvb hN,ZgV g hvb hva hN]
   unfold ZjT
   cases Zmi a b<;>cases Zg2 (Zaa t a) (Zaa t b)<;>cases Zg2 (Zaa t b) (Zaa t a)<;>rfl
 ·rw [if_neg he]
  have:(errR t a != 0)=true:=by simpa using he
  rw [this]
  rfl
end
end Go.Sh
