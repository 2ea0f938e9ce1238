/- Part of the proof; written by a program out of the texts in wip/. -/
import Derived.Test.YthipedbbcjemhaaPlanMovesE26
set_option linter.unusedVariables false
set_option linter.unusedSimpArgs false
namespace Go.Eng
open Go
theorem ofL_all {α:Type} (n:Nat) (z:α) (l:List α) (h:l.length=n) {m:List α} (e:m=(List.range n).map fun i=>l.getD i z):m=l:=by
 subst e
 apply List.ext_getElem?
 intro i
 rw [List.getElem?_map]
 by_cases hi:i<n
 ·rw [List.getElem?_range hi,List.getElem?_eq_getElem (by omega)]
  simp [List.getD_eq_getElem?_getD,List.getElem?_eq_getElem (show i<l.length by omega)]
 ·rw [List.getElem?_eq_none (l:=List.range n) (by simp;omega),List.getElem?_eq_none (by omega)];rfl
theorem Zho {α:Type} {l:List α} {i:Int} {e:α} (h:idx l i=some e):0≤i∧i.toNat<l.length∧l[i.toNat]? = some e:=by
 unfold idx at h
 split at h
 ·rename_i h0
  exact ⟨h0,(List.getElem?_eq_some_iff.1 h).1,h⟩
 ·cases h
theorem ZjG {α:Type} {l:List α} {i:Int} {e:α} {t off n sz:Nat} {k:IntKind} (h:idx l i=some e) (hn:l.length=n) :
  ZQ (.iaddr n sz) [.loc t off,.p (.int k i)]=some (.loc t (off+i.toNat * sz)):=by
 obtain ⟨h0,h1,_⟩:=Zho h
 simp only [ZQ]
 rw [if_pos ⟨h0,by omega⟩]
 rfl
theorem ZcB {α:Type} {l:List α} {i:Int} {e:α} {t off n sz:Nat} {k:IntKind} (h:idx l i=some e) (hn:l.length=n) :
  ZQ (.iaddr n sz) [.ptr t off,.p (.int k i)]=some (.ptr t (off+i.toNat * sz)):=by
 obtain ⟨h0,h1,_⟩:=Zho h
 simp only [ZQ]
 rw [if_pos ⟨h0,by omega⟩]
 rfl
theorem Zl2 {α:Type} {l:List α} {i:Int} {e:α} {off:Nat} (f:α→AV) (pre post:List AV) (h:idx l i=some e) (hp:pre.length=off) {cs:List AV} (hc:cs=pre++(l.map f++post)) :
  sub (off+i.toNat * 1) 1 cs=some [f e]:=by
 obtain ⟨h0,h1,h2⟩:=Zho h
 subst hc hp
 unfold sub
 rw [if_pos (by simp;omega)]
 have e1:(pre++(l.map f++post))[pre.length+i.toNat * 1]? = some (f e):=by
  rw [List.getElem?_append_right (by omega),show pre.length+i.toNat * 1 - pre.length=i.toNat by omega,List.getElem?_append_left (by simpa using h1),List.getElem?_map,h2]
  rfl
 congr 1
 have:=List.drop_eq_getElem_cons (Zmp e1)
 rw [this]
 have e2:(pre++(l.map f++post))[pre.length+i.toNat * 1]'(Zmp e1)=f e:=by
  rw [List.getElem?_eq_getElem (Zmp e1)] at e1
  simpa using e1
 rw [e2]
 simp
theorem Zgn {α:Type} {l:List α} {i:Int} {e y:α} {off:Nat} (f:α→AV) (pre post:List AV) (h:idx l i=some e) (hp:pre.length=off) {cs vs cs':List AV} (hc:cs=pre++(l.map f++post)) (hv:vs=[f y])
  (hc':cs'=pre++((l.set i.toNat y).map f++post)):Zaw (off+i.toNat * 1) vs cs=some cs':=by
 obtain ⟨h0,h1,h2⟩:=Zho h
 subst hc hp hv hc'
 unfold Zaw
 rw [if_pos (by simp;omega)]
 congr 1
 rw [Nat.mul_one,List.take_append,List.take_of_length_le (by omega),show pre.length+i.toNat - pre.length=i.toNat by omega,List.take_append_of_le_length (by simp;omega)]
 simp only [List.append_assoc]
 congr 1
 rw [List.drop_append,List.drop_eq_nil_of_le (by simp;omega),List.nil_append,show pre.length+i.toNat+[f y].length - pre.length=i.toNat+1 by simp;omega,
  List.drop_append_of_le_length (by simp;omega),← List.append_assoc,← List.append_assoc]
 congr 1
 rw [List.map_set,List.set_eq_take_append_cons_drop,if_pos (by simpa using h1)]
 simp
theorem ZkW {X Y:List AV} {pre post cs':List AV} (h:X=Y) (hc:cs'=pre++(X++post)):cs'=pre++(Y++post):=h ▸ hc
section
variable {P:Program} {n:Nat} {s:St}
theorem Zlr {α:Type} {l:List α} {i:Int} {e:α} {d t off:Nat} {x:IX} {cs:List AV} (f:α→AV) (pre post:List AV) (h:idx l i=some e) (hx:ev s.fr x = .loc t (off+i.toNat * 1)) (hb:bget s.bx t=some cs)
  (hc:cs=pre++(l.map f++post)) (hp:pre.length=off) (hok:Zbt (f e)=true:=by rfl):ZB P (.loadL d x 1 false) s ⟨put s.fr d (f e),s.bx,s.H⟩:=by
 have hs:=Zl2 f pre post h hp hc
 simp only [ZB,ZS,hx,rd,hb,Option.bind_some,hs,ZE,hok,Bool.and_self,if_true,mk,Option.map_some,Bool.false_eq_true,if_false]
theorem ZjP {α:Type} {l:List α} {i:Int} {e:α} {d id off:Nat} {x:IX} {cs:List AV} {H:List HO} (f:α→AV) (pre post:List AV) (h:idx l i=some e) (hs:s.H=H) (hx:ev s.fr x = .ptr id (off+i.toNat * 1)) (hl:Lies H (.cel id cs))
  (hc:cs=pre++(l.map f++post)) (hp:pre.length=off) (hok:Zbt (f e)=true:=by rfl):ZB P (.load d x 1 false) s ⟨put s.fr d (f e),s.bx,s.H⟩:=by
 subst hs
 have hl':s.H[id]? = some (.cells cs):=hl
 have hs:=Zl2 f pre post h hp hc
 simp only [ZB,ZS,hx,rd,hl',Option.bind_some,hs,ZE,hok,Bool.and_self,if_true,mk,Option.map_some,Bool.false_eq_true,if_false]
theorem ZjM {x y:IX} {m:Nat} {s':St} (h:ZB P (.store x y m) s s') (hl:Zkj (ev s.fr x)=false):ZB P (.storeH x y m) s s':=by
 simp only [ZB,ZS] at h ⊢
 split at h
 ·rename_i hc;rw [if_pos ⟨hl,hc⟩];exact h
 ·cases h
end
end Go.Eng

