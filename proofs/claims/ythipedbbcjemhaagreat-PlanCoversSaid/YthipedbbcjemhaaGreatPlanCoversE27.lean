/- Part of the proof; written by a program out of the texts in wip/. -/
import Derived.Test.YthipedbbcjemhaaGreatPlanCoversE26
set_option linter.unusedVariables false
set_option linter.unusedSimpArgs false
namespace Go.Eng
open Go
theorem Zp7 {α:Type} (n:Nat) (z:α) (l:List α) (h:l.length=n) {m:List α} (e:m=(List.range n).map fun i=>l.getD i z):m=l:=by
 subst e
 apply List.ext_getElem?
 intro i
 rw [List.getElem?_map]
 by_cases hi:i<n
 ·rw [List.getElem?_range hi,List.getElem?_eq_getElem (by omega)]
  simp [List.getD_eq_getElem?_getD,List.getElem?_eq_getElem (show i<l.length by omega)]
 ·rw [List.getElem?_eq_none (l:=List.range n) (by simp;omega),List.getElem?_eq_none (by omega)];rfl
theorem ZjT {α:Type} {l:List α} {i:Int} {e:α} (h:idx l i=some e):0≤i∧i.toNat<l.length∧l[i.toNat]? = some e:=by
 unfold idx at h
 split at h
 ·rename_i h0
  exact ⟨h0,(List.getElem?_eq_some_iff.1 h).1,h⟩
 ·cases h
theorem ZmY {α:Type} {l:List α} {i:Int} {e:α} {t off n sz:Nat} {k:IntKind} (h:idx l i=some e) (hn:l.length=n) :
  Z7 (.iaddr n sz) [.loc t off,.p (.int k i)]=some (.loc t (off+i.toNat * sz)):=by
 obtain ⟨h0,h1,_⟩:=ZjT h
 simp only [Z7]
 rw [if_pos ⟨h0,by omega⟩]
 rfl
theorem Zem {α:Type} {l:List α} {i:Int} {e:α} {t off n sz:Nat} {k:IntKind} (h:idx l i=some e) (hn:l.length=n) :
  Z7 (.iaddr n sz) [.ptr t off,.p (.int k i)]=some (.ptr t (off+i.toNat * sz)):=by
 obtain ⟨h0,h1,_⟩:=ZjT h
 simp only [Z7]
 rw [if_pos ⟨h0,by omega⟩]
 rfl
theorem ZpQ {α:Type} {l:List α} {i:Int} {e:α} {off:Nat} (f:α→AV) (pre post:List AV) (h:idx l i=some e) (hp:pre.length=off) {cs:List AV} (hc:cs=pre++(l.map f++post)) :
  sub (off+i.toNat * 1) 1 cs=some [f e]:=by
 obtain ⟨h0,h1,h2⟩:=ZjT h
 subst hc hp
 unfold sub
 rw [if_pos (by simp;omega)]
 have e1:(pre++(l.map f++post))[pre.length+i.toNat * 1]? = some (f e):=by
  rw [List.getElem?_append_right (by omega),show pre.length+i.toNat * 1 - pre.length=i.toNat by omega,List.getElem?_append_left (by simpa using h1),List.getElem?_map,h2]
  rfl
 congr 1
 have:=List.drop_eq_getElem_cons (ZnH e1)
 rw [this]
 have e2:(pre++(l.map f++post))[pre.length+i.toNat * 1]'(ZnH e1)=f e:=by
  rw [List.getElem?_eq_getElem (ZnH e1)] at e1
  simpa using e1
 rw [e2]
 simp
theorem ZiN {α:Type} {l:List α} {i:Int} {e y:α} {off:Nat} (f:α→AV) (pre post:List AV) (h:idx l i=some e) (hp:pre.length=off) {cs vs cs':List AV} (hc:cs=pre++(l.map f++post)) (hv:vs=[f y])
  (hc':cs'=pre++((l.set i.toNat y).map f++post)):Zbr (off+i.toNat * 1) vs cs=some cs':=by
 obtain ⟨h0,h1,h2⟩:=ZjT h
 subst hc hp hv hc'
 unfold Zbr
 rw [if_pos (by simp;omega)]
 congr 1
 rw [Nat.mul_one,List.take_append,List.take_of_length_le (by omega),show pre.length+i.toNat - pre.length=i.toNat by omega,List.take_append_of_le_length (by simp;omega)]
 simp only [List.append_assoc]
 congr 1
 rw [List.drop_append,List.drop_eq_nil_of_le (by simp;omega),List.nil_append,show pre.length+i.toNat+[f y].length - pre.length=i.toNat+1 by simp;omega,
  List.drop_append_of_le_length (by simp;omega),← List.append_assoc,← List.append_assoc]
 congr 1
 rw [List.map_set,List.set_eq_take_append_cons_drop,if_pos (by simpa using h1)]
 simp
theorem Zor {X Y:List AV} {pre post cs':List AV} (h:X=Y) (hc:cs'=pre++(X++post)):cs'=pre++(Y++post):=h ▸ hc
section
variable {P:Program} {n:Nat} {s:St}
theorem Zo8 {α:Type} {l:List α} {i:Int} {e:α} {d t off:Nat} {x:IX} {cs:List AV} (f:α→AV) (pre post:List AV) (h:idx l i=some e) (hx:ev s.fr x = .loc t (off+i.toNat * 1)) (hb:bget s.bx t=some cs)
  (hc:cs=pre++(l.map f++post)) (hp:pre.length=off) (hok:ZcQ (f e)=true:=by rfl):ZI P (.loadL d x 1 false) s ⟨put s.fr d (f e),s.bx,s.H⟩:=by
 have hs:=ZpQ f pre post h hp hc
 simp only [ZI,Z5,hx,rd,hb,Option.bind_some,hs,ZO,hok,Bool.and_self,if_true,mk,Option.map_some,Bool.false_eq_true,if_false]
theorem Zm9 {α:Type} {l:List α} {i:Int} {e:α} {d id off:Nat} {x:IX} {cs:List AV} {H:List HO} (f:α→AV) (pre post:List AV) (h:idx l i=some e) (hs:s.H=H) (hx:ev s.fr x = .ptr id (off+i.toNat * 1)) (hl:Lies H (.cel id cs))
  (hc:cs=pre++(l.map f++post)) (hp:pre.length=off) (hok:ZcQ (f e)=true:=by rfl):ZI P (.load d x 1 false) s ⟨put s.fr d (f e),s.bx,s.H⟩:=by
 subst hs
 have hl':s.H[id]? = some (.cells cs):=hl
 have hs:=ZpQ f pre post h hp hc
 simp only [ZI,Z5,hx,rd,hl',Option.bind_some,hs,ZO,hok,Bool.and_self,if_true,mk,Option.map_some,Bool.false_eq_true,if_false]
theorem Zm6 {x y:IX} {m:Nat} {s':St} (h:ZI P (.store x y m) s s') (hl:ZnG (ev s.fr x)=false):ZI P (.storeH x y m) s s':=by
 simp only [ZI,Z5] at h ⊢
 split at h
 ·rename_i hc;rw [if_pos ⟨hl,hc⟩];exact h
 ·cases h
theorem HP.lit {α:Type} {H:List HO} {items:List Z8} (sz:Nat) (l:List α) (enc:α→List PC) (hH:HP H items) :
  ∃ a H',a = .osl sz H.length 0 0 (l.map enc).length∧H'=H++[.arr sz 0 false (l.map enc)]∧HP H' (.arr a sz false (l.map enc)::items) :=
 ⟨_,_,rfl,rfl,(hH.push _).cons (.inr ⟨H.length,0,rfl,false,fun _=>rfl,by simp⟩) (fun id ⟨_,_,_,_,e⟩ j hj ho=>by
  cases e
  have:=(hH.lies j hj).lt _ ho
  omega)⟩
theorem Zmj {d sz:Nat} {xs:List IX} {ys:List AV} {rows:List (List PC)} {H H':List HO} {a:AV} (hs:s.H=H) (hy:xs.map (ev s.fr)=ys) (hr:Zfl sz ys=some rows) (ha:a = .osl sz H.length 0 0 rows.length) (hH:H'=H++[.arr sz 0 false rows]) :
  ZI P (.litSl d sz xs) s ⟨put s.fr d a,s.bx,H'⟩:=by
 subst hs hy ha hH
 simp only [ZI,Z5,hr,Option.map_some]
end
end Go.Eng

