/- Part of the proof; written by a program out of the texts in wip/. -/
import Derived.Test.YthipedbbcjemhaaGreatPlanCoversE29
set_option linter.unusedVariables false
set_option linter.unusedSimpArgs false
namespace Go.Eng
open Go Go.MapKept
theorem ZnL:∀ (us:List Value) (st:Nat) (cells:Array Value),(∀ u ∈ us,u.oneCell'=true)→st+us.length=cells.size →
  ∃ arr,Instr.fill (fun i=>some (i * 1,1)) cells ((List.range' st us.length).zip us)=some arr∧arr.toList=cells.toList.take st++us
 | [],st,cells,_,hs=>⟨cells,rfl,by simp only [List.length_nil,Nat.add_zero] at hs;rw [hs,← Array.length_toList,List.take_length,List.append_nil]⟩
 | u::us,st,cells,h1,hs=>by
  have hu:u.cells = #[u]:=by have:=h1 u (by simp);cases u<;>simp_all [Value.cells,Value.oneCell']
  simp only [List.length_cons] at hs
  have hlt:st<cells.size:=by omega
  obtain ⟨arr,a1,a2⟩:=ZnL us (st+1) (cells.setIfInBounds st u) (fun v hv=>h1 v (by simp [hv])) (by simp;omega)
  refine ⟨arr,?_,?_⟩
  ·simp only [List.length_cons,List.range'_succ,List.zip_cons_cons,Instr.fill,hu,Nat.mul_one]
   rw [if_neg (by simp;omega)]
   simpa using a1
  ·rw [a2,Array.toList_setIfInBounds,List.take_set,List.take_succ_eq_append_getElem (by simpa using hlt)]
   rw [List.set_append_right _ _ (by simp;omega)]
   simp [Nat.min_eq_left (Nat.le_of_lt hlt)]
section
variable {P:Program} {k:K0} {n:Nat} {g:G} {s:St} {a:Act} {w:World}
theorem ZqY (h:Rel k n g s a w) {t:TypeId} {len:Nat} {parts:Array (Nat × Operand)} {xs:List IX} (hl:Zog P t 1 len parts.toList=true) (hm:Z3 (parts.toList.map (·.2)) xs=true)
  (hok:ZO (xs.map (ev s.fr))=true) :
  ∃ vs e,(Instr.buildSlice t len (parts.map fun (i,x)=>(i,a.eval x))).run P w = .ok (.slice (some ⟨w.heap.size,0,none⟩) xs.length xs.length) (w.alloc (.cells vs e))∧VRL (cx k g s.H w) (xs.map (ev s.fr)) vs.toList:=by
 simp only [Zog,Bool.and_eq_true,decide_eq_true_eq] at hl
 obtain ⟨⟨hty,hix⟩,hsmall⟩:=hl
 have hv:=ZQ h hm
 have hplen:parts.toList.length=len:=by
  have:=congrArg List.length hix
  simpa using this
 have hxl:xs.length=len:=by
  have:=hv.length
  simp only [List.length_map] at this
  omega
 split at hty
 ·rename_i e ht
  simp only [Bool.and_eq_true] at hty
  obtain ⟨hsz,hty⟩:=hty
  split at hty
  ·rename_i i hi
   split at hty
   ·rename_i z hz
    simp only [decide_eq_true_eq] at hty
    have hzv:(zeroValue e).run P w = .ok z w:=by simp [zeroValue,typeInfo,hi,hz]
    generalize hus:(parts.toList.map (·.2)).map a.eval=us at hv
    have hul:us.length=len:=by rw [← hus];simpa using hplen
    generalize hcells:(Array.range (len * 1)).map ((if len * 1=0 then #[] else z.cells)[· % (if len * 1=0 then #[] else z.cells).size]!)=cells
    have hcsz:cells.size=len:=by rw [← hcells];simp
    obtain ⟨arr,a1,a2⟩:=ZnL us 0 cells (Zg4 hok hv) (by omega)
    simp only [List.take_zero,List.nil_append] at a2
    refine ⟨arr,e,?_,by rw [a2];exact hv⟩
    have elist:(parts.map fun (p:Nat × Operand)=>(p.1,a.eval p.2)).toList=(List.range' 0 us.length).zip us:=by
     have e1:List.range' 0 us.length=parts.toList.map (·.1):=by rw [hix,hul,List.range_eq_range']
     rw [e1,← hus,Array.toList_map,List.map_map,List.zip_map']
     rfl
    have hsz':=Zci (P:=P) (w:=w) hsz
    have hn:¬ (16777216<len * 1):=by omega
    unfold Instr.buildSlice
    by_cases h0:len * 1=0
    ·simp only [h0,if_true] at hcells
     simp only [Sem.run_bind,run_underlying ht,Result.andThen_ok,hsz',h0,if_true,Sem.run_pure,Nat.not_lt_zero,gt_iff_lt,if_false]
     rw [elist,hcells,a1]
     simp [newRow,hxl]
    ·simp only [h0,if_false] at hcells
     simp only [Sem.run_bind,run_underlying ht,Result.andThen_ok,hsz',h0,if_false,Sem.run_pure,gt_iff_lt,hzv,show (2 ^ 24:Nat)=16777216 from rfl,hn]
     rw [elist,hcells,a1]
     simp [newRow,hxl]
   ·cases hty
  ·cases hty
 ·cases hty
theorem ZqT {s s':St} {d:Option Nat} {xs:List IX} {ys:List AV} (hy:xs.map (ev s.fr)=ys) (hok:ZO ys=true) (hs:s'=⟨Eng.putO s.fr d (.csl s.H.length ys.length),s.bx,s.H++[.cells ys]⟩):ZI P (.sp d .litC xs) s s':=by
 refine ZpU rfl ?_ hs
 intro k n g t a w o d xs' hys hH h hc
 rw [hy] at hys
 rw [← hH]
 simp only [Zja,Bool.and_eq_true,decide_eq_true_eq] at hc
 obtain ⟨⟨hd,hdn⟩,hc⟩:=hc
 split at hc
 ·rename_i ty len parts hop
  simp only [Bool.and_eq_true] at hc
  obtain ⟨vs,e,hrun,hv⟩:=ZqY h hc.1 hc.2 (by rw [hys];exact hok)
  rw [hys] at hv
  have hxl:xs'.length=ys.length:=by rw [← hys];simp
  rw [hxl] at hrun
  have hl:=h.laterNewG (o:=.cells ys) (.cells vs e)
  have ho:HoR (cx k ⟨g.ρ++[w.heap.size],g.β⟩ (t.H++[.cells ys]) (w.alloc (.cells vs e))) w.heap.size (.cells ys) :=
   ⟨hok,vs,⟨e,World.alloc_heap_new w _⟩,VRL.later hl _ _ (ZH hok) hv⟩
  obtain ⟨h1,_⟩:=h.newObjG (o:=.cells ys) (.cells vs e) ho
  refine ⟨.slice (some ⟨w.heap.size,0,none⟩) ys.length ys.length,w.alloc (.cells vs e),⟨g.ρ++[w.heap.size],g.β⟩,.inl ?_,?_⟩
  ·simp only [execOp,hop,Sem.run_bind];rw [hrun];rfl
  rw [hd]
  refine h1.putO hdn ?_ rfl
  rw [VR]
  refine ⟨ys,w.heap.size,?_,?_,rfl⟩
  ·show (t.H++[_])[t.H.length]? = _;simp
  ·show (g.ρ++[_])[t.H.length]? = _;rw [← h.len];simp
 ·cases hc
theorem st_litC {d:Nat} {xs:List IX} {ys:List AV} {id:Nat} {H H':List HO} (hs:s.H=H) (hy:xs.map (ev s.fr)=ys) (hok:ZO ys=true) (hid:id=H.length) (hH:H'=H++[.cells ys]) :
  ZI P (.sp (some d) .litC xs) s ⟨put s.fr d (.csl id ys.length),s.bx,H'⟩:=by
 subst hs hid hH
 exact ZqT hy hok rfl
def ZnA {κ υ:Type} [DecidableEq κ] (l:List (κ × υ)) (x:κ):Option υ:=(l.find? (fun p=>decide (p.1=x))).map (·.2)
def ZfJ {κ υ:Type} [DecidableEq κ] (l:List (κ × υ)) (x:κ) (z:υ):υ:=(ZnA l x).getD z
def ZcT {κ υ:Type} [DecidableEq κ] (l:List (κ × υ)) (x:κ) (v:υ):List (κ × υ):=match l with
 | []=>[(x,v)]
 | p::r=>if p.1=x then (x,v)::r else p::ZcT r x v
def encE {κ υ:Type} (ke:κ→List Int) (ve:υ→AV) (l:List (κ × υ)):Ent:=l.map fun p=>(ke p.1,ve p.2)
class KeyE (κ:Type) (kn:Nat) (ke:κ→List Int):Prop where
 len:∀ x,(ke x).length=klen kn
 inj:∀ x y,ke x=ke y→x=y
def ke1 (x:Int):List Int:=[x]
instance:KeyE Int 0 ke1:=⟨fun _=>rfl,fun x y h=>by simpa [ke1] using h⟩
theorem Zqa {κ υ:Type} [DecidableEq κ] {kn:Nat} {ke:κ→List Int} (hk:KeyE κ kn ke) (ve:υ→AV) (l:List (κ × υ)) (x:κ):Zhz (encE ke ve l) (ke x)=(ZnA l x).map ve:=by
 induction l with
 | nil=>rfl
 | cons p r ih =>
  by_cases e:p.1=x
  ·simp [Zhz,ZnA,encE,e]
  ·have e2:¬ ke p.1=ke x:=fun h=>e (hk.inj _ _ h)
   simp only [Zhz,ZnA,encE,List.map_cons,List.find?_cons,e,e2,decide_false] at ih ⊢
   exact ih
theorem Zq6 {κ υ:Type} [DecidableEq κ] {kn:Nat} {ke:κ→List Int} (hk:KeyE κ kn ke) (ve:υ→AV) (l:List (κ × υ)) (x:κ) (v:υ):mset (encE ke ve l) (ke x) (ve v)=encE ke ve (ZcT l x v):=by
 induction l with
 | nil=>rfl
 | cons p r ih =>
  by_cases e:p.1=x
  ·simp [mset,ZcT,encE,e]
  ·have e2:¬ ke p.1=ke x:=fun h=>e (hk.inj _ _ h)
   simp only [encE] at ih
   simp only [mset,ZcT,encE,List.map_cons,e,e2,if_false,ih]
abbrev mpT (id kn:Nat) (es:Ent):Z8:=.lp id mapL [] (.mp kn es)
theorem st_mkMap' {d:Nat} (kn:Nat) {id:Nat} {H H':List HO} (hs:s.H=H) (hid:id=H.length) (hH:H'=H++[.lp mapL [] (.mp kn [])]) :
  ZI P (.sp (some d) .mkMap []) s ⟨put s.fr d (.map id),s.bx,H'⟩:=by
 subst hs hid hH
 exact ZqQ kn rfl
theorem st_mapG {κ υ:Type} [DecidableEq κ] {d:Nat} {xs:List IX} {id kn:Nat} {ke:κ→List Int} [hk:KeyE κ kn ke] {ve:υ→AV} {l:List (κ × υ)} {x:κ} {z:υ} {zero:AV} {H:List HO} {r:AV} (hs:s.H=H) (hy:xs.map (ev s.fr)=[.map id,keyA kn (ke x)])
  (hl:Lies H (mpT id kn (encE ke ve l))) (hz:zero=ve z) (hr:r=ve (ZfJ l x z)) (hno:∀ v,ZX (ve v)=true) :
  ZI P (.sp (some d) (.mapGet kn false zero) xs) s ⟨put s.fr d r,s.bx,s.H⟩:=by
 subst hs
 refine Zm8 hy hl (hk.len x) (by rw [mres,Zqa hk];simp only [Bool.false_eq_true,if_false];rw [hr,hz,ZfJ];cases ZnA l x<;>rfl) (by rw [hr];exact hno _) rfl
theorem st_mapS {κ υ:Type} [DecidableEq κ] {xs:List IX} {id kn:Nat} {ke:κ→List Int} [hk:KeyE κ kn ke] {ve:υ→AV} {l:List (κ × υ)} {x:κ} {v:υ} {y:AV} {H H':List HO} (hs:s.H=H) (hy:xs.map (ev s.fr)=[.map id,keyA kn (ke x),y])
  (hl:Lies H (mpT id kn (encE ke ve l))) (hv:y=ve v) (hok:ZcQ y=true) (hH:H'=H.set id (.lp mapL [] (.mp kn (encE ke ve (ZcT l x v))))) :
  ZI P (.sp none (.mapSet kn) xs) s ⟨s.fr,s.bx,H'⟩:=by
 subst hs hH
 refine Zm7 hy hl (hk.len x) hok (by rw [hv,Zq6 hk])
end
section
variable {H H0:List HO} {f0 items:List Z8}
theorem HP.newMp (hH:HP H items) (kn:Nat):∃ id H',id=H.length∧H'=H++[.lp mapL [] (.mp kn [])]∧HP H' (mpT id kn []::items) :=
 ⟨_,_,rfl,rfl,(hH.push _).cons (by simp [Lies]) (fun id e j hj ho=>by
  cases e
  have:=(hH.lies j hj).lt _ ho
  omega)⟩
theorem Fp.newMp (hF:Fp H0 H f0 items) (kn:Nat):∃ id H',id=H.length∧H'=H++[.lp mapL [] (.mp kn [])]∧Fp H0 H' f0 (mpT id kn []::items) :=
 ⟨_,_,rfl,rfl,hF.new (by simp [Lies]) (fun id e=>by cases e;rfl)⟩
theorem HP.setMp (hH:HP H items) {k id kn:Nat} {es:Ent} (hk:items[k]? = some (mpT id kn es)) (es':Ent) :
  ∃ H',H'=H.set id (.lp mapL [] (.mp kn es'))∧HP H' (items.set k (mpT id kn es')):=by
 have hid:H[id]? = some (.lp mapL [] (.mp kn es)):=hH.get k hk
 have hlt:=(List.getElem?_eq_some_iff.1 hid).1
 refine ⟨_,rfl,hH.replace hk (by simp [Lies,hlt]) (fun id' e=>.inl e) (fun id' hl ho => ?_)⟩
 rw [List.getElem?_set_ne]
 intro e;subst e;exact ho rfl
theorem Fp.setMp (hF:Fp H0 H f0 items) {k id kn:Nat} {es:Ent} (hk:items[k]? = some (mpT id kn es)) (es':Ent) :
  ∃ H',H'=H.set id (.lp mapL [] (.mp kn es'))∧Fp H0 H' f0 (items.set k (mpT id kn es')):=by
 have hid:H[id]? = some (.lp mapL [] (.mp kn es)):=hF.get k hk
 have hlt:=(List.getElem?_eq_some_iff.1 hid).1
 refine ⟨_,rfl,hF.step hk (by simp [Lies,hlt]) (fun id' e=>.inl e) (fun id' hl ho => ?_) (by simp)⟩
 rw [List.getElem?_set_ne]
 intro e;subst e;exact ho rfl
end
theorem Zrg {a:AV} {sz m:Nat} {H:List HO} {r:AV × List HO} (h:OwnF sz m a) (hv:frzV H a=some r):frz1 H a=some r:=by
 cases h<;>exact hv
def ZmE {α:Type} (sz:Nat) (enc:α→List PC) (l:List α):AV:=match l with
 | []=>.nl .nilSl
 | _::_=>.p (.sl sz false (l.map enc))
theorem Zpg {α:Type} {sz:Nat} {enc:α→List PC} {l:List α}:Zgm (ZmE sz enc l)=true:=by cases l<;>rfl
theorem Znx {α:Type} {sz:Nat} {enc:α→List PC} {l:List α} (h:l.isEmpty=true):ZmE sz enc l = .nl .nilSl:=by cases l<;>simp_all [ZmE]
theorem ZmD {α:Type} {sz:Nat} {enc:α→List PC} {l:List α} (h:l.isEmpty=false):ZmE sz enc l = .p (.sl sz false (l.map enc)):=by cases l<;>simp_all [ZmE]
theorem Zj2 {α:Type} {sz:Nat} {enc:α→List PC} {l:List α} {b neg:Bool} (h:l.isEmpty=false):Z7 (.isNil neg) [.p (.sl sz b (l.map enc))]=some (.p (.bool neg)):=by cases l<;>simp_all [Z7]
def neL {α:Type} (l:List α):Option Unit:=if l.isEmpty then none else some ()
theorem Zq4 {α:Type} {l:List α} {u:Unit} (h:neL l=some u):l.isEmpty=false:=by cases l<;>simp_all [neL]
end Go.Eng

