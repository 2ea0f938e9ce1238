/- Part of the proof; written by a program out of the texts in wip/. -/
import Derived.Test.YthipedbbcjemhaaGreatPlanCoversE8
set_option linter.unusedVariables false
set_option linter.unusedSimpArgs false
namespace Go.Eng
open Go
def Did (P:Program) (k:K0) (n:Nat) (s':St) (a:Act) (w:World) (o:Oper):Prop :=
 ∃ u w' g',((execOp a.eval o).run P w = .ok (.value u) w'∨((execOp a.eval o).run P w = .ok .skip w'∧u=undef))∧Rel k n g' s' (a.put o.dst u) w'
def chkM (P:Program) (n:Nat) (o:Oper):Ins→Bool
 | .load d x m isAgg=>decide (o.dst=some d)&&decide (d<n)&&(match o.op with
  | .load t X=>ZcA P t m&&ZmS P t isAgg&&Zdu X x
  | _=>false)
 | .loadL d x m isAgg=>decide (o.dst=some d)&&decide (d<n)&&(match o.op with
  | .load t X=>ZcA P t m&&ZmS P t isAgg&&Zdu X x
  | _=>false)
 | .store x y m=>decide (o.dst=none)&&(match o.op with
  | .store t X Y=>ZcA P t m&&Zdu X x&&Zdu Y y
  | _=>false)
 | .storeH x y m=>decide (o.dst=none)&&(match o.op with
  | .store t X Y=>ZcA P t m&&Zdu X x&&Zdu Y y
  | _=>false)
 | .newL d zero=>decide (o.dst=some d)&&decide (d<n)&&(match o.op with
  | .alloc t=>Zh6 P t zero
  | _=>false)
 | .boxL d x=>decide (o.dst=some d)&&decide (d<n)&&(match o.op with
  | .box _ X=>Zdu X x
  | _=>false)
 | .newH d zero=>decide (o.dst=some d)&&decide (d<n)&&(match o.op with
  | .alloc t=>Zh6 P t zero
  | _=>false)
 | .boxH d x=>decide (o.dst=some d)&&decide (d<n)&&(match o.op with
  | .box _ X=>Zdu X x
  | _=>false)
 | _=>false
section
variable {P:Program} {k:K0} {n:Nat} {g:G} {s:St} {a:Act} {w:World}
theorem Zkg {t:TypeId} {m:Nat} {isA:Bool} {A:Addr} {us:List Value} (h1:ZcA P t m=true) (h2:ZmS P t isA=true) (hl:us.length=m) (hone:isA=false→m=1)
  (hc:∀ j u,us[j]? = some u→w.cell? (A.add j)=some u):(loadVar t A).run P w = .ok (if isA then .agg us.toArray else us.getD 0 undef) w:=by
 unfold loadVar
 simp only [Sem.run_bind,Zne h2,Result.andThen_ok]
 cases isA with
 | true =>
  simp only [if_true,Sem.run_bind,Zci h1,Result.andThen_ok,Sem.run_pure]
  rw [← hl,run_loadCells_list w A us hc]
  rfl
 | false =>
  have hm:=hone rfl
  subst hm
  match us,hl with
  | [u],_ =>
   have:=hc 0 u rfl
   rw [add_zero] at this
   simp [this]
theorem ZnS {c:Cx} {b:Nat} {vs:Array Value} (h:c.blk b vs) {off m:Nat}:∀ (j:Nat) u,((vs.toList.drop off).take m)[j]? = some u→c.w.cell? ((⟨b,off,none⟩:Addr).add j)=some u:=by
 intro j u hj
 rw [List.getElem?_take] at hj
 split at hj
 ·rw [List.getElem?_drop] at hj
  rw [ZeM,Ziw h]
  simpa using hj
 ·cases hj
theorem Zlc {c:Cx}:∀ (ps:List PC) (us:List Value),us.length=ps.length→(∀ (j:Nat) x u,ps[j]? = some x→us[j]? = some u→PR c.ok c.w x u)→VRL c (ps.map .p) us:=by
 intro ps us hl h
 rw [Zd0]
 refine ⟨by simp [hl],fun j x u hj hu => ?_⟩
 rw [List.getElem?_map] at hj
 cases hp:ps[j]? with
 | none=>simp [hp] at hj
 | some p =>
  simp only [hp,Option.map_some,Option.some.injEq] at hj
  subst hj
  rw [VR]
  exact h j p u hp hu
theorem Zjr (ps:List PC):noLocL (ps.map .p)=true:=by
 rw [Zbb]
 intro x hx
 obtain ⟨p,_,rfl⟩:=List.mem_map.1 hx
 rfl
theorem Zmn {c:Cx} {Q:Nat→Value→Prop} {ps:List PC} (h:∀ (j:Nat) x,ps[j]? = some x→∃ u,Q j u∧PR c.ok c.w x u) :
  ∃ us:List Value,us.length=ps.length∧(∀ (j:Nat) u,us[j]? = some u→Q j u)∧∀ (j:Nat) x u,ps[j]? = some x→us[j]? = some u→PR c.ok c.w x u:=by
 induction ps generalizing Q with
 | nil=>exact ⟨[],rfl,by simp,by simp⟩
 | cons p ps ih =>
  obtain ⟨u0,hq,hp⟩:=h 0 p rfl
  obtain ⟨us,h1,h2,h3⟩:=ih (Q:=fun j=>Q (j+1)) (fun j x hj=>h (j+1) x (by simpa using hj))
  refine ⟨u0::us,by simp [h1],fun j u hj => ?_,fun j x u hj hu => ?_⟩
  ·cases j with
   | zero=>simp at hj;subst hj;exact hq
   | succ j=>exact h2 j u (by simpa using hj)
  ·cases j with
   | zero=>simp at hj hu;subst hj hu;exact hp
   | succ j=>exact h3 j x u (by simpa using hj) (by simpa using hu)
theorem ZoA (h:Rel k n g s a w) {m:Nat} {x:AV} {cs:List AV} {v:Value} (hr:rd s.bx s.H m x=some cs) (hv:VR (cx k g s.H w) x v) :
  ∃ A us,v = .pointer (some A)∧VRL (cx k g s.H w) cs us∧us.length=m∧noLocL cs=true∧∀ (j:Nat) u,us[j]? = some u→w.cell? (A.add j)=some u:=by
 unfold rd at hr
 split at hr
 ·rename_i t off
  cases hb:bget s.bx t with
  | none=>simp [hb] at hr
  | some bs =>
   simp only [hb,Option.bind_some] at hr
   obtain ⟨b,hβ,hok,vs,hblk,hvs⟩:=h.boxes t bs hb
   rw [VR] at hv
   obtain ⟨b',rfl,hb'⟩:=hv
   have:=hb' b hβ
   subst this
   obtain ⟨hle,rfl⟩:=Zf6 hr
   refine ⟨_,(vs.toList.drop off).take m,rfl,Zje hvs off m,?_,ZeZ (ZH hok) hr,ZnS hblk⟩
   simp [hvs.length] at hle ⊢
   have:=hvs.length
   simp at this
   omega
 ·rename_i id off
  split at hr
  ·rename_i bs hH
   obtain ⟨b,hρ,hok,vs,hblk,hvs⟩:=h.heap id _ hH
   rw [VR] at hv
   obtain ⟨cs',b',_,hb',rfl⟩:=hv
   have:b'=b:=by
    have:g.ρ[id]? = some b':=hb'
    rw [hρ] at this;cases this;rfl
   subst this
   obtain ⟨hle,rfl⟩:=Zf6 hr
   refine ⟨_,(vs.toList.drop off).take m,rfl,Zje hvs off m,?_,ZeZ (ZH hok) hr,ZnS hblk⟩
   have:=hvs.length
   simp at this
   simp;omega
  ·cases hr
 ·rename_i sz id ver i off
  split at hr
  ·rename_i sz' ver' frz rows hH
   split at hr
   ·rename_i hcond
    obtain ⟨rfl,rfl⟩:=hcond
    cases hi:rows[i]? with
    | none=>simp [hi] at hr
    | some r =>
     simp only [hi,Option.bind_some] at hr
     cases hs:sub off m r with
     | none=>simp [hs] at hr
     | some ps =>
      simp only [hs,Option.map_some,Option.some.injEq] at hr
      subst hr
      obtain ⟨b,hρ,vs,hblk,hsz,hrow⟩:=h.heap id _ hH
      rw [VR] at hv
      obtain ⟨ver0,frz',rows',b',hH',_,rfl,hcur⟩:=hv
      have e:some (HO.arr sz' ver' frz rows)=some (HO.arr sz' ver0 frz' rows'):=by
       have:s.H[id]? = some (HO.arr sz' ver0 frz' rows'):=hH'
       rw [hH] at this;exact this
      simp only [Option.some.injEq,HO.arr.injEq] at e
      have hb':g.ρ[id]? = some b':=hcur e.2.1
      rw [hρ] at hb'
      cases hb'
      obtain ⟨hle,rfl⟩:=Zf6 hs
      obtain ⟨us,u1,u2,u3⟩:=Zmn (c:=cx k g s.H w) (Q:=fun j u=>vs[i * sz'+(off+j)]? = some u) (ps:=(r.drop off).take m) (fun j x hj=>by
       rw [List.getElem?_take] at hj
       split at hj
       ·rw [List.getElem?_drop] at hj
        exact (hrow i r hi).2 (off+j) x hj
       ·cases hj)
      refine ⟨_,us,rfl,Zlc _ us u1 u3,?_,Zjr _,fun j u hj => ?_⟩
      ·simp at u1;omega
      ·have hcb:w.cell? ⟨b,i * sz'+off+j,none⟩=_:=Ziw hblk (i * sz'+off+j)
       rw [ZeM,hcb,Nat.add_assoc];exact u2 j u hj
   ·cases hr
  ·cases hr
 ·rename_i sz rows i off
  cases hi:rows[i]? with
  | none=>simp [hi] at hr
  | some r =>
   simp only [hi,Option.bind_some] at hr
   cases hs:sub off m r with
   | none=>simp [hs] at hr
   | some ps =>
    simp only [hs,Option.map_some,Option.some.injEq] at hr
    subst hr
    rw [VR] at hv
    obtain ⟨a0,rfl,hrows⟩:=hv
    obtain ⟨hle,rfl⟩:=Zf6 hs
    have hrow:=(Zgu _ _).1 ((ZeA _ _).1 hrows i r hi).2
    obtain ⟨us,u1,u2,u3⟩:=Zmn (c:=cx k g s.H w) (Q:=fun j u=>w.cell? (a0.add (i * sz+(off+j)))=some u) (ps:=(r.drop off).take m) (fun j x hj=>by
     rw [List.getElem?_take] at hj
     split at hj
     ·rw [List.getElem?_drop] at hj
      obtain ⟨u,hu1,_,hu2⟩:=hrow (off+j) x hj
      rw [ZdY] at hu1
      exact ⟨u,hu1,hu2⟩
     ·cases hj)
    refine ⟨_,us,rfl,Zlc _ us u1 u3,?_,Zjr _,fun j u hj => ?_⟩
    ·simp at u1;omega
    ·rw [ZdY,Nat.add_assoc];exact u2 j u hj
 ·cases hr
theorem Zhq (h:Rel k n g s a w) {o:Oper} {d:Nat} {x:IX} {m:Nat} {isA:Bool} (hc:chkM P n o (.load d x m isA)=true) {s':St} (hx:Z5 (.load d x m isA) s=some s'):Did P k n s' a w o:=by
 simp only [chkM,Bool.and_eq_true,decide_eq_true_eq] at hc
 obtain ⟨⟨hd,hn⟩,hc⟩:=hc
 split at hc
 ·rename_i t X hop
  simp only [Bool.and_eq_true] at hc
  obtain ⟨⟨hsz,hag⟩,hm⟩:=hc
  simp only [Z5] at hx
  cases hr:rd s.bx s.H m (ev s.fr x) with
  | none=>simp [hr] at hx
  | some cs =>
   simp only [hr,Option.bind_some] at hx
   split at hx
   rotate_left
   ·cases hx
   cases hmk:mk isA cs with
   | none=>simp [hmk] at hx
   | some r =>
    simp only [hmk,Option.map_some,Option.some.injEq] at hx
    subst hx
    obtain ⟨A,us,e,h1,h2,h3,h4⟩:=ZoA h hr (Zbx h hm)
    have hone:isA=false→m=1:=fun e=>by
     have:=ZoJ hmk e
     rw [← h2,h1.length];exact this
    have hrun:=Zkg (P:=P) (w:=w) hsz hag h2 hone h4
    refine ⟨_,w,g,.inl (by simp [execOp,hop,Instr.loadAt,e,Instr.sureAddr,hrun];rfl),?_⟩
    rw [hd]
    exact h.put hn (Zq7 hmk h1) (ZM (Ziq hmk h3))
 ·cases hc
theorem Zpp {d:Nat} {x:IX} {m:Nat} {isA:Bool} {s':St} (hx:Z5 (.loadL d x m isA) s=some s'):Z5 (.load d x m isA) s=some s':=by
 simp only [Z5] at hx ⊢
 split at hx
 ·rename_i t off e
  rw [e]
  exact hx
 ·cases hx
theorem Zoe (h:Rel k n g s a w) {o:Oper} {d:Nat} {x:IX} {m:Nat} {isA:Bool} (hc:chkM P n o (.loadL d x m isA)=true) {s':St} (hx:Z5 (.loadL d x m isA) s=some s'):Did P k n s' a w o :=
 Zhq h hc (Zpp hx)
theorem Zhi {t:TypeId} {v:Value}:(newVar t v).run P w = .ok ⟨w.heap.size,0,none⟩ (w.alloc (.cells v.cells t)):=by
 simp [newVar,newRow]
theorem Zph (h:Rel k n g s a w) {o:Oper} {d:Nat} {zero:List AV} (hc:chkM P n o (.newL d zero)=true) {s':St} (hx:Z5 (.newL d zero) s=some s'):Did P k n s' a w o:=by
 simp only [chkM,Bool.and_eq_true,decide_eq_true_eq] at hc
 obtain ⟨⟨hd,hn⟩,hc⟩:=hc
 split at hc
 ·rename_i t hop
  simp only [Z5,Option.some.injEq] at hx
  subst hx
  obtain ⟨v,hv1,hv2,hv3⟩:=ZiA hc (cx k g s.H w) w
  obtain ⟨g',hg'⟩:=h.newBox hn hv3 hv2 t
  refine ⟨.pointer (some ⟨w.heap.size,0,none⟩),w.alloc (.cells v.cells t),g',.inl ?_,by rw [hd];exact hg'⟩
  simp [execOp,hop,Instr.alloc,hv1,Zhi]
 ·cases hc
theorem ZpC (h:Rel k n g s a w) {o:Oper} {d:Nat} {x:IX} (hc:chkM P n o (.boxL d x)=true) {s':St} (hx:Z5 (.boxL d x) s=some s'):Did P k n s' a w o:=by
 simp only [chkM,Bool.and_eq_true,decide_eq_true_eq] at hc
 obtain ⟨⟨hd,hn⟩,hc⟩:=hc
 split at hc
 ·rename_i t X hop
  simp only [Z5] at hx
  split at hx
  ·rename_i hok
   simp only [Option.some.injEq] at hx
   subst hx
   obtain ⟨g',hg'⟩:=h.newBox hn hok (Zfd hok (Zbx h hc)) t
   refine ⟨.pointer (some ⟨w.heap.size,0,none⟩),w.alloc (.cells (a.eval X).cells t),g',.inl ?_,by rw [hd];exact hg'⟩
   simp [execOp,hop,Instr.box,Zhi]
  ·cases hx
 ·cases hc
theorem Rel.newCells (h:Rel k n g s a w) {d:Nat} (hn:d<n) {cs:List AV} {vs:Array Value} (hok:ZO cs=true) (hv:VRL (cx k g s.H w) cs vs.toList) (e:TypeId) :
  ∃ g',Rel k n g' ⟨Eng.put s.fr d (.ptr s.H.length 0),s.bx,s.H++[.cells cs]⟩ (a.put (some d) (.pointer (some ⟨w.heap.size,0,none⟩))) (w.alloc (.cells vs e)):=by
 have hg:=Grow.alloc w (.cells vs e)
 refine ⟨⟨g.ρ++[w.heap.size],g.β⟩,?_⟩
 have hnew:∀ hl:Zam (cx k g s.H w) (cx k ⟨g.ρ++[w.heap.size],g.β⟩ (s.H++[.cells cs]) (w.alloc (.cells vs e))),HoR (cx k ⟨g.ρ++[w.heap.size],g.β⟩ (s.H++[.cells cs]) (w.alloc (.cells vs e))) w.heap.size (.cells cs) :=
  fun hl=>⟨hok,vs,⟨e,heap_alloc_new w _⟩,VRL.later hl cs _ (ZH hok) hv⟩
 have hl:=h.laterNew (o:=.cells cs) (vs:=vs) e
 obtain ⟨h1,_⟩:=h.newObj e (hnew hl)
 refine h1.put hn ?_ rfl
 rw [VR]
 refine ⟨cs,w.heap.size,?_,?_,rfl⟩
 ·show (s.H++[.cells cs])[s.H.length]? = _
  simp
 ·show (g.ρ++[w.heap.size])[s.H.length]? = _
  rw [← h.len];simp
theorem Zpj (h:Rel k n g s a w) {o:Oper} {d:Nat} {zero:List AV} (hc:chkM P n o (.newH d zero)=true) {s':St} (hx:Z5 (.newH d zero) s=some s'):Did P k n s' a w o:=by
 simp only [chkM,Bool.and_eq_true,decide_eq_true_eq] at hc
 obtain ⟨⟨hd,hn⟩,hc⟩:=hc
 split at hc
 ·rename_i t hop
  simp only [Z5,Option.some.injEq] at hx
  subst hx
  obtain ⟨v,hv1,hv2,hv3⟩:=ZiA hc (cx k g s.H w) w
  obtain ⟨g',hg'⟩:=h.newCells hn hv3 hv2 t
  refine ⟨.pointer (some ⟨w.heap.size,0,none⟩),w.alloc (.cells v.cells t),g',.inl ?_,by rw [hd];exact hg'⟩
  simp [execOp,hop,Instr.alloc,hv1,Zhi]
 ·cases hc
theorem ZpD (h:Rel k n g s a w) {o:Oper} {d:Nat} {x:IX} (hc:chkM P n o (.boxH d x)=true) {s':St} (hx:Z5 (.boxH d x) s=some s'):Did P k n s' a w o:=by
 simp only [chkM,Bool.and_eq_true,decide_eq_true_eq] at hc
 obtain ⟨⟨hd,hn⟩,hc⟩:=hc
 split at hc
 ·rename_i t X hop
  simp only [Z5] at hx
  split at hx
  ·rename_i hok
   simp only [Option.some.injEq] at hx
   subst hx
   obtain ⟨g',hg'⟩:=h.newCells hn hok (Zfd hok (Zbx h hc)) t
   refine ⟨.pointer (some ⟨w.heap.size,0,none⟩),w.alloc (.cells (a.eval X).cells t),g',.inl ?_,by rw [hd];exact hg'⟩
   simp [execOp,hop,Instr.box,Zhi]
  ·cases hx
 ·cases hc
theorem Zm1 {cs:List AV} {ps:List PC} (h:unP cs=some ps):cs.length=ps.length∧ZO cs=true∧∀ (c:Cx) (us:List Value),VRL c cs us→VRL c (ps.map .p) us:=by
 induction cs generalizing ps with
 | nil=>simp only [unP,Option.some.injEq] at h;subst h;exact ⟨rfl,rfl,fun _ _ h=>h⟩
 | cons c cs ih =>
  cases c with
  | p x =>
   simp only [unP] at h
   cases hu:unP cs with
   | none=>simp [hu] at h
   | some r =>
    simp only [hu,Option.map_some,Option.some.injEq] at h
    subst h
    obtain ⟨h1,h2,h3⟩:=ih hu
    refine ⟨by simp [h1],by simp [ZO,ZcQ,h2],fun c us hv => ?_⟩
    rw [VRL] at hv
    obtain ⟨u,us,rfl,v1,v2⟩:=hv
    rw [List.map_cons,VRL]
    exact ⟨u,us,rfl,by rw [VR] at v1 ⊢;exact v1.weak,h3 c us v2⟩
  | _=>simp [unP] at h
theorem ZfR {α:Type} {off:Nat} {cs l l':List α} (h:Zbr off cs l=some l'):off+cs.length≤l.length∧l'=l.take off++cs++l.drop (off+cs.length):=by
 unfold Zbr at h
 split at h
 ·simp only [Option.some.injEq] at h;exact ⟨by assumption,h.symm⟩
 ·cases h
theorem Zeh {α:Type} {off:Nat} {cs l l':List α} (h:Zbr off cs l=some l') (j:Nat):l'[j]? = if j<off then l[j]? else if j<off+cs.length then cs[j - off]? else l[j]?:=by
 obtain ⟨hle,rfl⟩:=ZfR h
 have e1:(l.take off).length=off:=by simp;omega
 split
 ·rename_i hj
  rw [List.append_assoc,List.getElem?_append_left (by omega),List.getElem?_take_of_lt hj]
 ·rename_i hj
  rw [List.append_assoc,List.getElem?_append_right (by omega),e1]
  split
  ·rw [List.getElem?_append_left (by omega)]
  ·rw [List.getElem?_append_right (by omega),List.getElem?_drop]
   congr 1;omega
theorem Zkb (h:Rel k n g s a w) {o:Oper} {x y:IX} {m:Nat} (hc:chkM P n o (.store x y m)=true) {s':St} (hx:Z5 (.store x y m) s=some s'):Did P k n s' a w o:=by
 simp only [chkM,Bool.and_eq_true,decide_eq_true_eq] at hc
 obtain ⟨hd,hc⟩:=hc
 split at hc
 ·rename_i t X Y hop
  simp only [Bool.and_eq_true] at hc
  obtain ⟨⟨hsz,hmx⟩,hmy⟩:=hc
  have hvx:=Zbx h hmx
  have hvy:=Zbx h hmy
  simp only [Z5] at hx
  split at hx
  ·rename_i hcond
   obtain ⟨hlen,hok⟩:=hcond
   have hcells:=Zfd hok hvy
   have hone:=Zg4 hok hcells
   have hclen:=hcells.length
   generalize hcs:cellsOf (ev s.fr y)=cs at *
   generalize hus:(a.eval Y).cells.toList=us at *
   have hsize:(a.eval Y).cells.size=m:=by
    have:(a.eval Y).cells.toList.length=m:=by rw [hus,hclen,hlen]
    simpa using this
   have hrun:∀ A w',a.eval X = .pointer (some A)→(storeCells A us).run P w = .ok () w'→(execOp a.eval o).run P w = .ok .skip w':=by
    intro A w' e hst
    simp [execOp,hop,Instr.storeAt,e,Instr.sureAddr,storeVar,Zci hsz,hsize,hus,hst]
   unfold wrt at hx
   split at hx
   ·rename_i t' off hev
    rw [hev,VR] at hvx
    obtain ⟨b',eX,hb'⟩:=hvx
    cases hb:bget s.bx t' with
    | none=>simp [hb] at hx
    | some bs =>
     simp only [hb,Option.bind_some] at hx
     cases hsp:Zbr off cs bs with
     | none=>simp [hsp] at hx
     | some bs' =>
      simp only [hsp,Option.map_some,Option.some.injEq] at hx
      subst hx
      obtain ⟨b,hβ,hokb,vs,hblk,hvs⟩:=h.boxes t' bs hb
      have:=hb' b hβ
      subst this
      obtain ⟨e,hblk'⟩:=id hblk
      have hvl:=hvs.length
      simp only [Array.length_toList] at hvl
      have hsl:=(ZfR hsp).1
      have hst:=run_storeCells_at P b' off e us 0 vs w hblk' (by omega) hone
      simp only [Nat.add_zero] at hst
      refine ⟨undef,_,g,.inr ⟨hrun _ _ eX hst,rfl⟩,?_⟩
      rw [hd]
      refine h.setBox hβ hblk ?_ (Upd.setRow (c:=cx k g s.H w) hblk _) (Zdt hsp hok hokb) ?_
      ·simp;omega
      ·simpa using Zjf hsp hcells hvs
   ·rename_i id' off hev
    rw [hev,VR] at hvx
    obtain ⟨cs0,b',_,hb',eX⟩:=hvx
    split at hx
    ·rename_i bs hH
     cases hsp:Zbr off cs bs with
     | none=>simp [hsp] at hx
     | some bs' =>
      simp only [hsp,Option.map_some,Option.some.injEq] at hx
      subst hx
      obtain ⟨b,hρ,hokb,vs,hblk,hvs⟩:=h.heap id' _ hH
      have:b'=b:=by
       have:g.ρ[id']? = some b':=hb'
       rw [hρ] at this;cases this;rfl
      subst this
      obtain ⟨e,hblk'⟩:=id hblk
      have hvl:=hvs.length
      simp only [Array.length_toList] at hvl
      have hsl:=(ZfR hsp).1
      have hst:=run_storeCells_at P b' off e us 0 vs w hblk' (by omega) hone
      simp only [Nat.add_zero] at hst
      refine ⟨undef,_,g,.inr ⟨hrun _ _ eX hst,rfl⟩,?_⟩
      rw [hd]
      refine h.setObj hρ hH (.inl ⟨bs,bs',rfl,rfl⟩) hblk ?_ (Upd.setRow (c:=cx k g s.H w) hblk _) (fun hl => ?_)
      ·simp;omega
      ·refine ⟨Zdt hsp hok hokb,_,(Upd.setRow (c:=cx k g s.H w) hblk _).here,?_⟩
       have:=Zjf hsp hcells hvs
       exact VRL.later hl bs' _ (ZH (Zdt hsp hok hokb)) (by simpa using this)
    ·cases hx
   ·rename_i sz id' ver i off hev
    rw [hev,VR] at hvx
    obtain ⟨ver0,frz0,rows0,b',hH0,_,eX,hcur⟩:=hvx
    split at hx
    ·rename_i sz' ver' rows hH
     split at hx
     ·rename_i hcond
      obtain ⟨rfl,rfl⟩:=hcond
      cases hi:rows[i]? with
      | none=>simp [hi] at hx
      | some r =>
       simp only [hi,Option.bind_some] at hx
       cases hup:unP cs with
       | none=>simp [hup] at hx
       | some ps =>
        simp only [hup,Option.bind_some] at hx
        cases hsp:Zbr off ps r with
        | none=>simp [hsp] at hx
        | some r' =>
         simp only [hsp,Option.map_some,Option.some.injEq] at hx
         subst hx
         obtain ⟨ecl,_,ecs⟩:=Zm1 hup
         have e0:s.H[id']? = some (HO.arr sz' ver0 frz0 rows0):=hH0
         rw [hH] at e0
         simp only [Option.some.injEq,HO.arr.injEq] at e0
         have hρ:g.ρ[id']? = some b':=hcur e0.2.1
         obtain ⟨b,hρ',vs,hblk,hszv,hrow⟩:=h.heap id' _ hH
         rw [hρ] at hρ'
         cases hρ'
         obtain ⟨e,hblk'⟩:=id hblk
         have hrl:=(hrow i r hi).1
         have hsl:=(ZfR hsp).1
         have hil:i<rows.length:=(List.getElem?_eq_some_iff.1 hi).1
         have hpl:ps.length=us.length:=by rw [hclen];exact ecl.symm
         have hfit:i * sz'+off+us.length≤vs.size:=by
          have h1:(i+1) * sz'≤rows.length * sz':=Nat.mul_le_mul_right _ hil
          rw [Nat.add_mul] at h1
          omega
         have hst:=run_storeCells_at P b' (i * sz'+off) e us 0 vs w hblk' (by omega) hone
         simp only [Nat.add_zero] at hst
         refine ⟨undef,_,g,.inr ⟨hrun _ _ eX hst,rfl⟩,?_⟩
         rw [hd]
         refine h.setObj hρ hH (.inr ⟨sz',ver',rows,rows.set i r',rfl,rfl,by simp⟩) hblk ?_ (Upd.setRow (c:=cx k g s.H w) hblk _) (fun hl => ?_)
         ·simp;omega
         ·have hcells':VRL (cx k g s.H w) (ps.map .p) us:=ecs _ _ hcells
          rw [Zd0] at hcells'
          refine ⟨_,(Upd.setRow (c:=cx k g s.H w) hblk _).here,?_,fun q r1 hq => ?_⟩
          ·simp;omega
          ·have hnew:∀ (j:Nat),(vs.toList.take (i * sz'+off)++us++vs.toList.drop (i * sz'+off+us.length)).toArray[j]? = if j<i * sz'+off then vs[j]? else if j<i * sz'+off+us.length then us[j - (i * sz'+off)]? else vs[j]?:=by
            intro j
            have hs2:Zbr (i * sz'+off) us vs.toList=some (vs.toList.take (i * sz'+off)++us++vs.toList.drop (i * sz'+off+us.length)):=by
             unfold Zbr;rw [if_pos (by simpa using hfit)]
            have:=Zeh hs2 j
            simpa using this
           rw [List.getElem?_set] at hq
           by_cases hqi:i=q
           ·subst hqi
            simp only [hil,if_true,Option.some.injEq] at hq
            subst hq
            refine ⟨?_,fun j x hj => ?_⟩
            ·rw [(ZfR hsp).2];simp;omega
            ·rw [Zeh hsp] at hj
             split at hj
             ·obtain ⟨u,hu1,hu2⟩:=(hrow i r hi).2 j x hj
              exact ⟨u,by rw [hnew,if_pos (by omega)];exact hu1,PR.mono hl.stay x u hu2⟩
             ·split at hj
              ·have hju:us[j - off]? = some (us[j - off]'(by omega)):=List.getElem?_eq_getElem (by omega)
               refine ⟨us[j - off]'(by omega),?_,?_⟩
               ·rw [hnew,if_neg (by omega),if_pos (by omega),show i * sz'+j - (i * sz'+off)=j - off by omega];exact hju
               ·have:=hcells'.2 (j - off) (.p x) _ (by simp [hj]) hju
                rw [VR] at this
                exact PR.mono hl.stay x _ this
              ·obtain ⟨u,hu1,hu2⟩:=(hrow i r hi).2 j x hj
               exact ⟨u,by rw [hnew,if_neg (by omega),if_neg (by omega)];exact hu1,PR.mono hl.stay x u hu2⟩
           ·rw [if_neg hqi] at hq
            refine ⟨(hrow q r1 hq).1,fun j x hj => ?_⟩
            obtain ⟨u,hu1,hu2⟩:=(hrow q r1 hq).2 j x hj
            refine ⟨u,?_,PR.mono hl.stay x u hu2⟩
            have hjl:j<sz':=by rw [← (hrow q r1 hq).1];exact (List.getElem?_eq_some_iff.1 hj).1
            rw [hnew]
            rcases Nat.lt_or_gt_of_ne hqi with hlt | hgt
            ·have h1:(i+1) * sz'≤q * sz':=Nat.mul_le_mul_right _ hlt
             rw [Nat.add_mul] at h1
             rw [if_neg (by omega),if_neg (by omega)];exact hu1
            ·have h1:(q+1) * sz'≤i * sz':=Nat.mul_le_mul_right _ hgt
             rw [Nat.add_mul] at h1
             rw [if_pos (by omega)];exact hu1
     ·cases hx
    ·cases hx
   ·cases hx
  ·cases hx
 ·cases hc
end
end Go.Eng

