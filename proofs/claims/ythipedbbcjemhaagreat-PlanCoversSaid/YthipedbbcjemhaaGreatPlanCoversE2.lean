/- Part of the proof; written by a program out of the texts in wip/. -/
import Derived.Test.YthipedbbcjemhaaGreatPlanCoversE1
import Derived.Orders
import Derived.Laws.Cells
import Derived.Laws.CopyRow
import Derived.Below
set_option linter.unusedVariables false
set_option linter.unusedSimpArgs false
namespace Go.Eng
open Go
mutual
def PR (ok:Addr→Prop) (w:World):PC→Value→Prop
 | .int k n,v=>v = .int k n
 | .bool b,v=>v = .bool b
 | .sl sz full rows,v=>∃ A cap,v = .slice A rows.length cap∧rows.length≤cap∧(full=true→cap=rows.length)∧(rows ≠ []→∃ a,A=some a∧ZhA ok w sz rows a)
def ZhA (ok:Addr→Prop) (w:World) (sz:Nat):List (List PC)→Addr→Prop
 | [],_=>True
 | r::rs,a=>r.length=sz∧RowR ok w r a∧ZhA ok w sz rs (a.add sz)
def RowR (ok:Addr→Prop) (w:World):List PC→Addr→Prop
 | [],_=>True
 | x::xs,a=>(∃ u,w.cell? a=some u∧ok a∧PR ok w x u)∧RowR ok w xs (a.add 1)
end
theorem ZdY (a:Addr) (i j:Nat):(a.add i).add j=a.add (i+j):=by
 unfold Addr.add
 by_cases hi:i=0<;>by_cases hj:j=0<;>simp [hi,hj,Nat.add_assoc]
theorem add_zero (a:Addr):a.add 0=a:=rfl
theorem ZeM (b o n:Nat):(⟨b,o,none⟩:Addr).add n=⟨b,o+n,none⟩:=by
 unfold Addr.add;split<;>simp_all
theorem Zgu {ok:Addr→Prop} {w:World}:∀ (xs:List PC) (a:Addr),
  RowR ok w xs a↔∀ j x,xs[j]? = some x→∃ u,w.cell? (a.add j)=some u∧ok (a.add j)∧PR ok w x u
 | [],a=>by simp [RowR]
 | x::xs,a=>by
  rw [RowR,Zgu xs (a.add 1)]
  constructor
  ·rintro ⟨h0,h1⟩ j y hj
   cases j with
   | zero=>simp at hj;subst hj;exact h0
   | succ j =>
    have:=h1 j y (by simpa using hj)
    rwa [ZdY,Nat.add_comm] at this
  ·intro h
   refine ⟨h 0 x rfl,fun j y hj => ?_⟩
   have:=h (j+1) y (by simpa using hj)
   rwa [ZdY,Nat.add_comm]
theorem ZeA {ok:Addr→Prop} {w:World} {sz:Nat}:∀ (rows:List (List PC)) (a:Addr),
  ZhA ok w sz rows a↔∀ i r,rows[i]? = some r→r.length=sz∧RowR ok w r (a.add (i * sz))
 | [],a=>by simp [ZhA]
 | r::rs,a=>by
  rw [ZhA,ZeA rs (a.add sz)]
  constructor
  ·rintro ⟨h0,h0',h1⟩ i y hi
   cases i with
   | zero=>simp at hi;subst hi;simp only [Nat.zero_mul,add_zero];exact ⟨h0,h0'⟩
   | succ i =>
    have:=h1 i y (by simpa using hi)
    rw [ZdY] at this
    rwa [show (i+1) * sz=sz+i * sz by rw [Nat.add_mul];omega]
  ·intro h
   have h0:=h 0 r rfl
   simp only [Nat.zero_mul,add_zero] at h0
   refine ⟨h0.1,h0.2,fun i y hi => ?_⟩
   have:=h (i+1) y (by simpa using hi)
   rw [ZdY]
   rwa [show (i+1) * sz=sz+i * sz by rw [Nat.add_mul];omega] at this
def Stay (ok ok':Addr→Prop) (w w':World):Prop:=∀ a u,ok a→w.cell? a=some u→w'.cell? a=some u∧ok' a
mutual
theorem PR.mono {ok ok':Addr→Prop} {w w':World} (h:Stay ok ok' w w'):∀ (x:PC) (v:Value),PR ok w x v→PR ok' w' x v
 | .int k n,v,hv=>by simpa [PR] using hv
 | .bool b,v,hv=>by simpa [PR] using hv
 | .sl sz full rows,v,hv=>by
  rw [PR] at hv ⊢
  obtain ⟨A,cap,h1,h2,h3,h4⟩:=hv
  exact ⟨A,cap,h1,h2,h3,fun hn=>let ⟨a,ha,hr⟩:=h4 hn; ⟨a,ha,ZhA.mono h sz rows a hr⟩⟩
theorem ZhA.mono {ok ok':Addr→Prop} {w w':World} (h:Stay ok ok' w w') (sz:Nat):∀ (rows:List (List PC)) (a:Addr),ZhA ok w sz rows a→ZhA ok' w' sz rows a
 | [],a,_=>by rw [ZhA];trivial
 | r::rs,a,hr=>by
  rw [ZhA] at hr ⊢
  exact ⟨hr.1,RowR.mono h r a hr.2.1,ZhA.mono h sz rs _ hr.2.2⟩
theorem RowR.mono {ok ok':Addr→Prop} {w w':World} (h:Stay ok ok' w w'):∀ (xs:List PC) (a:Addr),RowR ok w xs a→RowR ok' w' xs a
 | [],a,_=>by rw [RowR];trivial
 | x::xs,a,hr=>by
  rw [RowR] at hr ⊢
  obtain ⟨⟨u,hu,ho,hp⟩,hr⟩:=hr
  have:=h a u ho hu
  exact ⟨⟨u,this.1,this.2,PR.mono h x u hp⟩,RowR.mono h xs _ hr⟩
end
structure Cx where
 ok:Addr→Prop
 w:World
 H:List HO
 ρ:List Nat
 β:Nat→Option Nat
def Cx.blk (c:Cx) (b:Nat) (vs:Array Value):Prop:=∃ e,c.w.heap[b]? = some (.cells vs e (0,0))
def OslR (c:Cx) (sz id ver off len:Nat) (v:Value):Prop :=
 ∃ ver0 frz rows b cap,c.H[id]? = some (.arr sz ver0 frz rows)∧ver≤ver0∧v = .slice (some ⟨b,off * sz,none⟩) len cap∧len≤cap∧(ver=ver0 →
  ∃ vs,c.ρ[id]? = some b∧off+len≤rows.length∧c.blk b vs∧(off+cap) * sz≤vs.size)
def Zrr (c:Cx) (sz id ver i off:Nat) (v:Value):Prop :=
 ∃ ver0 frz rows b,c.H[id]? = some (.arr sz ver0 frz rows)∧ver≤ver0∧v = .pointer (some ⟨b,i * sz+off,none⟩)∧(ver=ver0→c.ρ[id]? = some b)
def PptR (c:Cx) (sz:Nat) (rows:List (List PC)) (i off:Nat) (v:Value):Prop :=
 ∃ a,v = .pointer (some (a.add (i * sz+off)))∧ZhA c.ok c.w sz rows a
def YlR (c:Cx) (id:Nat) (v:Value):Prop :=
 ∃ L fr st b,c.H[id]? = some (.lp L fr st)∧c.ρ[id]? = some b∧v = .func (.yield b) #[] #[]
def mapV (L:LC) (b:Nat):Value:=if L.n=0 then .map (some b) else .pointer (some ⟨b,0,none⟩)
def MapR (c:Cx) (id:Nat) (v:Value):Prop :=
 ∃ L fr st b,c.H[id]? = some (.lp L fr st)∧L.mpk=true∧c.ρ[id]? = some b∧v=mapV L b
def CslR (c:Cx) (id n:Nat) (v:Value):Prop :=
 ∃ cs b,c.H[id]? = some (.cells cs)∧c.ρ[id]? = some b∧v = .slice (some ⟨b,0,none⟩) n n
def PtrR (c:Cx) (id off:Nat) (v:Value):Prop :=
 ∃ cs b,c.H[id]? = some (.cells cs)∧c.ρ[id]? = some b∧v = .pointer (some ⟨b,off,none⟩)
def LocR (c:Cx) (t off:Nat) (v:Value):Prop:=∃ b,v = .pointer (some ⟨b,off,none⟩)∧∀ b',c.β t=some b'→b=b'
mutual
def VR (c:Cx):AV→Value→Prop
 | .any,_=>True
 | .p x,v=>PR c.ok c.w x v
 | .nl x,v=>v=x.val
 | .agg cs,v=>∃ vs:List Value,v = .agg vs.toArray∧VRL c cs vs
 | .tup cs,v=>∃ vs:List Value,v = .tuple vs.toArray∧VRL c cs vs
 | .osl sz id ver off len,v=>OslR c sz id ver off len v
 | .optr sz id ver i off,v=>Zrr c sz id ver i off v
 | .ppt sz rows i off,v=>PptR c sz rows i off v
 | .ptr id off,v=>PtrR c id off v
 | .loc t off,v=>LocR c t off v
 | .fn f a b,v=>∃ xs ys:List Value,v = .func (.func f) xs.toArray ys.toArray∧VRL c a xs∧VRL c b ys
 | .map id,v=>MapR c id v
 | .yl id,v=>YlR c id v
 | .csl id n,v=>CslR c id n v
def VRL (c:Cx):List AV→List Value→Prop
 | [],vs=>vs=[]
 | x::xs,vs=>∃ u us,vs=u::us∧VR c x u∧VRL c xs us
end
theorem VRL.length {c:Cx}:∀ {cs:List AV} {vs:List Value},VRL c cs vs→vs.length=cs.length
 | [],vs,h=>by rw [VRL] at h;subst h;rfl
 | x::xs,vs,h=>by
  rw [VRL] at h
  obtain ⟨u,us,rfl,_,h⟩:=h
  simp [VRL.length h]
theorem Zd0 {c:Cx}:∀ {cs:List AV} {vs:List Value},
  VRL c cs vs↔vs.length=cs.length∧∀ (j:Nat) (x:AV) (u:Value),cs[j]? = some x→vs[j]? = some u→VR c x u
 | [],vs=>by
  rw [VRL]
  constructor
  ·rintro rfl;simp
  ·rintro ⟨h,_⟩;exact List.eq_nil_of_length_eq_zero (by simpa using h)
 | x::xs,vs=>by
  rw [VRL]
  constructor
  ·rintro ⟨u,us,rfl,hu,h⟩
   obtain ⟨hl,hh⟩:=Zd0.1 h
   refine ⟨by simp [hl],fun j y u' hj hu' => ?_⟩
   cases j with
   | zero=>simp at hj hu';subst hj hu';exact hu
   | succ j=>exact hh j y u' (by simpa using hj) (by simpa using hu')
  ·rintro ⟨hl,hh⟩
   cases vs with
   | nil=>simp at hl
   | cons u us=>exact ⟨u,us,rfl,hh 0 x u rfl rfl,Zd0.2 ⟨by simpa using hl,fun j y u' hj hu'=>hh (j+1) y u' (by simpa using hj) (by simpa using hu')⟩⟩
theorem PR.weak {ok:Addr→Prop} {w:World} {x:PC} {v:Value} (h:PR ok w x v):PR ok w (weakP x) v:=by
 cases x with
 | sl sz full rows =>
  simp only [weakP]
  rw [PR] at h ⊢
  obtain ⟨A,cap,h1,h2,_,h4⟩:=h
  exact ⟨A,cap,h1,h2,by simp,h4⟩
 | _=>exact h
theorem VR.weak1 {c:Cx} {x:AV} {v:Value} (h:VR c x v):VR c (weak1 x) v:=by
 cases x with
 | p x=>simp only [Eng.weak1];rw [VR] at h ⊢;exact h.weak
 | _=>exact h
theorem VRL.weakL {c:Cx}:∀ {xs:List AV} {vs:List Value},VRL c xs vs→VRL c (weakL xs) vs
 | [],vs,h=>h
 | x::xs,vs,h=>by
  rw [VRL] at h
  obtain ⟨u,us,rfl,h1,h2⟩:=h
  simp only [Eng.weakL]
  rw [VRL]
  exact ⟨u,us,rfl,h1.weak1,h2.weakL⟩
theorem VR.weakV {c:Cx} {x:AV} {v:Value} (h:VR c x v):VR c (weakV x) v:=by
 unfold Eng.weakV
 split
 ·rw [VR] at h ⊢
  obtain ⟨vs,e,h⟩:=h
  exact ⟨vs,e,h.weakL⟩
 ·exact h.weak1
theorem VRL.weakVs {c:Cx}:∀ {xs:List AV} {vs:List Value},VRL c xs vs→VRL c (weakVs xs) vs
 | [],vs,h=>h
 | x::xs,vs,h=>by
  rw [VRL] at h
  obtain ⟨u,us,rfl,h1,h2⟩:=h
  simp only [Eng.weakVs]
  rw [VRL]
  exact ⟨u,us,rfl,h1.weakV,h2.weakVs⟩
structure Zam (c c':Cx):Prop where
 stay:Stay c.ok c'.ok c.w c'.w
 arr:∀ (id sz ver:Nat) frz rows,c.H[id]? = some (.arr sz ver frz rows)→∃ ver' frz' rows',c'.H[id]? = some (.arr sz ver' frz' rows')∧ver≤ver' ∧
  (ver'=ver→rows.length≤rows'.length∧c'.ρ[id]? = c.ρ[id]? ∧ ∀ b vs,c.ρ[id]? = some b→c.blk b vs→∃ vs',c'.blk b vs'∧vs'.size=vs.size)
 cells:∀ (id:Nat) cs,c.H[id]? = some (.cells cs)→(∃ cs',c'.H[id]? = some (.cells cs'))∧c'.ρ[id]? = c.ρ[id]?
 lp:∀ (id:Nat) L fr st,c.H[id]? = some (.lp L fr st)→(∃ st',c'.H[id]? = some (.lp L fr st'))∧c'.ρ[id]? = c.ρ[id]?
theorem OslR.later {c c':Cx} (h:Zam c c') {sz id ver off len:Nat} {v:Value} (hv:OslR c sz id ver off len v):OslR c' sz id ver off len v:=by
 obtain ⟨ver0,frz,rows,b,cap,hH,hle,e,hcap,hh⟩:=hv
 obtain ⟨ver',frz',rows',hH',hle',hsame⟩:=h.arr id sz ver0 frz rows hH
 refine ⟨ver',frz',rows',b,cap,hH',by omega,e,hcap,fun e => ?_⟩
 have e1:ver=ver0:=by omega
 obtain ⟨vs,h1,h3,h5,h6⟩:=hh e1
 obtain ⟨g1,g2,g3⟩:=hsame (by omega)
 obtain ⟨vs',k1,k2⟩:=g3 b vs h1 h5
 exact ⟨vs',by rw [g2];exact h1,by omega,k1,by rw [k2];exact h6⟩
theorem Zrr.later {c c':Cx} (h:Zam c c') {sz id ver i off:Nat} {v:Value} (hv:Zrr c sz id ver i off v):Zrr c' sz id ver i off v:=by
 obtain ⟨ver0,frz,rows,b,hH,hle,e,hh⟩:=hv
 obtain ⟨ver',frz',rows',hH',hle',hsame⟩:=h.arr id sz ver0 frz rows hH
 refine ⟨ver',frz',rows',b,hH',by omega,e,fun e => ?_⟩
 obtain ⟨_,g2,_⟩:=hsame (by omega)
 rw [g2];exact hh (by omega)
theorem PtrR.later {c c':Cx} (h:Zam c c') {id off:Nat} {v:Value} (hv:PtrR c id off v):PtrR c' id off v:=by
 obtain ⟨cs,b,h1,h2,h3⟩:=hv
 obtain ⟨⟨cs',g1⟩,g2⟩:=h.cells id cs h1
 exact ⟨cs',b,g1,by rw [g2];exact h2,h3⟩
theorem YlR.later {c c':Cx} (h:Zam c c') {id:Nat} {v:Value} (hv:YlR c id v):YlR c' id v:=by
 obtain ⟨L,fr,st,b,h1,h2,h3⟩:=hv
 obtain ⟨⟨st',g1⟩,g2⟩:=h.lp id L fr st h1
 exact ⟨L,fr,st',b,g1,by rw [g2];exact h2,h3⟩
theorem MapR.later {c c':Cx} (h:Zam c c') {id:Nat} {v:Value} (hv:MapR c id v):MapR c' id v:=by
 obtain ⟨L,fr,st,b,h1,h2,h3,h4⟩:=hv
 obtain ⟨⟨st',g1⟩,g2⟩:=h.lp id L fr st h1
 exact ⟨L,fr,st',b,g1,h2,by rw [g2];exact h3,h4⟩
theorem CslR.later {c c':Cx} (h:Zam c c') {id n:Nat} {v:Value} (hv:CslR c id n v):CslR c' id n v:=by
 obtain ⟨cs,b,h1,h2,h3⟩:=hv
 obtain ⟨⟨cs',g1⟩,g2⟩:=h.cells id cs h1
 exact ⟨cs',b,g1,by rw [g2];exact h2,h3⟩
mutual
theorem VR.later {c c':Cx} (h:Zam c c'):∀ (x:AV) (v:Value),ZX x=true→VR c x v→VR c' x v
 | .any,v,_,hv=>by simp [VR]
 | .p x,v,_,hv=>by rw [VR] at hv ⊢;exact PR.mono h.stay x v hv
 | .nl x,v,_,hv=>by rw [VR] at hv ⊢;exact hv
 | .agg cs,v,hn,hv=>by
  rw [VR] at hv ⊢
  obtain ⟨vs,e,hv⟩:=hv
  exact ⟨vs,e,VRL.later h cs vs (by simpa [ZX] using hn) hv⟩
 | .tup cs,v,hn,hv=>by
  rw [VR] at hv ⊢
  obtain ⟨vs,e,hv⟩:=hv
  exact ⟨vs,e,VRL.later h cs vs (by simpa [ZX] using hn) hv⟩
 | .osl sz id ver off len,v,_,hv=>by rw [VR] at hv ⊢;exact hv.later h
 | .optr sz id ver i off,v,_,hv=>by rw [VR] at hv ⊢;exact hv.later h
 | .ppt sz rows i off,v,_,hv=>by
  rw [VR] at hv ⊢
  obtain ⟨a,e,hr⟩:=hv
  exact ⟨a,e,ZhA.mono h.stay sz rows a hr⟩
 | .ptr id off,v,_,hv=>by rw [VR] at hv ⊢;exact hv.later h
 | .loc t off,v,hn,_=>by simp [ZX] at hn
 | .fn f a b,v,hn,hv=>by
  rw [VR] at hv ⊢
  obtain ⟨xs,ys,e,h1,h2⟩:=hv
  simp only [ZX,Bool.and_eq_true] at hn
  exact ⟨xs,ys,e,VRL.later h a xs hn.1 h1,VRL.later h b ys hn.2 h2⟩
 | .map _,v,_,hv=>by rw [VR] at hv ⊢;exact hv.later h
 | .yl id,v,_,hv=>by rw [VR] at hv ⊢;exact hv.later h
 | .csl _ _,v,_,hv=>by rw [VR] at hv ⊢;exact hv.later h
theorem VRL.later {c c':Cx} (h:Zam c c'):∀ (xs:List AV) (vs:List Value),noLocL xs=true→VRL c xs vs→VRL c' xs vs
 | [],vs,_,hv=>by rw [VRL] at hv ⊢;exact hv
 | x::xs,vs,hn,hv=>by
  rw [VRL] at hv ⊢
  obtain ⟨u,us,e,h1,h2⟩:=hv
  simp only [noLocL,ZX.noLocL,Bool.and_eq_true] at hn
  exact ⟨u,us,e,VR.later h x u hn.1 h1,VRL.later h xs us hn.2 h2⟩
end
theorem Zg8 {x:AV} (h:ZcQ x=true):ZX x=true:=by
 cases x<;>simp_all [ZcQ,ZX]
theorem ZH:∀ {xs:List AV},ZO xs=true→noLocL xs=true
 | [],_=>rfl
 | x::xs,h=>by
  simp only [ZO,Bool.and_eq_true] at h
  simp only [noLocL,ZX.noLocL,Bool.and_eq_true]
  exact ⟨Zg8 h.1,ZH h.2⟩
theorem Zin {c:Cx} {x:AV} {v:Value} (h:ZcQ x=true) (hv:VR c x v):v.oneCell'=true:=by
 cases x with
 | p x =>
  rw [VR] at hv
  cases x with
  | int k n=>rw [PR] at hv;subst hv;rfl
  | bool b=>rw [PR] at hv;subst hv;rfl
  | sl sz full rows=>rw [PR] at hv;obtain ⟨A,cap,e,_⟩:=hv;subst e;rfl
 | nl x=>rw [VR] at hv;subst hv;cases x<;>simp_all [ZcQ,NL.val,Value.oneCell']
 | osl sz id ver off len =>
  rw [VR] at hv
  obtain ⟨ver0,frz,rows,b,cap,_,_,e,_⟩:=hv
  subst e;rfl
 | ptr id off=>rw [VR] at hv;obtain ⟨cs,b,_,_,e⟩:=hv;subst e;rfl
 | fn f a b=>rw [VR] at hv;obtain ⟨xs,ys,e,_⟩:=hv;subst e;rfl
 | map id=>rw [VR] at hv;obtain ⟨L,fr,st,b,_,_,_,e⟩:=hv;subst e;unfold mapV;split<;>rfl
 | yl id=>rw [VR] at hv;obtain ⟨L,fr,st,b,_,_,e⟩:=hv;subst e;rfl
 | _=>simp [ZcQ] at h
theorem Zfd {c:Cx} {x:AV} {v:Value} (h:ZO (cellsOf x)=true) (hv:VR c x v):VRL c (cellsOf x) v.cells.toList:=by
 cases x with
 | agg cs =>
  rw [VR] at hv
  obtain ⟨vs,rfl,hv⟩:=hv
  simpa [cellsOf,Value.cells] using hv
 | tup cs=>simp [cellsOf,ZO,ZcQ] at h
 | _ =>
  simp only [cellsOf,ZO,Bool.and_true] at h ⊢
  have h1:=Zin h hv
  have e:v.cells = #[v]:=by cases v<;>simp_all [Value.cells,Value.oneCell']
  rw [e,VRL]
  exact ⟨v,[],rfl,hv,by rw [VRL]⟩
theorem ZkH {xs:List AV}:ZO xs=true↔∀ x ∈ xs,ZcQ x=true:=by
 induction xs with
 | nil=>simp [ZO]
 | cons y ys ih=>simp [ZO,ih]
theorem Zg4 {c:Cx} {xs:List AV} {vs:List Value} (h:ZO xs=true) (hv:VRL c xs vs):∀ v ∈ vs,v.oneCell'=true:=by
 induction xs generalizing vs with
 | nil=>rw [VRL] at hv;subst hv;simp
 | cons x xs ih =>
  rw [VRL] at hv
  obtain ⟨u,us,rfl,h1,h2⟩:=hv
  simp only [ZO,Bool.and_eq_true] at h
  intro v hm
  rcases List.mem_cons.1 hm with rfl | hm
  ·exact Zin h.1 h1
  ·exact ih h.2 h2 v hm
end Go.Eng

