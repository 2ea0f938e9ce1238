/- Part of the proof; written by a program out of the texts in wip/. -/
import Derived.Test.YthipedbbcjemhaaGreatPlanCoversE11
import Derived.RangeFuncRecord
import Derived.OrdersIn
set_option linter.unusedVariables false
set_option linter.unusedSimpArgs false
namespace Go.Eng
open Go
def FR (r:Option Nat):Fence:={ Fence.wide with round:=r }
theorem ZlZ {r:Option Nat} {m:Nat} {P:Program} {f:FuncId} {args:Array Value} {w:World} {R:Ending→World→Prop} (h:Calls P f args w R):CallsIn (FR r) m P f args w R:=(callsIn_wide (n:=m)).2 h
theorem ZmP {r:Option Nat} {m:Nat} {P:Program} {f:FuncId} {args:Array Value} {w:World} {R:Ending→World→Prop} (h:CallsIn (FR r) m P f args w R):Calls P f args w R:=(callsIn_wide (n:=m)).1 h
theorem ZpY {r:Option Nat} {m:Nat} {P:Program} {row:String} {args:Array Value} {w:World} {R:Value→World→Prop} (h:Rows P row args w R):RowsIn (FR r) m P row args w R :=
 fun c cs _=>let ⟨v,w',h1,h2⟩:=h c cs; ⟨v,w',h1,stepsIn_wide.2 h2⟩
theorem Oper.wpIn_of_wp {P:Program} {o:Oper} {a:Act} {w:World} {K:Act→World→Prop} {Q:Exit→Act→World→Prop} (r:Option Nat) (hd:∀ c,o.op ≠ .defer c) (h:o.wp P a w K Q):o.wpIn (FR r) 0 P a w K Q:=by
 refine ⟨fun f _=>trivial,?_⟩
 rw [Oper.semAt_eq _ _ _ hd]
 unfold Oper.wp at h
 generalize (execOp a.eval o).run P w=x at h ⊢
 cases x with
 | ok x w' =>
  cases x<;>simp only [Oper.upon,Oper.uponIn] at h ⊢<;>first
   | exact h
   | exact ⟨fun h=>(by cases h),ZlZ h⟩
   | exact ⟨fun h=>(by cases h),ZpY h⟩
   | exact h.elim
 | halt x w'=>cases x<;>simp only [Oper.upon,Oper.uponIn] at h ⊢<;>exact h
def Zhh (P:Program) (id:Nat) (args:List AV) (H:List HO) (b:Bool) (H':List HO):Prop :=
 ∀ (ok0:Addr→Prop) (ρ:List Nat) (w:World) (vs:List Value) (l:Nat),
  HR (k0 ok0 ρ H w) ρ H w→VRL (cx (k0 ok0 ρ H w) ⟨ρ,noB⟩ H w) args vs→ρ[id]? = some l →
  ∃ f tmps assign body,(Instr.yield l vs.toArray).run P w = .ok (.round l f tmps assign body) w ∧
   RoundIn (FR none) 0 P l f tmps assign body w fun e w'=>∃ ρ',e = .returned (.bool b)∧HR (k0 ok0 ρ H w) ρ' H' w' ∧
    Zam (cx (k0 ok0 ρ H w) ⟨ρ,noB⟩ H w) (cx (k0 ok0 ρ H w) ⟨ρ',noB⟩ H' w')
def dOK (n:Nat):Option Nat→Bool
 | some d=>decide (d<n)
 | none=>true
def Zoh (P:Program) (kt:TypeId) (kn:Nat):Bool:=match P.underlying kt with
 | some (.int _)=>decide (kn=0)
 | some (.struct fs)=>decide (kn=fs.size)&&decide (kn ≠ 0)&&decide (kn<100)&&eqOK P kt (fs.toList.map fun _=>true)
 | _=>false
def Zja (P:Program) (n:Nat) (o:Oper) (d:Option Nat) (q:SpK) (xs:List IX):Bool :=
 decide (o.dst=d)&&dOK n d&&(match q with
 | .mkMap=>(match o.op with
  | .makeMap t none=>(match P.underlying t with | some (.map _ _)=>true | _=>false)&&decide (xs.length=0)
  | _=>false)
 | .mapGet kn ok zero=>(match o.op with
  | .lookup t m x ok'=>decide (ok=ok')&&(match P.underlying t with | some (.map kt et)=>Zoh P kt kn&&(match P.info? et with | some i=>(match i.zero with | some z=>Zk0 z zero | none=>false) | none=>false) | _=>false)&&Z3 [m,x] xs
  | _=>false)
 | .mapSet kn=>(match o.op with
  | .mapUpdate t m x v | .insert t m x v=>(match P.underlying t with | some (.map kt _)=>Zoh P kt kn | _=>false)&&Z3 [m,x,v] xs
  | _=>false)
 | .litC=>(match o.op with
  | .buildSlice t len parts=>Zog P t 1 len parts.toList&&Z3 (parts.toList.map (·.2)) xs
  | _=>false)
 | .mkP m zero bytes=>(match d with
  | some d'=>chkS P n o (.mkSl d' (.k (.p (.int .i64 m))) (.k (.p (.int .i64 m))) zero bytes)
  | none=>false)
 | .range=>(match o.op with
  | .range t x=>(match P.underlying t with | some (.map _ _)=>true | _=>false)&&Z3 [x] xs
  | _=>false)
 | .next=>(match o.op with
  | .next x str => !str&&Z3 [x] xs
  | _=>false)
 | .entry=>(match o.op with
  | .entry x=>Z3 [x] xs
  | _=>false))
def SpStep (P:Program) (q:SpK) (ys:List AV) (H:List HO) (v:AV) (H':List HO):Prop :=
 ZX v=true∧∀ (k:K0) (n:Nat) (g:G) (s:St) (a:Act) (w:World) (o:Oper) (d:Option Nat) (xs:List IX),xs.map (ev s.fr)=ys→s.H=H→Rel k n g s a w →
  Zja P n o d q xs=true→Did P k n ⟨Eng.putO s.fr d v,s.bx,H'⟩ a w o
def ZI (P:Program) (i:Ins) (s s':St):Prop :=
 match i with
 | .sp d q xs=>∃ v H',SpStep P q (xs.map (ev s.fr)) s.H v H'∧s'=⟨Eng.putO s.fr d v,s.bx,H'⟩
 | .call d f xs=>∃ args H1 r H2,Pass s.H (xs.map (ev s.fr)) args H1∧Zbe P f args H1 r H2∧s'=⟨putO s.fr d r,s.bx,H2⟩
 | .callP d f xs=>∃ r,Zac P f (weakVs (xs.map (ev s.fr))) r∧s'=⟨put s.fr d r,s.bx,s.H⟩
 | .callQ d f xs=>∃ args r,FrzL s.H (xs.map (ev s.fr)) args∧Zac P f args r∧s'=⟨put s.fr d r,s.bx,s.H⟩
 | .callV d fx xs=>∃ f first cap args H1 r H2,ev s.fr fx = .fn f first cap∧Pass s.H (first++xs.map (ev s.fr)++cap) args H1∧Zbe P f args H1 r H2∧s'=⟨putO s.fr d r,s.bx,H2⟩
 | .callY d fx xs=>∃ id args H1 b H2,ev s.fr fx = .yl id∧frzL s.H (xs.map (ev s.fr))=some (args,H1)∧Zhh P id args H1 b H2∧s'=⟨putO s.fr d (.p (.bool b)),s.bx,H2⟩
 | i=>Z5 i s=some s'
def ZaM (P:Program) (n:Nat) (o:Oper) (i:Ins):Bool :=
 match i with
 | .val d v xs=>chkV P n o d v xs
 | .loadH d x m b | .loadI d x m b=>chkM P n o (.load d x m b)
 | .appN d x y z b=>chkS P n o (.app d x y z b)
 | .load .. | .loadL .. | .store .. | .storeH .. | .newL .. | .boxL .. | .newH .. | .boxH .. => chkM P n o i
 | .mkSl .. | .app .. | .litSl .. | .litP .. => chkS P n o i
 | .mkC d m zero bytes=>chkS P n o (.mkSl d (.k (.p (.int .i64 m))) (.k (.p (.int .i64 m))) zero bytes)
 | .call d f xs=>decide (o.dst=d)&&dOK n d&&(match o.op with
  | .call { callee:=.value (.func f'),args:=args,argTypes:=_ }=>decide (f=f')&&Z3 args.toList xs
  | _=>false)
 | .callP d f xs=>decide (o.dst=some d)&&decide (d<n)&&(match o.op with
  | .call { callee:=.value (.func f'),args:=args,argTypes:=_ }=>decide (f=f')&&Z3 args.toList xs
  | _=>false)
 | .callQ d f xs=>decide (o.dst=some d)&&decide (d<n)&&(match o.op with
  | .call { callee:=.value (.func f'),args:=args,argTypes:=_ }=>decide (f=f')&&Z3 args.toList xs
  | _=>false)
 | .callV d fx xs=>decide (o.dst=d)&&dOK n d&&(match o.op with
  | .call { callee:=.value X,args:=args,argTypes:=_ }=>Zdu X fx&&Z3 args.toList xs
  | _=>false)
 | .callY d fx xs=>decide (o.dst=d)&&dOK n d&&(match o.op with
  | .call { callee:=.value X,args:=args,argTypes:=_ }=>Zdu X fx&&Z3 args.toList xs
  | _=>false)
 | .sp d q xs=>Zja P n o d q xs
section
variable {P:Program} {k:K0} {n:Nat} {g:G} {s:St} {a:Act} {w:World}
theorem Zeq {f:Nat} (h:Zo4 P f) (args:Array Value):(callFunc f args).run P w = .ok (.enter f args) w:=by
 obtain ⟨fn,h1,h2,h3⟩:=h
 obtain ⟨c,h2⟩:=Option.isSome_iff_exists.1 h2
 unfold callFunc
 simp only [Sem.run_bind,run_program,Result.andThen_ok,h1,h3,Bool.false_eq_true,if_false,h2,Option.isNone_some,Sem.run_pure]
theorem Rel.putO (h:Rel k n g s a w) {d:Option Nat} (hd:dOK n d=true) {r:AV} {u:Value} (hr:VR (cx k g s.H w) r u) (ht:top r=true) :
  Rel k n g ⟨Eng.putO s.fr d r,s.bx,s.H⟩ (a.put d u) w:=by
 cases d with
 | none=>exact h
 | some d=>exact h.put (by simpa [dOK] using hd) hr ht
theorem Zht {o:Oper} {i:Ins} (h:ZaM P n o i=true):o.dst=dstI i∧dOK n (dstI i)=true:=by
 cases i with
 | val d v xs=>simp only [ZaM,chkV,Bool.and_eq_true,decide_eq_true_eq] at h;exact ⟨h.1.1,by simpa [dstI,dOK] using h.1.2⟩
 | load d x m b=>simp only [ZaM,chkM,Bool.and_eq_true,decide_eq_true_eq] at h;exact ⟨h.1.1,by simpa [dstI,dOK] using h.1.2⟩
 | loadL d x m b=>simp only [ZaM,chkM,Bool.and_eq_true,decide_eq_true_eq] at h;exact ⟨h.1.1,by simpa [dstI,dOK] using h.1.2⟩
 | loadH d x m b=>simp only [ZaM,chkM,Bool.and_eq_true,decide_eq_true_eq] at h;exact ⟨h.1.1,by simpa [dstI,dOK] using h.1.2⟩
 | loadI d x m b=>simp only [ZaM,chkM,Bool.and_eq_true,decide_eq_true_eq] at h;exact ⟨h.1.1,by simpa [dstI,dOK] using h.1.2⟩
 | appN d x y z b=>simp only [ZaM,chkS,Bool.and_eq_true,decide_eq_true_eq] at h;exact ⟨h.1.1,by simpa [dstI,dOK] using h.1.2⟩
 | store x y m=>simp only [ZaM,chkM,Bool.and_eq_true,decide_eq_true_eq] at h;exact ⟨h.1,rfl⟩
 | storeH x y m=>simp only [ZaM,chkM,Bool.and_eq_true,decide_eq_true_eq] at h;exact ⟨h.1,rfl⟩
 | newL d z=>simp only [ZaM,chkM,Bool.and_eq_true,decide_eq_true_eq] at h;exact ⟨h.1.1,by simpa [dstI,dOK] using h.1.2⟩
 | boxL d z=>simp only [ZaM,chkM,Bool.and_eq_true,decide_eq_true_eq] at h;exact ⟨h.1.1,by simpa [dstI,dOK] using h.1.2⟩
 | newH d z=>simp only [ZaM,chkM,Bool.and_eq_true,decide_eq_true_eq] at h;exact ⟨h.1.1,by simpa [dstI,dOK] using h.1.2⟩
 | boxH d z=>simp only [ZaM,chkM,Bool.and_eq_true,decide_eq_true_eq] at h;exact ⟨h.1.1,by simpa [dstI,dOK] using h.1.2⟩
 | mkSl d x y z b=>simp only [ZaM,chkS,Bool.and_eq_true,decide_eq_true_eq] at h;exact ⟨h.1.1,by simpa [dstI,dOK] using h.1.2⟩
 | app d x y z b=>simp only [ZaM,chkS,Bool.and_eq_true,decide_eq_true_eq] at h;exact ⟨h.1.1,by simpa [dstI,dOK] using h.1.2⟩
 | litSl d z xs=>simp only [ZaM,chkS,Bool.and_eq_true,decide_eq_true_eq] at h;exact ⟨h.1.1,by simpa [dstI,dOK] using h.1.2⟩
 | mkC d m z b=>simp only [ZaM,chkS,Bool.and_eq_true,decide_eq_true_eq] at h;exact ⟨h.1.1,by simpa [dstI,dOK] using h.1.2⟩
 | litP d z xs=>simp only [ZaM,chkS,Bool.and_eq_true,decide_eq_true_eq] at h;exact ⟨h.1.1,by simpa [dstI,dOK] using h.1.2⟩
 | call d f xs=>simp only [ZaM,Bool.and_eq_true,decide_eq_true_eq] at h;exact ⟨h.1.1,h.1.2⟩
 | callP d f xs=>simp only [ZaM,Bool.and_eq_true,decide_eq_true_eq] at h;exact ⟨h.1.1,by simpa [dstI,dOK] using h.1.2⟩
 | callQ d f xs=>simp only [ZaM,Bool.and_eq_true,decide_eq_true_eq] at h;exact ⟨h.1.1,by simpa [dstI,dOK] using h.1.2⟩
 | callV d f xs=>simp only [ZaM,Bool.and_eq_true,decide_eq_true_eq] at h;exact ⟨h.1.1,h.1.2⟩
 | callY d f xs=>simp only [ZaM,Bool.and_eq_true,decide_eq_true_eq] at h;exact ⟨h.1.1,h.1.2⟩
 | sp d q xs=>simp only [ZaM,Zja,Bool.and_eq_true,decide_eq_true_eq] at h;exact ⟨h.1.1,h.1.2⟩
theorem Did.wp {s':St} {o:Oper} (h:Did P k n s' a w o) {K:Act→World→Prop} {Q:Exit→Act→World→Prop} (hK:∀ g' a' w',Rel k n g' s' a' w'→K a' w'):o.wp P a w K Q:=by
 obtain ⟨u,w',g',h1 | ⟨h1,rfl⟩,h2⟩:=h
 ·unfold Oper.wp;rw [h1];exact hK _ _ _ h2
 ·unfold Oper.wp;rw [h1];exact hK _ _ _ h2
theorem Zoo (h:Rel k n g s a w) {o:Oper} {d:Option Nat} {f:Nat} {xs args:List AV} {vs:List Value} {H1 H2:List HO} {r:AV} (hd:o.dst=d) (hn:dOK n d=true) (hf:Pass s.H xs args H1) (ht:∀ x ∈ xs,top x=true) (hv:VRL (cx k g s.H w) xs vs)
  (hc:Zbe P f args H1 r H2) (hrun:(execOp a.eval o).run P w = .ok (.enter f vs.toArray) w) {K:Act→World→Prop} {Q:Exit→Act→World→Prop}
  (hK:∀ g' a' w',Rel k n g' ⟨Eng.putO s.fr d r,s.bx,H2⟩ a' w'→K a' w'):o.wp P a w K Q:=by
 obtain ⟨r1,l1,v1,n1⟩:=ZpH xs h hf ht hv
 unfold Oper.wp
 rw [hrun]
 refine r1.call hc v1 n1 ?_
 intro g' v w' h2 h3
 rw [hd]
 exact hK _ _ _ (h2.putO hn h3 (ZM hc.2.1))
theorem Zpr {d:Nat} {x:IX} {m:Nat} {b:Bool} {s':St} (hs:Z5 (.loadH d x m b) s=some s'):Z5 (.load d x m b) s=some s':=by
 simp only [Z5] at hs ⊢
 split at hs
 ·cases hs
 ·rename_i hl
  have:rd s.bx s.H m (ev s.fr x)=rd [] s.H m (ev s.fr x):=by
   cases he:ev s.fr x with
   | loc t o=>rw [he] at hl;simp [ZnG] at hl
   | _=>rfl
  rw [this];exact hs
theorem Zpq {d:Nat} {x:IX} {m:Nat} {b:Bool} {s':St} (hs:Z5 (.loadI d x m b) s=some s'):Z5 (.load d x m b) s=some s':=by
 simp only [Z5] at hs ⊢
 split at hs
 ·rename_i sz rows i off he;rw [he];exact hs
 ·cases hs
theorem Zrl {d:Nat} {x y:IX} {z b:Nat} {s':St} (hs:Z5 (.appN d x y z b) s=some s'):Z5 (.app d x y z b) s=some s':=by
 simp only [Z5] at hs ⊢
 split at hs
 ·rename_i a b' hx;rw [hx];exact hs
 ·cases hs
theorem step_sound' (h:Rel k n g s a w) {o:Oper} {i:Ins} (hnY:∀ d fx xs,i ≠ .callY d fx xs) (hc:ZaM P n o i=true) {s':St} (hs:ZI P i s s') {K:Act→World→Prop} {Q:Exit→Act→World→Prop}
  (hK:∀ g' a' w',Rel k n g' s' a' w'→K a' w'):o.wp P a w K Q:=by
 have hdst:=Zht hc
 cases i with
 | val d v xs =>
  simp only [ZI,Z5] at hs
  cases hv:Z7 v (xs.map (ev s.fr)) with
  | none=>simp [hv] at hs
  | some r =>
   simp only [hv,Option.map_some,Option.some.injEq] at hs
   subst hs
   obtain ⟨u,h1,h2,h3⟩:=vsound h (by simpa [ZaM] using hc) hv
   refine Did.wp (k:=k) (n:=n) ⟨u,w,g,.inl h1,?_⟩ hK
   rw [hdst.1]
   exact h.put (by simpa [dstI,dOK] using hdst.2) h2 h3
 | load d x m b=>exact (Zhq h hc hs).wp hK
 | loadL d x m b=>exact (Zoe h hc hs).wp hK
 | loadH d x m b=>exact (Zhq h (by simpa [ZaM] using hc) (Zpr hs)).wp hK
 | loadI d x m b=>exact (Zhq h (by simpa [ZaM] using hc) (Zpq hs)).wp hK
 | appN d x y z b=>exact (ZnU h (by simpa [ZaM] using hc) (Zrl hs)).wp hK
 | store x y m=>exact (Zkb h hc hs).wp hK
 | storeH x y m =>
  have hs':Z5 (.store x y m) s=some s':=by
   simp only [ZI,Z5] at hs ⊢
   split at hs
   ·rename_i hcond;rw [if_pos hcond.2];exact hs
   ·cases hs
  exact (Zkb h (by simpa [ZaM,chkM] using hc) hs').wp hK
 | newL d z=>exact (Zph h hc hs).wp hK
 | boxL d z=>exact (ZpC h hc hs).wp hK
 | newH d z=>exact (Zpj h hc hs).wp hK
 | boxH d z=>exact (ZpD h hc hs).wp hK
 | mkSl d x y z b=>exact (Zpl h hc hs).wp hK
 | app d x y z b=>exact (ZnU h hc hs).wp hK
 | litSl d z xs=>exact (Zof h hc hs).wp hK
 | litP d z xs=>exact (Zps h hc hs).wp hK
 | mkC d m z b=>exact (Zp8 h hc hs).wp hK
 | sp d q xs =>
  simp only [ZI] at hs
  obtain ⟨v,H',h1,rfl⟩:=hs
  exact (h1.2 k n g s a w o d xs rfl rfl h hc).wp hK
 | call d f xs =>
  simp only [ZI] at hs
  obtain ⟨args,H1,r,H2,h1,h2,rfl⟩:=hs
  simp only [ZaM,Bool.and_eq_true] at hc
  obtain ⟨_,hc⟩:=hc
  split at hc
  ·rename_i f' args' ts hop
   simp only [Bool.and_eq_true,decide_eq_true_eq] at hc
   obtain ⟨rfl,hm⟩:=hc
   refine Zoo h hdst.1 hdst.2 h1 (Zbd h hm) (ZQ h hm) h2 ?_ hK
   simp only [execOp,hop,resolve,Act.eval,Deferred.ofValue,Sem.run_bind,Sem.run_pure,Result.andThen_ok,invoke]
   rw [Zeq h2.1]
   congr 2
   apply Array.ext'
   simp
  ·cases hc
 | callP d f xs =>
  simp only [ZI] at hs
  obtain ⟨r,h2,rfl⟩:=hs
  simp only [ZaM,Bool.and_eq_true] at hc
  obtain ⟨_,hc⟩:=hc
  split at hc
  ·rename_i f' args' ts hop
   simp only [Bool.and_eq_true,decide_eq_true_eq] at hc
   obtain ⟨rfl,hm⟩:=hc
   have hfr:=h2.frame s.H
   have hv:=ZQ h hm
   unfold Oper.wp
   have hrun:(execOp a.eval o).run P w = .ok (.enter f (args'.toList.map a.eval).toArray) w:=by
    simp only [execOp,hop,resolve,Act.eval,Deferred.ofValue,Sem.run_bind,Sem.run_pure,Result.andThen_ok,invoke]
    rw [Zeq hfr.1]
    congr 2
    apply Array.ext'
    simp
   rw [hrun]
   refine h.call hfr hv.weakVs (Zek h2.2.1) ?_
   intro g' v w' h3 h4
   rw [hdst.1]
   exact hK _ _ _ (h3.put (by simpa [dstI,dOK] using hdst.2) h4 (ZM hfr.2.1))
  ·cases hc
 | callQ d f xs =>
  simp only [ZI] at hs
  obtain ⟨args,r,h1,h2,rfl⟩:=hs
  simp only [ZaM,Bool.and_eq_true] at hc
  obtain ⟨_,hc⟩:=hc
  split at hc
  ·rename_i f' args' ts hop
   simp only [Bool.and_eq_true,decide_eq_true_eq] at hc
   obtain ⟨rfl,hm⟩:=hc
   have hfr:=h2.frame s.H
   refine Zoo (d:=some d) h hdst.1 hdst.2 (.frz h1.frz) (Zbd h hm) (ZQ h hm) hfr ?_ hK
   simp only [execOp,hop,resolve,Act.eval,Deferred.ofValue,Sem.run_bind,Sem.run_pure,Result.andThen_ok,invoke]
   rw [Zeq hfr.1]
   congr 2
   apply Array.ext'
   simp
  ·cases hc
 | callV d fx xs =>
  simp only [ZI] at hs
  obtain ⟨f,first,cap,args,H1,r,H2,h0,h1,h2,rfl⟩:=hs
  simp only [ZaM,Bool.and_eq_true] at hc
  obtain ⟨_,hc⟩:=hc
  split at hc
  ·rename_i X args' ts hop
   simp only [Bool.and_eq_true] at hc
   obtain ⟨hmf,hm⟩:=hc
   have hvf:=Zbx h hmf
   have htf:=Zi2 h hmf
   rw [h0] at hvf htf
   rw [VR] at hvf
   obtain ⟨us1,us2,e,hv1,hv2⟩:=hvf
   simp only [top,ZX,Bool.and_eq_true] at htf
   have hall:VRL (cx k g s.H w) (first++xs.map (ev s.fr)++cap) (us1++args'.toList.map a.eval++us2):=Zf3 (Zf3 hv1 (ZQ h hm)) hv2
   refine Zoo h hdst.1 hdst.2 h1 ?_ hall h2 ?_ hK
   ·intro y hy
    simp only [List.mem_append] at hy
    rcases hy with (hy | hy) | hy
    ·exact ZM (Zbb.1 htf.1 y hy)
    ·exact Zbd h hm y hy
    ·exact ZM (Zbb.1 htf.2 y hy)
   ·simp only [execOp,hop,resolve,e,Deferred.ofValue,Sem.run_bind,Sem.run_pure,Result.andThen_ok,invoke]
    rw [Zeq h2.1]
    congr 2
    apply Array.ext'
    simp
  ·cases hc
 | callY d fx xs=>exact absurd rfl (hnY d fx xs)
theorem ZqH (h:Rel k n g s a w) {o:Oper} {d:Option Nat} {fx:IX} {xs:List IX} (hc:ZaM P n o (.callY d fx xs)=true) {s':St} (hs:ZI P (.callY d fx xs) s s') (r:Option Nat) {K:Act→World→Prop} {Q:Exit→Act→World→Prop}
  (hK:∀ g' a' w',Rel k n g' s' a' w'→K a' w'):o.wpIn (FR r) 0 P a w K Q:=by
 have hdst:=Zht hc
 simp only [ZI] at hs
 obtain ⟨id,args,H1,b,H2,h0,h1,h2,rfl⟩:=hs
 simp only [ZaM,Bool.and_eq_true] at hc
 obtain ⟨_,hc⟩:=hc
 split at hc
 ·rename_i X args' ts hop
  simp only [Bool.and_eq_true] at hc
  obtain ⟨hmf,hm⟩:=hc
  have hvf:=Zbx h hmf
  rw [h0] at hvf
  obtain ⟨r1,l1,v1,n1⟩:=Zi8 _ h h1 (Zbd h hm) (ZQ h hm)
  have hvf':=VR.later l1 _ _ rfl hvf
  rw [VR] at hvf hvf'
  obtain ⟨L,fr,st,l,_,hρ,e⟩:=hvf'
  refine ⟨fun _ _=>trivial,?_⟩
  rw [Oper.semAt_eq _ _ _ (fun c e=>by rw [hop] at e;cases e)]
  obtain ⟨f,tmps,assign,body,hy,hround⟩:=h2 (okOf k H1 g) g.ρ w _ l r1.hr (VRL.later r1.laterCall args _ n1 v1) hρ
  have hrun:(execOp a.eval o).run P w = .ok (.round l f tmps assign body) w:=by
   simp only [execOp,hop,resolve,e,Deferred.ofValue,Sem.run_bind,Sem.run_pure,Result.andThen_ok,invoke]
   rw [← hy]
   congr 2
   apply Array.ext'
   simp
  rw [hrun]
  refine ⟨fun h=>(by cases h),?_⟩
  refine RoundIn.mono (F:=FR r) (n:=0) (show RoundIn (FR r) 0 P l f tmps assign body w _ from hround) ?_
  rintro e w' ⟨ρ',rfl,g1,g2⟩
  obtain ⟨g3,g4⟩:=r1.back g1 g2
  rw [hdst.1]
  exact hK _ _ _ (g3.putO hdst.2 (by rw [VR,PR]) rfl)
 ·cases hc
theorem ZlC (h:Rel k n g s a w) {o:Oper} {i:Ins} (hd:∀ c,o.op ≠ .defer c) (hc:ZaM P n o i=true) {s':St} (hs:ZI P i s s') (r:Option Nat) {K:Act→World→Prop} {Q:Exit→Act→World→Prop}
  (hK:∀ g' a' w',Rel k n g' s' a' w'→K a' w'):o.wpIn (FR r) 0 P a w K Q:=by
 cases i with
 | callY d fx xs=>exact ZqH h hc hs r hK
 | _=>exact Oper.wpIn_of_wp r hd (step_sound' h (fun _ _ _ e=>by cases e) hc hs hK)
end
def ZoH:Op→Bool
 | .defer _=>false
 | _=>true
theorem ZkI {x:Op} (h:ZoH x=true):∀ c,x ≠ .defer c:=by
 rintro c rfl
 cases h
def ZrC (P:Program) (o:IOp) (s s':St):Prop:=bnOK o s.fr=true∧ZI P o.i s s'
def AOp (P:Program) (o:IOp) (s s':St):Prop :=
 match o.g with
 | none=>ZrC P o s s'
 | some (t,want)=>match get s.fr t with
  | .p (.bool b)=>if b=want then ZrC P o s s' else s'=⟨putO s.fr (dstI o.i) (.nl .unit),s.bx,s.H⟩
  | .nl .unit=>s'=⟨putO s.fr (dstI o.i) (.nl .unit),s.bx,s.H⟩
  | _=>False
def Zom (ops:Array Oper):Option (Nat × Bool)→Option (Nat × Bool)→Bool
 | none,none=>true
 | some (j,b),some (t,b')=>decide (((ops[j]?).bind (·.dst))=some t)&&decide (b=b')
 | _,_=>false
def ZnP (P:Program) (n:Nat) (ops:Array Oper) (o:Oper) (io:IOp):Bool:=Zom ops o.guard io.g&&ZaM P n o io.i&&ZoH o.op
def Zcp (P:Program) (n:Nat) (ops:Array Oper):List Oper→List IOp→Bool
 | [],[]=>true
 | o::os,io::ios=>ZnP P n ops o io&&Zcp P n ops os ios
 | _,_=>false
def Za (P:Program):List IOp→St→St→Prop
 | [],s,s'=>s'=s
 | o::os,s,s'=>∃ s1,AOp P o s s1∧Za P os s1 s'
section
variable {P:Program} {k:K0} {n:Nat} {g:G} {s:St} {a:Act} {w:World} {ops:Array Oper}
theorem ZmA (h:Rel k n g s a w) {i:Nat} {o:Oper} {io:IOp} (hi:ops[i]? = some o) (hc:ZnP P n ops o io=true) {s':St} (hs:AOp P io s s') (r:Option Nat) {K:Act→World→Prop} {Q:Exit→Act→World→Prop}
  (hK:∀ g' a' w',Rel k n g' s' a' w'→K a' w'):wpOpIn (FR r) 0 P ops Q i K a w:=by
 simp only [ZnP,Bool.and_eq_true] at hc
 obtain ⟨⟨hg,hc⟩,hnd⟩:=hc
 have hnd:=ZkI hnd
 unfold wpOpIn
 rw [hi]
 simp only
 unfold AOp at hs
 unfold Zom at hg
 split at hg
 ·rename_i hog hig
  rw [hig] at hs
  simp only at hs
  rw [if_pos (by simp [Region.wanted,hog])]
  exact ZlC h hnd hc hs.2 r hK
 ·rename_i j b t b' hog hig
  rw [hig] at hs
  simp only at hs
  simp only [Bool.and_eq_true,decide_eq_true_eq] at hg
  obtain ⟨hj,rfl⟩:=hg
  split at hs
  ·rename_i bv hget
   have hslot:=h.slots t
   rw [hget] at hslot
   have hval:=Zjd hslot
   have hlt:t<a.tmps.size:=by
    rcases Nat.lt_or_ge t a.tmps.size with h1 | h1
    ·exact h1
    ·simp [Array.getD,Nat.not_lt.2 h1,undef] at hval
   have hy:yielded ops a.tmps j=some bv:=by
    unfold yielded
    rw [hj]
    have:a.tmps[t]? = some (.bool bv):=by
     rw [Array.getD_eq_getD_getElem?,Array.getElem?_eq_getElem hlt] at hval
     rw [Array.getElem?_eq_getElem hlt]
     simpa using hval
    simp [this]
   have hw:Region.wanted o (yielded ops a.tmps)=(bv==b):=by
    simp [Region.wanted,hog,hy]
   rw [hw]
   by_cases hb:bv=b
   ·rw [if_pos (by simp [hb])]
    rw [if_pos hb] at hs
    exact ZlC h hnd hc hs.2 r hK
   ·rw [if_neg (by simp [hb])]
    rw [if_neg hb] at hs
    subst hs
    have hdst:=Zht hc
    rw [hdst.1]
    exact ⟨fun _ _=>trivial,hK g _ _ (h.putO hdst.2 (by rw [VR];rfl) rfl)⟩
  ·rename_i hget
   have hslot:=h.slots t
   rw [hget,VR] at hslot
   have hy:yielded ops a.tmps j=none:=by
    unfold yielded
    rw [hj]
    simp only [Option.bind_some]
    rw [Array.getD_eq_getD_getElem?] at hslot
    cases ht:a.tmps[t]? with
    | none=>rfl
    | some v=>rw [ht] at hslot;simp only [Option.getD_some] at hslot;rw [hslot];rfl
   have hw:Region.wanted o (yielded ops a.tmps)=false:=by
    simp [Region.wanted,hog,hy]
   rw [hw,if_neg (by simp)]
   subst hs
   have hdst:=Zht hc
   rw [hdst.1]
   exact ⟨fun _ _=>trivial,hK g _ _ (h.putO hdst.2 (by rw [VR];rfl) rfl)⟩
  ·exact hs.elim
 ·cases hg
theorem ZlY:∀ {os:List Oper} {ios:List IOp},Zcp P n ops os ios=true→os.length=ios.length∧∀ (i:Nat) o io,os[i]? = some o→ios[i]? = some io→ZnP P n ops o io=true
 | [],[],_=>⟨rfl,by simp⟩
 | o::os,io::ios,h=>by
  simp only [Zcp,Bool.and_eq_true] at h
  obtain ⟨h1,h2⟩:=ZlY h.2
  refine ⟨by simp [h1],fun i o' io' hi hi' => ?_⟩
  cases i with
  | zero=>simp at hi hi';subst hi hi';exact h.1
  | succ i=>exact h2 i o' io' (by simpa using hi) (by simpa using hi')
 | [],_::_,h=>by simp [Zcp] at h
 | _::_,[],h=>by simp [Zcp] at h
theorem ZkD {r:Option Nat} {Q:Exit→Act→World→Prop}:∀ (os:List Oper) (ios:List IOp) (st:Nat) {g:G} {s s':St} {a:Act} {w:World},(∀ j,os[j]? = ops[st+j]?)→Zcp P n ops os ios=true→Rel k n g s a w→Za P ios s s' →
  (∀ g' a' w',Rel k n g' s' a' w'→Q .normal a' w')→wpOpsIn (FR r) 0 P ops Q (List.range' st os.length) a w
 | [],[],st,g,s,s',a,w,_,_,h,hp,hQ=>by
  simp only [Za] at hp
  subst hp
  simpa [wpOpsIn] using hQ g a w h
 | o::os,io::ios,st,g,s,s',a,w,hos,hc,h,hp,hQ=>by
  simp only [Za] at hp
  obtain ⟨s1,h1,h2⟩:=hp
  simp only [Zcp,Bool.and_eq_true] at hc
  have h0:=hos 0
  simp only [List.getElem?_cons_zero,Nat.add_zero] at h0
  simp only [List.length_cons,List.range'_succ]
  rw [wpOpsIn_cons]
  refine ZmA h h0.symm hc.1 h1 r (fun g' a' w' h3 => ?_)
  exact ZkD os ios (st+1) (fun j=>by have:=hos (j+1);simpa [Nat.add_assoc,Nat.add_comm 1 j] using this) hc.2 h3 h2 hQ
 | [],_::_,_,_,_,_,_,_,_,hc,_,_,_=>by simp [Zcp] at hc
 | _::_,[],_,_,_,_,_,_,_,hc,_,_,_=>by simp [Zcp] at hc
theorem Znj (h:Rel k n g s a w) {id:Nat} {ios:List IOp} (hc:Zcp P n ops ops.toList ios=true) {s':St} (hp:Za P ios s s') (r:Option Nat) {Q:Exit→Act→World→Prop}
  (hQ:∀ g' a' w',Rel k n g' s' a' w'→Q .normal a' w'):(Code.region id ops false).wpIn (FR r) 0 P Q a w:=by
 refine wpIn_region ?_
 have:=ZkD (r:=r) (Q:=Q) ops.toList ios 0 (by simp) hc h hp hQ
 rwa [Array.length_toList,← List.range_eq_range'] at this
end
end Go.Eng

