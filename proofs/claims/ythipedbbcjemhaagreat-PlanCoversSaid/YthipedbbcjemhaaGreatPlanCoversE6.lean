/- Part of the proof; written by a program out of the texts in wip/. -/
import Derived.Test.YthipedbbcjemhaaGreatPlanCoversE5
import Derived.Laws.Entries
set_option linter.unusedVariables false
set_option linter.unusedSimpArgs false
namespace Go.Eng
open Go
def Zk0:Value→AV→Bool
 | .int k n,.p (.int k' n')=>decide (k=k')&&decide (n=n')
 | .bool b,.p (.bool b')=>b==b'
 | .slice none 0 0,.p (.sl _ _ [])=>true
 | .slice none 0 0,.nl .nilSl=>true
 | .nilFunc,.nl .nilFunc=>true
 | .nilIface,.nl .nilIface=>true
 | .pointer none,.nl .nilPtr=>true
 | .map none,.nl .nilMap=>true
 | _,_=>false
def Zhv:List Value→List AV→Bool
 | [],[]=>true
 | v::vs,a::as=>Zk0 v a&&Zhv vs as
 | _,_=>false
def Zdu:Operand→IX→Bool
 | .tmp t,.t u=>decide (t=u)
 | .const v,.k a=>Zk0 v a
 | .func f,.k (.fn f' [] [])=>decide (f=f')
 | _,_=>false
def Z3:List Operand→List IX→Bool
 | [],[]=>true
 | x::xs,y::ys=>Zdu x y&&Z3 xs ys
 | _,_=>false
def ZcA (P:Program) (t:TypeId) (n:Nat):Bool:=match P.info? t with
 | some i=>decide (i.size=n)
 | none=>false
def ZmS (P:Program) (t:TypeId) (b:Bool):Bool:=match P.underlying t with
 | some (.struct _)=>b
 | some (.array ..)=>b
 | some _ => !b
 | none=>false
def ZdU (P:Program) (t:TypeId):List (Nat × Operand)→List (Nat × Nat)→Bool
 | [],[]=>true
 | (i,_)::r,(off,n)::r'=>(match P.underlying t with
   | some (.struct fs)=>(match fs[i]? with
    | some f=>decide (f.offset=off)&&ZcA P f.type n
    | none=>false)
   | some (.array _ e)=>ZcA P e n&&decide (off=i * n)
   | _=>false)&&ZdU P t r r'
 | _,_=>false
def Zh6 (P:Program) (t:TypeId) (z:List AV):Bool:=match P.info? t with
 | some i=>(match i.zero with
  | some v=>Zhv v.cells.toList z
  | none=>false)
 | none=>false
def Zh3 (P:Program) (t:TypeId):Bool:=match P.underlying t with
 | some (.struct fs)=>fs.all fun f=>(P.info? f.type).isSome
 | some (.array _ e)=>(P.info? e).isSome
 | _=>false
def ZjP (lo hi mx:Option Operand):List Operand:=lo.toList++hi.toList++mx.toList
def ZcL (P:Program):Nat→List Field→List Bool→Bool
 | _,[],[]=>true
 | off,f::fs,k::ks => !(f.name == "_")&&decide (f.offset=off)&&(match P.underlying f.type,k with
  | some (.int _),true=>true
  | some .bool,false=>true
  | _,_=>false)&&ZcL P (off+1) fs ks
 | _,_,_=>false
def eqOK (P:Program) (t:TypeId) (ks:List Bool):Bool:=(match P.underlying t with
 | some (.struct fs)=>ZcL P 0 fs.toList ks
 | _=>false) && !P.stoodInHeld t && !P.eqGuardType P.depth t
def chkV (P:Program) (n:Nat) (o:Oper) (d:Nat) (v:VI) (xs:List IX):Bool :=
 decide (o.dst=some d)&&decide (d<n)&&match v with
 | .mov=>(match o.op with
  | .move x=>Z3 [x] xs
  | .assign x=>Z3 [x] xs
  | _=>false)
 | .bin op=>(match o.op with
  | .binOp op' _ x y _=>decide (op=op')&&Z3 [x,y] xs
  | _=>false)
 | .sh op=>(match o.op with
  | .binOp op' _ x y _=>decide (op=op')&&Z3 [x,y] xs
  | _=>false)
 | .eqB neg=>(match o.op with
  | .binOp op t x y _=>decide (op=if neg then .neq else .eql)&&(match P.underlying t with | some .bool=>true | _=>false)&&Z3 [x,y] xs
  | _=>false)
 | .eqS neg ks=>(match o.op with
  | .binOp op t x y _=>decide (op=if neg then .neq else .eql)&&eqOK P t ks&&Z3 [x,y] xs
  | _=>false)
 | .not=>(match o.op with
  | .unOp .not _ x=>Z3 [x] xs
  | _=>false)
 | .neg=>(match o.op with
  | .unOp .neg _ x=>Z3 [x] xs
  | _=>false)
 | .conv k=>(match o.op with
  | .convert src dst x=>(P.underlying src).isSome&&(match P.underlying dst with | some (.int k')=>decide (k=k') | _=>false)&&Z3 [x] xs
  | _=>false)
 | .pick=>(match o.op with
  | .pick c a b=>Z3 [c,a,b] xs
  | _=>false)
 | .faddr off=>(match o.op with
  | .fieldAddr s x f=>(match P.underlying s with
   | some (.struct fs)=>(match fs[f]? with
    | some fl=>decide (fl.offset=off)&&(match P.info? fl.type with | some i=>decide (i.size ≠ 0) | none=>false)
    | none=>false)
   | _=>false)&&Z3 [x] xs
  | _=>false)
 | .iaddr m sz=>(match o.op with
  | .indexAddr t x i=>(match P.underlying t with
   | some (.array m' e)=>decide (m=m')&&ZcA P e sz
   | _=>false)&&Z3 [x,i] xs
  | _=>false)
 | .iaddrS sz=>(match o.op with
  | .indexAddr t x i=>(match P.underlying t with
   | some (.slice e)=>ZcA P e sz
   | _=>false)&&Z3 [x,i] xs
  | _=>false)
 | .idx m sz isAgg=>(match o.op with
  | .index t x i=>(match P.underlying t with
   | some (.array m' e)=>decide (m=m')&&ZcA P e sz&&ZmS P e isAgg
   | _=>false)&&Z3 [x,i] xs
  | _=>false)
 | .fld off m isAgg=>(match o.op with
  | .field t x f=>(match P.underlying t with
   | some (.struct fs)=>(match fs[f]? with
    | some fl=>decide (fl.offset=off)&&ZcA P fl.type m&&ZmS P fl.type isAgg
    | none=>false)
   | _=>false)&&Z3 [x] xs
  | _=>false)
 | .build zero parts=>(match o.op with
  | .build t ps=>Zh6 P t zero&&ZdU P t ps.toList parts&&Zh3 P t&&Z3 (ps.toList.map (·.2)) xs
  | _=>false)
 | .len=>(match o.op with
  | .call { callee:=.builtin .len,args:=args,argTypes:=ts }=>(match ts.toList with
   | [t]=>(match P.underlying t with | some (.slice _)=>true | _=>false)
   | _=>false)&&Z3 args.toList xs&&decide (xs.length=1)
  | _=>false)
 | .lenA m=>(match o.op with
  | .call { callee:=.builtin .len,args:=args,argTypes:=ts }=>(match ts.toList with
   | [t]=>(match P.underlying t with | some (.array m' _)=>decide (m=m') | _=>false)
   | _=>false)&&Z3 args.toList xs&&decide (xs.length=1)
  | _=>false)
 | .ext i=>(match o.op with
  | .extract x i'=>decide (i=i')&&Z3 [x] xs
  | _=>false)
 | .mkfn f nf=>(match o.op with
  | .makeFunc (.func f') first cap=>decide (f=f')&&decide (first.size=nf)&&Z3 (first.toList++cap.toList) xs
  | _=>false)
 | .min=>(match o.op with
  | .call { callee:=.builtin .min,args:=args,argTypes:=_ }=>Z3 args.toList xs
  | _=>false)
 | .max=>(match o.op with
  | .call { callee:=.builtin .max,args:=args,argTypes:=_ }=>Z3 args.toList xs
  | _=>false)
 | .slice sz lo hi mx=>(match o.op with
  | .slice t x l h m=>(match P.underlying t with
   | some (.slice e)=>ZcA P e sz
   | _=>false)&&decide (l.isSome=lo)&&decide (h.isSome=hi)&&decide (m.isSome=mx)&&Z3 (x::ZjP l h m) xs
  | _=>false)
 | .nilChk=>(match o.op with
  | .nilCheck x=>Z3 [x] xs
  | _=>false)
 | .isNil neg=>(match o.op with
  | .binOp op t x (.const (.slice none _ _)) _=>decide (op=if neg then .neq else .eql)&&(match P.underlying t with | some (.slice _)=>true | _=>false)&&Z3 [x] xs
  | _=>false)
theorem Zhw {c:Cx} {v:Value} {a:AV} (h:Zk0 v a=true):VR c a v∧ZcQ a=true:=by
 unfold Zk0 at h
 split at h
 ·simp only [Bool.and_eq_true,decide_eq_true_eq] at h
  obtain ⟨rfl,rfl⟩:=h
  exact ⟨by rw [VR,PR],rfl⟩
 ·simp only [beq_iff_eq] at h
  subst h
  exact ⟨by rw [VR,PR],rfl⟩
 ·exact ⟨by rw [VR,PR];exact ⟨none,0,rfl,by simp,by simp,by simp⟩,rfl⟩
 ·exact ⟨by rw [VR];rfl,rfl⟩
 ·exact ⟨by rw [VR];rfl,rfl⟩
 ·exact ⟨by rw [VR];rfl,rfl⟩
 ·exact ⟨by rw [VR];rfl,rfl⟩
 ·exact ⟨by rw [VR];rfl,rfl⟩
 ·cases h
theorem ZfA {c:Cx}:∀ {vs:List Value} {as:List AV},Zhv vs as=true→VRL c as vs∧ZO as=true
 | [],[],_=>⟨by rw [VRL],rfl⟩
 | v::vs,a::as,h=>by
  simp only [Zhv,Bool.and_eq_true] at h
  obtain ⟨h1,h2⟩:=Zhw (c:=c) h.1
  obtain ⟨h3,h4⟩:=ZfA (c:=c) h.2
  exact ⟨by rw [VRL];exact ⟨v,vs,rfl,h1,h3⟩,by simp [ZO,h2,h4]⟩
 | [],_::_,h=>by simp [Zhv] at h
 | _::_,[],h=>by simp [Zhv] at h
theorem Zbx {k:K0} {n:Nat} {g:G} {s:St} {a:Act} {w:World} (h:Rel k n g s a w) {X:Operand} {x:IX} (hm:Zdu X x=true) :
  VR (cx k g s.H w) (ev s.fr x) (a.eval X):=by
 unfold Zdu at hm
 split at hm
 ·simp only [decide_eq_true_eq] at hm
  subst hm
  exact h.slots _
 ·exact (Zhw hm).1
 ·simp only [decide_eq_true_eq] at hm
  subst hm
  show VR _ (AV.fn _ [] []) _
  rw [VR]
  exact ⟨[],[],rfl,by rw [VRL],by rw [VRL]⟩
 ·cases hm
theorem Zi2 {k:K0} {n:Nat} {g:G} {s:St} {a:Act} {w:World} (h:Rel k n g s a w) {X:Operand} {x:IX} (hm:Zdu X x=true):top (ev s.fr x)=true:=by
 unfold Zdu at hm
 split at hm
 ·exact h.tops _
 ·have:=Zg8 (Zhw (c:=cx k g s.H w) hm).2
  rename_i v a'
  show top a'=true
  cases a'<;>first | rfl | simpa [top] using this
 ·rfl
 ·cases hm
theorem ZQ {k:K0} {n:Nat} {g:G} {s:St} {a:Act} {w:World} (h:Rel k n g s a w):∀ {Xs:List Operand} {xs:List IX},Z3 Xs xs=true →
  VRL (cx k g s.H w) (xs.map (ev s.fr)) (Xs.map a.eval)
 | [],[],_=>by simp [VRL]
 | X::Xs,x::xs,hm=>by
  simp only [Z3,Bool.and_eq_true] at hm
  simp only [List.map_cons]
  rw [VRL]
  exact ⟨_,_,rfl,Zbx h hm.1,ZQ h hm.2⟩
 | [],_::_,h=>by simp [Z3] at h
 | _::_,[],h=>by simp [Z3] at h
theorem Zbd {k:K0} {n:Nat} {g:G} {s:St} {a:Act} {w:World} (h:Rel k n g s a w):∀ {Xs:List Operand} {xs:List IX},Z3 Xs xs=true →
  ∀ v ∈ xs.map (ev s.fr),top v=true
 | [],[],_=>by simp
 | X::Xs,x::xs,hm=>by
  simp only [Z3,Bool.and_eq_true] at hm
  intro v hv
  simp only [List.map_cons,List.mem_cons] at hv
  rcases hv with rfl | hv
  ·exact Zi2 h hm.1
  ·exact Zbd h hm.2 v hv
 | [],_::_,h=>by simp [Z3] at h
 | _::_,[],h=>by simp [Z3] at h
theorem ZdZ {c:Cx} {x:AV} {vs:List Value} (h:VRL c [x] vs):∃ v,vs=[v]∧VR c x v:=by
 rw [VRL] at h
 obtain ⟨u,us,rfl,h1,h2⟩:=h
 rw [VRL] at h2
 subst h2
 exact ⟨u,rfl,h1⟩
theorem ZeG {c:Cx} {x y:AV} {vs:List Value} (h:VRL c [x,y] vs):∃ v u,vs=[v,u]∧VR c x v∧VR c y u:=by
 rw [VRL] at h
 obtain ⟨u,us,rfl,h1,h2⟩:=h
 obtain ⟨v,rfl,h3⟩:=ZdZ h2
 exact ⟨u,v,rfl,h1,h3⟩
theorem Ziz {c:Cx} {x y z:AV} {vs:List Value} (h:VRL c [x,y,z] vs):∃ v u t,vs=[v,u,t]∧VR c x v∧VR c y u∧VR c z t:=by
 rw [VRL] at h
 obtain ⟨u,us,rfl,h1,h2⟩:=h
 obtain ⟨v,t,rfl,h3,h4⟩:=ZeG h2
 exact ⟨u,v,t,rfl,h1,h3,h4⟩
theorem Zcd {c:Cx} {k:IntKind} {n:Int} {v:Value} (h:VR c (.p (.int k n)) v):v = .int k n:=by rw [VR,PR] at h;exact h
theorem Zjd {c:Cx} {b:Bool} {v:Value} (h:VR c (.p (.bool b)) v):v = .bool b:=by rw [VR,PR] at h;exact h
theorem Zc5 {c:Cx} (k:IntKind) (n:Int):VR c (.p (.int k n)) (.int k n):=by rw [VR,PR]
theorem Zdk {c:Cx} (b:Bool):VR c (.p (.bool b)) (.bool b):=by rw [VR,PR]
theorem ZqZ {P:Program} {w:World} {op:BinOp} {k:IntKind} {a b:Int} {r:PC} {t:TypeId} (h:binI op k a b=some r) :
  ∃ u,(binOp op t (.int k a) (.int k b)).run P w = .ok u w∧∀ c:Cx,VR c (.p r) u:=by
 unfold binI at h
 split at h<;>(try split at h)<;>first
  | cases h;done
  | (simp only [Option.some.injEq] at h;subst h;simp_all [binOp,Op.intArith,Op.intDiv,Op.intBits,Op.intCmp,VR,PR])
theorem run_shI {P:Program} {w:World} {op:BinOp} {k k':IntKind} {a b:Int} {r:PC} {t:TypeId} (h:shI op k a b=some r) :
  ∃ u,(binOp op t (.int k a) (.int k' b)).run P w = .ok u w∧∀ c:Cx,VR c (.p r) u:=by
 unfold shI at h
 split at h
 ·cases h
 ·rename_i hb
  split at h<;>first
   | cases h;done
   | (simp only [Option.some.injEq] at h;subst h;simp only [binOp,Op.shift,hb,if_false,Sem.run_pure];exact ⟨_,rfl,fun c=>by rw [VR,PR]⟩)
theorem ZnW {c:Cx} {o:Nat} {x r:AV} {v:Value} (h:Zjx o x=some r) (hv:VR c x v):∃ a,v = .pointer (some a)∧VR c r (.pointer (some (a.add o))):=by
 unfold Zjx at h
 split at h<;>first | (cases h;done) | (simp only [Option.some.injEq] at h;subst h)
 ·rw [VR] at hv
  obtain ⟨b,rfl,hb⟩:=hv
  exact ⟨_,rfl,by rw [VR];exact ⟨b,by rw [ZeM],hb⟩⟩
 ·rw [VR] at hv
  obtain ⟨cs,b,h1,h2,rfl⟩:=hv
  exact ⟨_,rfl,by rw [VR];exact ⟨cs,b,h1,h2,by rw [ZeM]⟩⟩
 ·rw [VR] at hv
  obtain ⟨ver0,frz,rows,b,h1,h2,rfl,h3⟩:=hv
  exact ⟨_,rfl,by rw [VR];exact ⟨ver0,frz,rows,b,h1,h2,by rw [ZeM,Nat.add_assoc],h3⟩⟩
 ·rw [VR] at hv
  obtain ⟨a,rfl,h1⟩:=hv
  exact ⟨_,rfl,by rw [VR];exact ⟨a,by rw [ZdY,Nat.add_assoc],h1⟩⟩
theorem Zhy {o:Nat} {x r:AV} (h:Zjx o x=some r):top r=true:=by
 unfold Zjx at h
 split at h<;>first | (cases h;done) | (simp only [Option.some.injEq] at h;subst h;rfl)
theorem Zje {c:Cx} {cs:List AV} {vs:List Value} (h:VRL c cs vs) (off m:Nat):VRL c ((cs.drop off).take m) ((vs.drop off).take m):=by
 have hl:=h.length
 rw [Zd0] at h ⊢
 refine ⟨by simp [hl],fun j x u hj hu => ?_⟩
 rw [List.getElem?_take] at hj hu
 split at hj
 ·rename_i hlt
  rw [if_pos hlt] at hu
  rw [List.getElem?_drop] at hj hu
  exact h.2 _ x u hj hu
 ·cases hj
theorem Zf3 {c:Cx} {xs ys:List AV} {us vs:List Value} (h:VRL c xs us) (h':VRL c ys vs):VRL c (xs++ys) (us++vs):=by
 have hl:=h.length
 have hl':=h'.length
 rw [Zd0] at h h' ⊢
 refine ⟨by simp [hl,hl'],fun j x u hj hu => ?_⟩
 by_cases hlt:j<xs.length
 ·rw [List.getElem?_append_left hlt] at hj
  rw [List.getElem?_append_left (by omega)] at hu
  exact h.2 j x u hj hu
 ·rw [List.getElem?_append_right (by omega)] at hj
  rw [List.getElem?_append_right (by omega),hl] at hu
  exact h'.2 _ x u hj hu
theorem Zo0 {c:Cx} {cs:List AV} {vs:List Value} (h:VRL c cs vs) (m:Nat):VRL c (cs.take m) (vs.take m):=by
 simpa using Zje h 0 m
theorem Zo1 {c:Cx} {cs:List AV} {vs:List Value} (h:VRL c cs vs) (m:Nat):VRL c (cs.drop m) (vs.drop m):=by
 have:=Zje h m (cs.length - m)
 rw [List.take_of_length_le (by simp)] at this
 rwa [List.take_of_length_le (by simp [h.length])] at this
theorem Zjf {c:Cx} {cs l l':List AV} {us vs:List Value} {off:Nat} (hs:Zbr off cs l=some l') (h:VRL c cs us) (h':VRL c l vs) :
  VRL c l' (vs.take off++us++vs.drop (off+us.length)):=by
 unfold Zbr at hs
 split at hs
 ·simp only [Option.some.injEq] at hs
  subst hs
  rw [h.length]
  exact Zf3 (Zf3 (Zo0 h' off) h) (Zo1 h' _)
 ·cases hs
theorem Zlw {xs ys:List AV}:ZO (xs++ys)=(ZO xs&&ZO ys):=by
 induction xs with
 | nil=>simp [ZO]
 | cons x xs ih=>simp [ZO,ih,Bool.and_assoc]
theorem Znt {xs:List AV} (h:ZO xs=true) (m:Nat):ZO (xs.take m)=true:=by
 rw [ZkH] at h ⊢
 exact fun x hx=>h x (List.mem_of_mem_take hx)
theorem Znu {xs:List AV} (h:ZO xs=true) (m:Nat):ZO (xs.drop m)=true:=by
 rw [ZkH] at h ⊢
 exact fun x hx=>h x (List.mem_of_mem_drop hx)
theorem Zdt {cs l l':List AV} {off:Nat} (hs:Zbr off cs l=some l') (h:ZO cs=true) (h':ZO l=true):ZO l'=true:=by
 unfold Zbr at hs
 split at hs
 ·simp only [Option.some.injEq] at hs
  subst hs
  simp [Zlw,Znt h',Znu h',h]
 ·cases hs
theorem Zq7 {c:Cx} {isAgg:Bool} {cs:List AV} {vs:List Value} {r:AV} (h:mk isAgg cs=some r) (hv:VRL c cs vs) :
  VR c r (if isAgg then .agg vs.toArray else vs.getD 0 undef):=by
 unfold mk at h
 split at h
 ·rename_i hb
  simp only [Option.some.injEq] at h
  subst h
  rw [if_pos hb,VR]
  exact ⟨vs,rfl,hv⟩
 ·rename_i hb
  rw [if_neg hb]
  split at h
  ·simp only [Option.some.injEq] at h
   subst h
   obtain ⟨v,rfl,h⟩:=ZdZ hv
   exact h
  ·cases h
theorem Ziq {isAgg:Bool} {cs:List AV} {r:AV} (h:mk isAgg cs=some r) (hn:noLocL cs=true):ZX r=true:=by
 unfold mk at h
 split at h
 ·simp only [Option.some.injEq] at h
  subst h
  simpa [ZX] using hn
 ·split at h
  ·simp only [Option.some.injEq] at h
   subst h
   simpa [ZX.noLocL] using hn
  ·cases h
theorem Zbb {xs:List AV}:noLocL xs=true↔∀ x ∈ xs,ZX x=true:=by
 induction xs with
 | nil=>simp [ZX.noLocL]
 | cons y ys ih=>simp [ZX.noLocL,ih]
theorem ZeZ {xs r:List AV} {off m:Nat} (h:noLocL xs=true) (hs:sub off m xs=some r):noLocL r=true:=by
 unfold sub at hs
 split at hs
 ·simp only [Option.some.injEq] at hs
  subst hs
  rw [Zbb] at h ⊢
  exact fun x hx=>h x (List.mem_of_mem_drop (List.mem_of_mem_take hx))
 ·cases hs
theorem ZM {x:AV} (h:ZX x=true):top x=true:=by
 cases x<;>first | rfl | simpa [top] using h
theorem Zci {P:Program} {w:World} {t:TypeId} {n:Nat} (h:ZcA P t n=true):(sizeOf t).run P w = .ok n w:=by
 unfold ZcA at h
 split at h
 ·rename_i i hi
  simp only [decide_eq_true_eq] at h
  simp [sizeOf,typeInfo,hi,h]
 ·cases h
theorem Zne {P:Program} {w:World} {t:TypeId} {b:Bool} (h:ZmS P t b=true):(isAgg t).run P w = .ok b w:=by
 unfold ZmS at h
 split at h
 ·rename_i hu;simp [isAgg,run_underlying hu,h]
 ·rename_i hu;simp [isAgg,run_underlying hu,h]
 ·rename_i d h1 h2 hu
  simp only [Bool.not_eq_true'] at h
  subst h
  unfold isAgg
  simp only [Sem.run_bind,run_underlying hu,Result.andThen_ok]
  rfl
 ·cases h
theorem Zoy {P:Program} {w:World} {t:TypeId} {off m:Nat} {isA:Bool} {cs:List Value} (h1:ZcA P t m=true) (h2:ZmS P t isA=true) (hle:off+m≤cs.length) (hm:isA=false→m=1) :
  (part t cs.toArray off).run P w = .ok (if isA then .agg ((cs.drop off).take m).toArray else ((cs.drop off).take m).getD 0 undef) w:=by
 unfold part
 simp only [Sem.run_bind,Zne h2,Result.andThen_ok]
 cases isA with
 | true =>
  simp only [if_true,Sem.run_bind,Zci h1,Result.andThen_ok,Sem.run_pure]
  congr 2
  apply Array.ext'
  simp [List.extract_eq_take_drop]
 | false =>
  have hm:=hm rfl
  subst hm
  have hlt:off<cs.length:=by omega
  simp [hlt,List.getD,List.getElem?_take,List.getElem?_drop]
end Go.Eng

