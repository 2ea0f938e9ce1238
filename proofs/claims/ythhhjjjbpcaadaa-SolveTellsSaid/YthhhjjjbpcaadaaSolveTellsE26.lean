/- Part of the proof. -/
import Derived.Test.YthhhjjjbpcaadaaSolveTellsE18
import Derived.Laws.StructEq
import Derived.KernelRfl
import Derived.Laws.IdiomRangeMap
import Derived.RecoverIn
set_option linter.all false
namespace Go.Eng
open Go
theorem ZnY {α:Type}{l:List α}{i:Nat}{x:α}(h:l[i]?=some x):i<l.length:=(List.getElem?_eq_some_iff.1 h).1
section
variable {P:Program} {n:Nat} {g:G} {s:St} {a:Act} {w:World}
end
end Go.Eng

namespace Go.Eng
open Go
theorem Zpx {α:Type}(n:Nat)(z:α)(l:List α)(h:l.length=n){m:List α}(e:m=(List.range n).map λi=>l.getD i z):m=l:=by
 subst e
 apply List.ext_getElem?
 intro i
 rw [Zy]
 by_cases hi:i<n
 ·rw [List.getElem?_range hi,Zw (by omega)]
  simp [Zq,Zw (show i<l.length by omega)]
 rw [Zx (l:=List.range n) (by simp;omega),Zx (by omega)];rfl
theorem ZjT {α:Type}{l:List α}{i:Int}{e:α}(h:idx l i=some e):0<=i/\i.toNat<l.length/\l[i.toNat]?=some e:=by
 unfold idx at h
 split at h
 ·rename_i h0
  exact ⟨h0,(List.getElem?_eq_some_iff.1 h).1,h⟩
 cases h
theorem Zc9 {α:Type}{l:List α}{i:Int}{e:α}{t off n sz:Nat}{k:IntKind}(h:idx l i=some e)(hn:l.length=n) :
  ZaE (.iaddr n sz) [.loc t off,.p (.int k i)]=some (.loc t (off+i.toNat*sz)):=by
 obtain ⟨h0,h1,_⟩:=ZjT h
 simp only [ZaE]
 rw [Z3 ⟨h0,by omega⟩]
 rfl
theorem Zpm {α:Type}{l:List α}{i:Int}{e:α}{off:Nat}(f:α->AV)(pre post:List AV)(h:idx l i=some e)(hp:pre.length=off){cs:List AV}(hc:cs=pre++(l.map f++post)) :
  sub (off+i.toNat*1) 1 cs=some [f e]:=by
 obtain ⟨h0,h1,h2⟩:=ZjT h
 subst hc hp
 unfold sub
 rw [Z3 (by simp;omega)]
 have e1:(pre++(l.map f++post))[pre.length+i.toNat*1]?=some (f e):=by
  rw [Zs (by omega),show pre.length+i.toNat*1-pre.length=i.toNat by omega,Zr (by simpa using h1),Zy,h2]
  rfl
 congr 1
 have:=List.drop_eq_getElem_cons (ZnY e1)
 rw [this]
 have e2:(pre++(l.map f++post))[pre.length+i.toNat*1]'(ZnY e1)=f e:=by
  rw [Zw (ZnY e1)] at e1
  simpa using e1
 rw [e2]
 simp
theorem Zmy {α:Type}{l:List α}{i:Int}{e y:α}{off:Nat}(f:α->AV)(pre post:List AV)(h:idx l i=some e)(hp:pre.length=off){cs vs cs':List AV}(hc:cs=pre++(l.map f++post))(hv:vs=[f y])
  (hc':cs'=pre++((l.set i.toNat y).map f++post)):Zbf (off+i.toNat*1) vs cs=some cs':=by
 obtain ⟨h0,h1,h2⟩:=ZjT h
 subst hc hp hv hc'
 unfold Zbf
 rw [Z3 (by simp;omega)]
 congr 1
 rw [Nat.mul_one,List.take_append,List.take_of_length_le (by omega),show pre.length+i.toNat-pre.length=i.toNat by omega,List.take_append_of_le_length (by simp;omega)]
 simp only [Zn]
 congr 1
 rw [List.drop_append,List.drop_eq_nil_of_le (by simp;omega),ZN,show pre.length+i.toNat+[f y].length-pre.length=i.toNat+1 by simp;omega,
  List.drop_append_of_le_length (by simp;omega),← Zn,← Zn]
 congr 1
 rw [List.map_set,List.set_eq_take_append_cons_drop,Z3 (by simpa using h1)]
 simp
theorem Zog {X Y:List AV}{pre post cs':List AV}(h:X=Y)(hc:cs'=pre++(X++post)):cs'=pre++(Y++post):=h ▸ hc
section
variable {P:Program} {n:Nat} {s:St}
theorem Zhx {α:Type}{l:List α}{i:Int}{e:α}{d t off:Nat}{x:IX}{cs:List AV}(f:α->AV)(pre post:List AV)(h:idx l i=some e)(hx:ev s.fr x=.loc t (off+i.toNat*1))(hb:bget s.bx t=some cs)
  (hc:cs=pre++(l.map f++post)) (hp:pre.length=off) (hok:Zcu (f e)=true:=by rfl):Zan P (.load d x 1 false) s ⟨put s.fr d (f e),s.bx,s.H⟩:=by
 have hs:=Zpm f pre post h hp hc
 simp only [Zan,Zax,hx,rd,hb,ZT,hs,Zap,hok,Bool.and_self,Z4,mk,ZV,Zg,Z1]
theorem ZiL {α:Type}{l:List α}{i:Int}{e y:α}{t off:Nat}{x z:IX}{cs cs':List AV}(f:α->AV)(pre post:List AV)(h:idx l i=some e)(hx:ev s.fr x=.loc t (off+i.toNat*1))(hz:ev s.fr z=f y)(hb:bget s.bx t=some cs)
  (hc:cs=pre++(l.map f++post)) (hp:pre.length=off) (hc':cs'=pre++((l.set i.toNat y).map f++post)) (hcell:cellsOf (f y)=[f y]:=by rfl) (hok:Zcu (f y)=true:=by rfl) :
  Zan P (.store x z 1) s ⟨s.fr,bput s.bx t cs',s.H⟩:=by
 have hs:=Zmy f pre post h hp hc rfl hc'
 simp only [Zan,Zax,hx,hz,wrt,hb,ZT,hcell,hs,Zap,hok,Bool.and_self,ZV,ZI,and_self,Z4]
theorem ZlU {x y:IX}{m:Nat}{s':St}(h:Zan P (.store x y m) s s')(hl:ZjS (ev s.fr x)=false):Zan P (.storeH x y m) s s':=by
 simp only [Zan,Zax] at h ⊢
 split at h
 ·rename_i hc;rw [Z3 ⟨hl,hc⟩];exact h
 cases h
end
end Go.Eng

namespace Go.Eng
open Go Go.MapKept
abbrev Ent:=List (List Int×AV)
def Zh3 (es:Ent)(ks:List Int):Option AV:=(es.find? (λp=>decide (p.1=ks))).map (·.2)
def mset (es:Ent)(ks:List Int)(v:AV):Ent:=match es with
 | []=>[(ks,v)]
 | p::r=>if p.1=ks then (ks,v)::r else p::mset r ks v
def keyA (kn:Nat)(ks:List Int):AV:=if kn=0 then .p (.int .i64 (ks.headD 0)) else .agg (ks.map λn=>.p (.int .i64 n))
def fEnt:Ent->List MapEntry->List Int->Nat->Option (Nat×Value)
 | p::es,e::ents,ks,i=>if p.1=ks then some (i,e.val) else fEnt es ents ks (i+1)
 | _,_,_,_=>none
theorem ZnR {c:Cx}{kn:Nat}{ks:List Int}{v:Value}(h:VR c (keyA kn ks) v):v=keyV kn ks:=by
 unfold keyA at h
 unfold keyV
 split at h
 ·rename_i e;rw [Z3 e];exact ZbJ h
 rename_i e
 rw [Z2 e]
 rw [VR] at h
 obtain ⟨vs,rfl,h⟩:=h
 congr 1
 have:vs=ks.map (Value.int .i64):=by
  clear e
  induction ks generalizing vs with
  | nil=>rw [ZL,VRL] at h;exact h
  | cons x xs ih =>
   rw [ZK,VRL] at h
   obtain ⟨u,us,rfl,h1,h2⟩:=h
   rw [ZbJ h1,ih us h2];rfl
 rw [this]
theorem Zj6 {c:Cx}:∀ (ks:List Int),VRL c (ks.map λn=>.p (.int .i64 n)) (ks.map (Value.int .i64))
 | []=>by simp [VRL]
 | x::xs=>by rw [ZK,ZK,VRL];exact ⟨_,_,rfl,Zcb _ _,Zj6 xs⟩
theorem ZgX:∀ (as bs:List Int),as.length=bs.length->∀ ks:List Bool,ks=as.map (λ_=>true) →
  Zbn ks (as.map λn=>.p (.int .i64 n)) (bs.map λn=>.p (.int .i64 n))=some (decide (as=bs))
 | [],[],_,ks,e=>by subst e;rfl
 | a::as,b::bs,h,ks,e=>by
  subst e
  have:=ZgX as bs (by simpa using h) _ rfl
  simp only [ZK,Zbn,Z4,this,ZV]
  congr 1
  by_cases h1:a=b<;>by_cases h2:as=bs<;>simp [h1,h2]
 | [],_::_,h,_,_=>by simp at h
 | _::_,[],h,_,_=>by simp at h
section
variable {P:Program}
theorem ZgV {w:World}{kk:IntKind}:∀ (es:Ent) (ents:List MapEntry) (ks:List Int) (i:Nat),ents.map (·.key)=es.map (λp=>keyV 0 p.1)->(∀ p∈es,p.1.length=1)->ks.length=1 →
  Instr.findNow (.int kk) (keyV 0 ks) ents i=some (fEnt es ents ks i)
 | [],[],ks,i,_,_,_=>rfl
 | p::es,e::ents,ks,i,h,hl,hk=>by
  simp only [ZK,Zo] at h
  obtain ⟨x,hx⟩:=List.length_eq_one_iff.1 hk
  obtain ⟨y,hy⟩:=List.length_eq_one_iff.1 (hl p (by simp))
  have ih:=ZgV (w:=w) (kk:=kk) es ents ks (i+1) h.2 (λq hq=>hl q (by simp [hq])) hk
  unfold Instr.findNow fEnt
  rw [h.1]
  subst hx
  rw [hy]
  simp only [keyV,Z4,List.headD_cons,Instr.sameNow]
  by_cases e1:y=x
  ·subst e1;simp
  have e2:(x==y)=false:=by simp [Ne.symm e1]
  have e3:¬ ([y]=[x]):=by simp [e1]
  rw [Z2 e3,e2]
  exact ih
 | [],_::_,_,_,h,_,_=>by simp at h
 | _::_,[],_,_,h,_,_=>by simp at h
theorem Zd3 {w:World}{kt:TypeId}{kn:Nat}(h0:kn≠0){ks0:List Bool}(hq:eqOK P kt ks0=true)(hks:ks0.length=kn)(ht:∀ b∈ks0,b=true) :
  ∀ (es:Ent) (ents:List MapEntry) (ks:List Int) (i:Nat),ents.map (·.key)=es.map (λp=>keyV kn p.1)->(∀ p∈es,p.1.length=kn)->ks.length=kn →
  (Instr.findAsking kt (keyV kn ks) ents i).run P w=.ok (fEnt es ents ks i) w
 | [],[],ks,i,_,_,_=>rfl
 | p::es,e::ents,ks,i,h,hl,hk=>by
  simp only [ZK,Zo] at h
  have ih:=Zd3 (w:=w) h0 hq hks ht es ents ks (i+1) h.2 (λq hq=>hl q (by simp [hq])) hk
  have hp:=hl p (by simp)
  have hks0:ks0=ks.map (λ_=>true):=by
   refine List.ext_getElem (by simp [hks,hk]) λj h1 h2=>?_
   simp [ht _ (List.getElem_mem h1)]
  have hrun:(Op.equal kt (keyV kn ks) (keyV kn p.1)).run P w=.ok (decide (ks=p.1)) w:=by
   simp only [keyV,Z2 h0]
   exact Zfw (c:=⟨λ_=>True,w,[],[],noB⟩) hq (ZgX ks p.1 (by rw [hk,hp]) ks0 hks0) (Zj6 ks) (Zj6 p.1)
  unfold Instr.findAsking fEnt
  rw [h.1]
  simp only [Sem.run_bind,hrun,Result.andThen_ok]
  by_cases e1:p.1=ks
  ·rw [Z3 e1];simp [e1]
  have e2:¬ ks=p.1:=λe=>e1 e.symm
  rw [Z2 e1];simp only [e2,decide_false,Zg,Z1];exact ih
 | [],_::_,_,_,h,_,_=>by simp at h
 | _::_,[],_,_,h,_,_=>by simp at h
theorem Zh5 {kt:TypeId}{kn:Nat}(h:Zlw P kt kn=true):(kn=0/\∃ kk,P.underlying kt=some (.int kk)) ∨
  (kn≠0/\∃ fs ks0,P.underlying kt=some (.struct fs)/\eqOK P kt ks0=true/\ks0.length=kn/\(∀ b∈ks0,b=true)/\Zb2 P 0 fs.toList ks0=true):=by
 unfold Zlw at h
 split at h
 ·rename_i kk hu;exact .inl ⟨by simpa using h,kk,hu⟩
 ·rename_i fs hu
  simp only [Ze,Z0] at h
  obtain ⟨⟨⟨h1,h2⟩,_⟩,h3⟩:=h
  refine .inr ⟨h2,fs,_,hu,h3,by simp [h1],by simp,?_⟩
  simp only [eqOK,Ze,hu] at h3
  exact h3.1.1
 cases h
theorem Zit {fs:Array Field}{a b:Value}:Instr.sameNow (.struct fs) a b=none:=by
 unfold Instr.sameNow;rfl
theorem Zfv {w:World}{kt:TypeId}{kn:Nat}(h:Zlw P kt kn=true){es:Ent}{ents:List MapEntry}{ks:List Int}(he:ents.map (·.key)=es.map (λp=>keyV kn p.1))(hl:∀ p∈es,p.1.length=klen kn)(hk:ks.length=klen kn) :
  (Instr.findKey kt (keyV kn ks) ents).run P w=.ok (fEnt es ents ks 0) w:=by
 rcases Zh5 h with ⟨rfl,kk,hu⟩|⟨h0,fs,ks0,hu,hq,hks,ht,_⟩
 ·unfold Instr.findKey
  simp only [Sem.run_bind,run_underlying hu,Result.andThen_ok,ZgV (w:=w) es ents ks 0 he hl hk]
  rfl
 have hkl:klen kn=kn:=by simp [klen,h0]
 rw [hkl] at hl hk
 have hask:=Zd3 (w:=w) h0 hq hks ht es ents ks 0 he hl hk
 unfold Instr.findKey
 simp only [Sem.run_bind,run_underlying hu,Result.andThen_ok]
 cases ents with
 | nil =>
  cases es with
  | nil=>rfl
  | cons=>simp at he
 | cons e ents =>
  unfold Instr.findNow
  rw [Zit]
  exact hask
theorem Zii {w:World}{m:Nat}{b0:Bool}:∀ (fs:List Field) (ks0:List Bool) (off:Nat) (cs:Array Value) (ks:List Int),Zb2 P off fs ks0=true->(∀ b∈ks0,b=true)->cs.toList.drop off=ks.map (Value.int .i64)->ks.length=ks0.length →
  (forIn fs PUnit.unit λf (_:PUnit)=>(do
    if f.name ≠ "_" then
     let x ← part f.type cs f.offset
     Instr.checkKey b0 (m+1) f.type x
     pure (ForInStep.yield PUnit.unit)
    else pure (ForInStep.yield PUnit.unit):Sem _)).run P w=.ok PUnit.unit w
 | [],ks0,off,cs,ks,_,_,_,_=>rfl
 | f::fs,k::ks0,off,cs,x::ks,hf,ht,hc,hl=>by
  simp only [Zb2,Ze,Zh,Z0,beq_eq_false_iff_ne] at hf
  obtain ⟨⟨⟨hn,ho⟩,hk⟩,hf⟩:=hf
  obtain rfl:k=true:=ht k (by simp)
  have hxo:cs[f.offset]?=some (.int .i64 x):=by
   have:=congrArg (·[0]?) hc
   simpa [ho] using this
  have hx':cs.toList.drop (off+1)=ks.map (Value.int .i64):=by
   have:=congrArg List.tail hc
   simpa using this
  have ih:=Zii (w:=w) (m:=m) (b0:=b0) fs ks0 (off+1) cs ks hf (λb hb=>ht b (by simp [hb])) hx' (by simpa using hl)
  cases hty:P.underlying f.type with
  | none=>simp [hty] at hk
  | some T =>
   cases T<;>simp [hty] at hk
   rename_i kk
   have hpl:P.plainKey f.type=true:=by simp [Program.plainKey,hty]
   have h1:=run_part_plain (P:=P) w hpl hxo
   simp only [List.forIn_cons,Sem.run_bind,hn,ne_eq,not_false_eq_true,Z4,h1,Result.andThen_ok,Instr.checkKey,run_underlying hty,Sem.run_pure]
   exact ih
 | _::_,[],_,_,_,hf,_,_,_=>by simp [Zb2] at hf
 | _::_,_::_,_,_,[],_,_,_,hl=>by simp at hl
theorem ZeT {w:World}{kt:TypeId}{kn:Nat}(h:Zlw P kt kn=true){ks:List Int}(hk:ks.length=klen kn)(b:Bool)(m:Nat) :
  (Instr.checkKey b (m+2) kt (keyV kn ks)).run P w=.ok () w:=by
 rcases Zh5 h with ⟨rfl,kk,hu⟩|⟨h0,fs,ks0,hu,hq,hks,ht,hfl⟩
 ·simp [Instr.checkKey,run_underlying hu,keyV]
 have hkl:ks.length=ks0.length:=by rw [hk,hks];simp [klen,h0]
 have:=Zii (w:=w) (m:=m) (b0:=b) fs.toList ks0 0 (ks.map (Value.int .i64)).toArray ks hfl ht (by simp) hkl
 unfold Instr.checkKey
 simp only [Sem.run_bind,run_underlying hu,Result.andThen_ok,keyV,Z2 h0]
 rw [← Array.forIn_toList]
 simp only [ne_eq,ite_not,bind_pure_comp] at this ⊢
 rw [this]
 rfl
theorem ZoX {kn:Nat}{a b:List Int}(ha:a.length=klen kn)(hb:b.length=klen kn)(h:keyV kn a=keyV kn b):a=b:=by
 unfold keyV klen at *
 split at h
 ·rename_i e
  rw [Z3 e] at ha hb
  obtain ⟨x,rfl⟩:=List.length_eq_one_iff.1 ha
  obtain ⟨y,rfl⟩:=List.length_eq_one_iff.1 hb
  simpa using h
 simp only [Value.agg.injEq] at h
 have h2:=congrArg Array.toList h
 simp only [List.toList_toArray] at h2
 refine List.map_inj_right (λx y e=>?_) |>.1 h2
 simpa using e
theorem Zf0:∀ (ks:List Int) (n:Nat),((ks.map (Value.int .i64)).zip (ks.map (Value.int .i64))).all (λ(x,y)=>Instr.sameBits n x y)=true
 | [],_=>rfl
 | x::xs,n=>by
  simp only [ZK,List.zip_cons_cons,List.all_cons,Ze]
  exact ⟨by simp [Instr.sameBits],Zf0 xs n⟩
theorem Zki (kn:Nat)(ks:List Int)(n:Nat):Instr.sameBits (n+1) (keyV kn ks) (keyV kn ks)=true:=by
 unfold keyV
 split
 ·simp [Instr.sameBits]
 have:=Zf0 ks n
 simp only [Instr.sameBits,beq_self_eq_true,Zj,List.toList_toArray]
 exact this
theorem Zkj {w:World}(kn:Nat)(ks:List Int):(Instr.keyThatStays (keyV kn ks) (keyV kn ks)).run P w=.ok (keyV kn ks) w:=by
 simp [Instr.keyThatStays,Zki kn ks 9999]
theorem Zie {c:Cx}:∀ {es:Ent} {ents:List MapEntry} {ks:List Int} {i:Nat},es.length=ents.length->fEnt es ents ks i=none->Zh3 es ks=none/\(∀ p∈es,p.1≠ks)/\∀ v,mset es ks v=es++[(ks,v)]
 | [],[],ks,i,_,_=>⟨rfl,by simp,λ_=>rfl⟩
 | p::es,e::ents,ks,i,hl,h=>by
  unfold fEnt at h
  split at h
  ·cases h
  rename_i hne
  obtain ⟨h1,h2,h3⟩:=Zie (c:=c) (es:=es) (ents:=ents) (by simpa using hl) h
  refine ⟨?_,?_,λv=>?_⟩
  ·simp only [Zh3,List.find?_cons,hne,decide_false] at h1 ⊢;exact h1
  ·intro q hq
   rcases List.mem_cons.1 hq with rfl|hq
   ·exact hne
   exact h2 q hq
  simp only [mset,Z2 hne,h3 v,Zp]
 | [],_::_,_,_,hl,_=>by simp at hl
 | _::_,[],_,_,hl,_=>by simp at hl
theorem Zid {c:Cx}:∀ {es:Ent} {ents:List MapEntry} {ks:List Int} {i j:Nat} {u:Value},VRL c (es.map (·.2)) (ents.map (·.val))->fEnt es ents ks i=some (j,u) →
  ∃ x q e,Zh3 es ks=some x/\VR c x u/\j=i+q/\es[q]?=some (ks,x)/\ents[q]?=some e/\∀ v,mset es ks v=es.set q (ks,v)
 | p::es,e::ents,ks,i,j,u,hv,h=>by
  simp only [ZK] at hv
  rw [VRL] at hv
  obtain ⟨u0,us,e1,hv1,hv2⟩:=hv
  simp only [Zo] at e1
  obtain ⟨rfl,rfl⟩:=e1
  unfold fEnt at h
  split at h
  ·rename_i hp
   simp only [ZW,ZX] at h
   obtain ⟨rfl,rfl⟩:=h
   refine ⟨p.2,0,e,?_,hv1,rfl,?_,rfl,λv=>?_⟩
   ·simp [Zh3,List.find?_cons,hp]
   ·simp [← hp]
   simp [mset,hp]
  rename_i hp
  obtain ⟨x,q,e',h1,h2,h3,h4,h5,h6⟩:=Zid (es:=es) (ents:=ents) hv2 h
  refine ⟨x,q+1,e',?_,h2,by omega,by simpa using h4,by simpa using h5,λv=>?_⟩
  ·simp only [Zh3,List.find?_cons,hp,decide_false] at h1 ⊢;exact h1
  simp [mset,hp,h6 v]
 | [],_,_,_,_,_,_,h=>by simp [fEnt] at h
 | _::_,[],_,_,_,_,_,h=>by simp [fEnt] at h
theorem ZoQ {kn:Nat}{es:Ent}{ks:List Int}{v:AV}(h:∀ p∈es,p.1.length=klen kn)(hk:ks.length=klen kn):∀ p∈mset es ks v,p.1.length=klen kn:=by
 induction es with
 | nil=>simpa [mset] using hk
 | cons p r ih =>
  unfold mset
  intro q hq
  split at hq
  ·rcases List.mem_cons.1 hq with rfl|hq
   ·exact hk
   exact h q (by simp [hq])
  rcases List.mem_cons.1 hq with rfl|hq
  ·exact h _ (by simp)
  exact ih (λp hp=>h p (by simp [hp])) q hq
theorem ZpA {es:Ent}{ks:List Int}{v:AV}(h:Zap (es.map (·.2))=true)(hv:Zcu v=true):Zap ((mset es ks v).map (·.2))=true:=by
 induction es with
 | nil=>simp [mset,Zap,hv]
 | cons p r ih =>
  simp only [ZK,Zap,Ze] at h
  unfold mset
  split
  ·simp only [ZK,Zap,hv,h.2,Bool.and_self]
  simp only [ZK,Zap,h.1,ih h.2,Bool.and_self]
def mapL:LC:=⟨[],0,λ_ _=>True,true⟩
end
section
variable {P:Program} {k:K0} {n:Nat} {g:G} {s:St} {a:Act} {w:World}
theorem Rel.setMp (h:Rel k n g s a w){id l:Nat}{L:LC}{fr:List (Nat×AV)}{st st':LS}{es:Array MapEntry}{m:Nat}{o':Obj}(hH:s.H[id]?=some (.lp L fr st))(hρ:g.ρ[id]?=some l)(hr:w.heap[l]?=some (.map es m))
  (ho:ZaG (cx k g s.H w) (cx k g (s.H.set id (.lp L fr st')) (w.putObj l o'))->HoR (cx k g (s.H.set id (.lp L fr st')) (w.putObj l o')) l (.lp L fr st')) :
  Rel k n g ⟨s.fr,s.bx,s.H.set id (.lp L fr st')⟩ a (w.putObj l o'):=by
 have u:Off w (w.putObj l o') l:=.put _ (λvs e f h=>by rw [hr] at h;cases h)
 have hget:=getElem?_set' (y:=HO.lp L fr st') hH
 have hlt:l<w.heap.size:=(Array.getElem?_eq_some_iff.1 hr).1
 have hl:ZaG (cx k g s.H w) (cx k g (s.H.set id (.lp L fr st')) (w.putObj l o')):=
  {stay:=λa x ho hc=>by
    refine ⟨u.cell hc,ho.1,ho.2.1,λj hj=>?_⟩
    obtain ⟨sz,ver,rows,h1,h2⟩:=ho.2.2 j hj
    refine ⟨sz,ver,rows,?_,h2⟩
    rw [hget,Z2 (λe=>by subst e;rw [hH] at h1;cases h1)]
    exact h1
   arr:=λj sz ver frz rows e=>by
    have e':s.H[j]?=some (.arr sz ver frz rows):=e
    refine ⟨ver,frz,rows,?_,Nat.le_refl _,λ_=>⟨Nat.le_refl _,rfl,λb vs _ hb=>⟨vs,u.blk hb,rfl⟩⟩⟩
    show (s.H.set id _)[j]?=_
    rw [hget,Z2 (λe1=>by subst e1;rw [hH] at e';cases e')];exact e'
   cells:=λj cs e=>by
    have e':s.H[j]?=some (.cells cs):=e
    refine ⟨⟨cs,?_⟩,rfl⟩
    show (s.H.set id _)[j]?=_
    rw [hget,Z2 (λe1=>by subst e1;rw [hH] at e';cases e')];exact e'
   lp:=λj L' fr' st1 e=>by
    have e':s.H[j]?=some (.lp L' fr' st1):=e
    refine ⟨?_,rfl⟩
    by_cases hj:id=j
    ·subst hj
     rw [hH] at e'
     cases e'
     exact ⟨st',by show (s.H.set id _)[id]?=_;rw [hget,Z3 rfl]⟩
    exact ⟨st1,by show (s.H.set id _)[j]?=_;rw [hget,Z2 hj];exact e'⟩ }
 have hobj:∀ b,b≠l->∀ o,w.heap[b]?=some o->(w.putObj l o').heap[b]?=some o:=λb hb o ho=>(u.block b hb).trans ho
 exact
  {defers:=h.defers.mono λD _ hD=>hobj D (λe=>by subst e;rw [hr] at hD;cases hD) _ hD
   rnd:=λl' hl'=>by
    obtain ⟨r1,h1⟩:=h.rnd l' hl'
    exact ⟨r1,hobj l' (λe=>by subst e;rw [hr] at h1;cases h1) _ h1⟩
   tsz:=h.tsz
   slots:=λt=>ZaS hl (λ_ _ e=>e) (h.tops t) (h.slots t)
   tops:=h.tops
   boxes:=λt cs e=>let ⟨b,hb,hr'⟩:=h.boxes t cs e; ⟨b,hb,hr'.later hl (hobj b (λe=>by
    subst e;obtain ⟨_,vs,⟨et,hr'⟩,_⟩:=hr';rw [show w.heap[b]?=_ from hr'] at hr;cases hr))⟩
   boxed:=h.boxed
   heap:=λj o e=>by
    simp only [hget] at e
    by_cases hj:id=j
    ·subst hj
     simp only [Z4,ZW] at e
     subst e
     exact ⟨l,hρ,ho hl⟩
    simp only [hj,Z1] at e
    obtain ⟨b,hb,hr'⟩:=h.heap j o e
    exact ⟨b,hb,hr'.later hl (hobj b (λe=>hj (h.inj id j l hρ (by rw [← e];exact hb))))⟩
   len:=by simp [h.len]
   inj:=h.inj
   binj:=h.binj
   apart:=h.apart
   own:=h.own
   keep:=h.keep.off u (h.own id l hρ)
   hist:=h.hist.trans hl }
theorem Znp {q:SpK}{s s':St}{d:Option Nat}{xs:List IX}{v:AV}{H':List HO}(hv:ZaA v=true)
  (h:∀ (k:K0) (n:Nat) (g:G) (t:St) (a:Act) (w:World) (o:Oper) (d:Option Nat) (ys:List IX),ys.map (ev t.fr)=xs.map (ev s.fr)->t.H=s.H->Rel k n g t a w->ZjY P n o d q ys=true->Did P k n ⟨Eng.putO t.fr d v,t.bx,H'⟩ a w o)
  (hs:s'=⟨Eng.putO s.fr d v,s.bx,H'⟩):Zan P (.sp d q xs) s s':=⟨v,H',⟨hv,h⟩,hs⟩
theorem ZnF (h:Rel k n g s a w){X:List Operand}{xs:List IX}{ys:List AV}(hm:ZaC X xs=true)(he:xs.map (ev s.fr)=ys):VRL (cx k g s.H w) ys (X.map a.eval):=by
 rw [← he];exact Zat h hm
theorem ZoB {s s':St}{d:Option Nat}(kn:Nat)(hs:s'=⟨Eng.putO s.fr d (.map s.H.length),s.bx,s.H++[.lp mapL [] (.mp kn [])]⟩):Zan P (.sp d .mkMap []) s s':=by
 refine Znp rfl ?_ hs
 intro k n g t a w o d ys _ hH h hc
 rw [← hH]
 simp only [ZjY,Ze,Z0] at hc
 obtain ⟨⟨hd,hdn⟩,hc⟩:=hc
 split at hc
 ·rename_i ty hop
  have ho:HoR (cx k ⟨g.ρ++[w.heap.size],g.β⟩ (t.H++[.lp mapL [] (.mp kn [])]) (w.alloc (.map #[] 0))) w.heap.size (.lp mapL [] (.mp kn [])):=
   .inr ⟨rfl,rfl,(by simp),#[],0,World.alloc_heap_new w _,stamped_empty 0,rfl,(by simp [VRL])⟩
  obtain ⟨h1,hl⟩:=h.newObjG (o:=.lp mapL [] (.mp kn [])) (.map #[] 0) ho
  refine ⟨.map (some w.heap.size),w.alloc (.map #[] 0),⟨g.ρ++[w.heap.size],g.β⟩,.inl ?_,?_⟩
  ·simp [execOp,hop,Instr.makeMap]
  rw [hd]
  refine h1.putO hdn ?_ rfl
  rw [VR]
  refine ⟨mapL,[],.mp kn [],w.heap.size,?_,rfl,?_,rfl⟩
  ·show (t.H++[_])[t.H.length]?=_;simp
  show (g.ρ++[_])[t.H.length]?=_;rw [← h.len];simp
 cases hc
def mres (ok:Bool)(es:Ent)(ks:List Int)(zero:AV):AV:=if ok then .tup [(Zh3 es ks).getD zero,.p (.bool (Zh3 es ks).isSome)] else (Zh3 es ks).getD zero
theorem Rel.theMp (h:Rel k n g s a w){id:Nat}{L:LC}{fr:List (Nat×AV)}{kn:Nat}{es:Ent}(hH:s.H[id]?=some (.lp L fr (.mp kn es))){v:Value}(hv:VR (cx k g s.H w) (.map id) v)(hn:L.n=0) :
  L.mpk=true/\∃ b,g.ρ[id]?=some b/\v=.map (some b)/\MpR (cx k g s.H w) b (.mp kn es):=by
 rw [VR] at hv
 obtain ⟨L',fr',st',b,h1,h2,h3,h4⟩:=hv
 have h1':s.H[id]?=some (.lp L' fr' st'):=h1
 rw [hH] at h1'
 cases h1'
 obtain ⟨b',hb',hq⟩:=h.heap id _ hH
 have h3':g.ρ[id]?=some b:=h3
 rw [h3'] at hb'
 cases hb'
 rcases hq with ⟨q,_⟩|⟨_,q⟩
 ·rw [h2] at q;cases q
 exact ⟨h2,b,h3',by rw [h4,mapV,Z3 hn],q⟩
theorem Znn {s s':St}{d:Option Nat}{xs:List IX}{id kn:Nat}{L:LC}{fr:List (Nat×AV)}{es:Ent}{ks:List Int}{ok:Bool}{zero r:AV}(hy:xs.map (ev s.fr)=[.map id,keyA kn ks])
  (hH:s.H[id]?=some (.lp L fr (.mp kn es))) (hk:ks.length=klen kn) (hr:r=mres ok es ks zero) (hno:ZaA r=true) (hs:s'=⟨Eng.putO s.fr d r,s.bx,s.H⟩) (hn:L.n=0:=by rfl):Zan P (.sp d (.mapGet kn ok zero) xs) s s':=by
 refine Znp hno ?_ hs
 intro k n g t a w o d ys hys hHt h hc
 rw [hy] at hys
 rw [← hHt] at hH ⊢
 simp only [ZjY,Ze,Z0] at hc
 obtain ⟨⟨hd,hdn⟩,hc⟩:=hc
 split at hc
 ·rename_i ty X Y ok' hop
  simp only [Ze,Z0] at hc
  obtain ⟨⟨rfl,hty⟩,hm⟩:=hc
  split at hty
  ·rename_i kt et hu
   simp only [Ze] at hty
   obtain ⟨hkey,hz⟩:=hty
   obtain ⟨u1,u2,e,v1,v2⟩:=Zdq (ZnF h hm hys)
   simp only [ZK,ZL,Zo,ZY] at e
   have e2:=ZnR v2
   obtain ⟨_,b,hb,e1,hok,hlen,ents,clock,q1,q2,q3,q4⟩:=h.theMp hH v1 hn
   have hz':∃ z,(zeroValue et).run P w=.ok z w/\VR (cx k g t.H w) zero z:=by
    split at hz
    ·rename_i i hi
     split at hz
     ·rename_i z hz0
      exact ⟨z,by simp [zeroValue,typeInfo,hi,hz0],(Zfo hz).1⟩
     cases hz
    cases hz
   obtain ⟨z,hz1,hz2⟩:=hz'
   have hgo:(getObj b).run P w=.ok (.map ents clock) w:=MapKept.run_getObj_map (w:=w) q1
   have hck:=ZeT (w:=w) hkey hk ents.isEmpty 9998
   have hfk:=Zfv (w:=w) hkey q3 hlen hk
   have hrun:∀ u:Value,u=(match fEnt es ents.toList ks 0 with
     | some (_,v)=>if ok then Value.tuple #[v,.bool true] else v
     | none=>if ok then Value.tuple #[z,.bool false] else z)->(execOp a.eval o).run P w=.ok (.value u) w:=by
    intro u hu'
    simp only [execOp,hop,e.1,e.2,e1,e2,Instr.lookup,Sem.run_bind,run_underlying hu,Result.andThen_ok,hgo,hck,hfk,Sem.run_pure]
    subst hu'
    cases hf:fEnt es ents.toList ks 0 with
    | none=>cases ok<;>simp [hz1]
    | some p=>cases ok<;>simp
   have hlen2:es.length=ents.toList.length:=by
    have:=congrArg List.length q3
    simpa using this.symm
   refine ⟨_,w,g,.inl (hrun _ rfl),?_⟩
   rw [hd]
   refine h.putO hdn ?_ (Zaq hno)
   subst hr
   cases hf:fEnt es ents.toList ks 0 with
   | none =>
    obtain ⟨m1,_,_⟩:=Zie (c:=cx k g t.H w) hlen2 hf
    unfold mres
    rw [m1]
    cases ok
    ·exact hz2
    simp only [Z4]
    rw [VR]
    exact ⟨[z,.bool false],rfl,by rw [VRL];exact ⟨_,_,rfl,hz2,by rw [VRL];exact ⟨_,_,rfl,Zcm _,by rw [VRL]⟩⟩⟩
   | some p =>
    obtain ⟨j,u⟩:=p
    obtain ⟨x,q,e',m1,m2,_⟩:=Zid q4 hf
    unfold mres
    rw [m1]
    cases ok
    ·exact m2
    simp only [Z4]
    rw [VR]
    exact ⟨[u,.bool true],rfl,by rw [VRL];exact ⟨_,_,rfl,m2,by rw [VRL];exact ⟨_,_,rfl,Zcm _,by rw [VRL]⟩⟩⟩
  cases hty
 cases hc
theorem Zoo {c:Cx}:∀ {xs:List AV} {us:List Value} (q:Nat) {x:AV} {u:Value},VRL c xs us->VR c x u->VRL c (xs.set q x) (us.set q u)
 | [],us,q,x,u,h,_=>by rw [VRL] at h;subst h;simp [VRL]
 | y::ys,us,q,x,u,h,hx=>by
  rw [VRL] at h
  obtain ⟨v,vs,rfl,h1,h2⟩:=h
  cases q with
  | zero=>rw [List.set_cons_zero,List.set_cons_zero,VRL];exact ⟨_,_,rfl,hx,h2⟩
  | succ q=>rw [List.set_cons_succ,List.set_cons_succ,VRL];exact ⟨_,_,rfl,h1,Zoo q h2 hx⟩
theorem ZjP {α:Type}(f:α->α)(y:α)(es:Array α)(q:Nat)(hq:∀ e,es[q]?=some e->f e=y):(es.modify q f).toList=es.toList.set q y:=by
 apply List.ext_getElem?
 intro j
 rw [Zz,Array.getElem?_toList,Array.getElem?_modify,Array.getElem?_toList]
 by_cases e:q=j
 ·subst e
  simp only [Z4]
  by_cases hlt:q<es.size
  ·have:=hq es[q] (Zb hlt)
   simp [hlt,this]
  simp [hlt]
 simp [e]
theorem Znl {s s':St}{xs:List IX}{id kn:Nat}{L:LC}{fr:List (Nat×AV)}{es:Ent}{ks:List Int}{v:AV}(hy:xs.map (ev s.fr)=[.map id,keyA kn ks,v])
  (hH:s.H[id]?=some (.lp L fr (.mp kn es))) (hk:ks.length=klen kn) (hok:Zcu v=true) (hs:s'=⟨s.fr,s.bx,s.H.set id (.lp L fr (.mp kn (mset es ks v)))⟩) (hn:L.n=0:=by rfl):Zan P (.sp none (.mapSet kn) xs) s s':=by
 refine Znp (v:=.any) (d:=none) rfl ?_ hs
 intro k n g t a w o d ys hys hHt h hc
 rw [hy] at hys
 rw [← hHt] at hH ⊢
 simp only [ZjY,Ze,Z0] at hc
 obtain ⟨⟨hd,hdn⟩,hc⟩:=hc
 have main:∀ (ty:TypeId) (X Y Z:Operand),((execOp a.eval o)=(do Instr.mapUpdate ty (a.eval X) (a.eval Y) (a.eval Z);pure .skip)) →
   ((match P.underlying ty with|some (.map kt _)=>Zlw P kt kn|_=>false)&&ZaC [X,Y,Z] ys)=true->Did P k n ⟨Eng.putO t.fr d .any,t.bx,t.H.set id (.lp L fr (.mp kn (mset es ks v)))⟩ a w o:=by
  intro ty X Y Z hop hc
  simp only [Ze] at hc
  obtain ⟨hty,hm⟩:=hc
  split at hty
  ·rename_i kt et hu
   obtain ⟨u1,u2,u3,e,v1,v2,v3⟩:=Zgj (ZnF h hm hys)
   simp only [ZK,ZL,Zo,ZY] at e
   have e2:=ZnR v2
   obtain ⟨hmk,b,hb,e1,hokc,hlen,ents,clock,q1,q2,q3,q4⟩:=h.theMp hH v1 hn
   have q1':w.heap[b]?=some (.map ents clock):=q1
   have hgo:(getObj b).run P w=.ok (.map ents clock) w:=MapKept.run_getObj_map (w:=w) q1
   have hck:=ZeT (w:=w) hty hk false 9998
   have hfk:=Zfv (w:=w) hty q3 hlen hk
   have hlen2:es.length=ents.toList.length:=by
    have:=congrArg List.length q3
    simpa using this.symm
   have hlt:b<w.heap.size:=(Array.getElem?_eq_some_iff.1 q1').1
   have fin:∀ (ents':Array MapEntry) (clock':Nat),(execOp a.eval o).run P w=.ok .skip (w.putObj b (.map ents' clock'))->Stamped ents' clock'->ents'.toList.map (·.key)=(mset es ks v).map (λp=>keyV kn p.1) →
     VRL (cx k g t.H w) ((mset es ks v).map (·.2)) (ents'.toList.map (·.val))->Did P k n ⟨Eng.putO t.fr d .any,t.bx,t.H.set id (.lp L fr (.mp kn (mset es ks v)))⟩ a w o:=by
    intro ents' clock' hrun hst hkeys hvals
    have hokm:=ZpA (ks:=ks) hokc hok
    have h1:=h.setMp (o':=.map ents' clock') (st':=.mp kn (mset es ks v)) hH hb q1' (λhl=>.inr ⟨hmk,hokm,ZoQ hlen hk,ents',clock',World.putObj_heap_same hlt,hst,hkeys,VRL.later hl _ _ (Zas hokm) hvals⟩)
    refine ⟨undef,_,g,.inr ⟨hrun,rfl⟩,?_⟩
    rw [hd]
    exact h1.putO hdn (by simp [VR]) rfl
   cases hf:fEnt es ents.toList ks 0 with
   | none =>
    obtain ⟨_,m2,m3⟩:=Zie (c:=cx k g t.H w) hlen2 hf
    refine fin (ents.push { key:=keyV kn ks,val:=u3,born:=clock }) (clock+1) ?_ (stamped_push q2 λx hx e3=>?_) ?_ ?_
    ·rw [hop]
     simp only [e.1,e.2.1,e.2.2,e1,e2,Instr.mapUpdate,Sem.run_bind,run_underlying hu,Result.andThen_ok,hgo,hck,hfk,hf,run_setObj_map _ q1',Sem.run_pure]
     rfl
    ·obtain ⟨i,hi,e4⟩:=List.getElem_of_mem hx
     have e5:(ents.toList.map (·.key))[i]?=some (keyV kn ks):=by rw [Zy,Zw hi,ZV,e4,e3]
     rw [q3,Zy] at e5
     cases e6:es[i]? with
     | none=>rw [e6] at e5;cases e5
     | some p =>
      rw [e6,ZV,ZW] at e5
      have hp:=List.mem_of_getElem? e6
      exact m2 p hp (ZoX (hlen p hp) hk e5)
    ·rw [m3];simp [q3]
    rw [m3]
    simp only [List.map_append,ZK,ZL,Array.toList_push]
    exact Zel q4 (by rw [VRL];exact ⟨_,_,rfl,v3,by rw [VRL]⟩)
   | some p =>
    obtain ⟨j,u⟩:=p
    obtain ⟨x,q,e',m1,m2,m3,m4,m5,m6⟩:=Zid q4 hf
    have hj:j=q:=by omega
    subst hj
    have m5':ents[j]?=some e':=by rw [← Array.getElem?_toList];exact m5
    have hkey:e'.key=keyV kn ks:=by
     have e5:(ents.toList.map (·.key))[j]?=some e'.key:=by rw [Zy,m5,ZV]
     rw [q3,Zy,m4,ZV,ZW] at e5
     exact e5.symm
    have hmod:(ents.modify j λe=>{ e with key:=keyV kn ks,val:=u3 }).toList=ents.toList.set j { e' with key:=keyV kn ks,val:=u3 } :=
     ZjP _ _ _ _ (λe0 he0=>by rw [m5'] at he0;cases he0;rfl)
    refine fin (ents.modify j λe=>{ e with key:=keyV kn ks,val:=u3 }) clock ?_ (stamped_modify q2 _ _ (λ_ _=>rfl) (λe0 _ he0=>by rw [m5'] at he0;cases he0;exact hkey.symm)) ?_ ?_
    ·rw [hop]
     simp only [e.1,e.2.1,e.2.2,e1,e2,Instr.mapUpdate,Sem.run_bind,run_underlying hu,Result.andThen_ok,hgo,hck,hfk,hf,m5',ZV,Option.getD_some,hkey,Zkj,run_setObj_map _ q1',Sem.run_pure]
     rfl
    ·rw [hmod,m6,List.map_set,List.map_set,q3]
    rw [hmod,m6,List.map_set,List.map_set]
    exact Zoo j q4 v3
  cases hty
 split at hc
 ·rename_i ty X Y Z hop
  exact main ty X Y Z (by simp [execOp,hop]) hc
 ·rename_i ty X Y Z hop
  exact main ty X Y Z (by simp [execOp,hop]) hc
 cases hc
end
end Go.Eng

namespace Go.Eng
open Go Go.MapKept
section
variable {P:Program} {k:K0} {n:Nat} {g:G} {s:St} {a:Act} {w:World}
def ZdV {κ υ:Type}[DecidableEq κ](l:List (κ×υ))(x:κ):Option υ:=(l.find? (λp=>decide (p.1=x))).map (·.2)
def ZiF {κ υ:Type}[DecidableEq κ](l:List (κ×υ))(x:κ)(z:υ):υ:=(ZdV l x).getD z
def mhas {κ υ:Type}[DecidableEq κ](l:List (κ×υ))(x:κ):Bool:=(ZdV l x).isSome
def Zeu {κ υ:Type}[DecidableEq κ](l:List (κ×υ))(x:κ)(v:υ):List (κ×υ):=match l with
 | []=>[(x,v)]
 | p::r=>if p.1=x then (x,v)::r else p::Zeu r x v
def encE {κ υ:Type}(ke:κ->List Int)(ve:υ->AV)(l:List (κ×υ)):Ent:=l.map λp=>(ke p.1,ve p.2)
class KeyE (κ:Type) (kn:Nat) (ke:κ->List Int):Prop where
 len:∀ x,(ke x).length=klen kn
 inj:∀ x y,ke x=ke y->x=y
def ke1 (x:Int):List Int:=[x]
instance:KeyE Int 0 ke1:=⟨λ_=>rfl,λx y h=>by simpa [ke1] using h⟩
theorem ZnL {κ υ:Type}[DecidableEq κ]{kn:Nat}{ke:κ->List Int}(hk:KeyE κ kn ke)(ve:υ->AV)(l:List (κ×υ))(x:κ):Zh3 (encE ke ve l) (ke x)=(ZdV l x).map ve:=by
 induction l with
 | nil=>rfl
 | cons p r ih =>
  by_cases e:p.1=x
  ·simp [Zh3,ZdV,encE,e]
  have e2:¬ ke p.1=ke x:=λh=>e (hk.inj _ _ h)
  simp only [Zh3,ZdV,encE,ZK,List.find?_cons,e,e2,decide_false] at ih ⊢
  exact ih
theorem ZoR {κ υ:Type}[DecidableEq κ]{kn:Nat}{ke:κ->List Int}(hk:KeyE κ kn ke)(ve:υ->AV)(l:List (κ×υ))(x:κ)(v:υ):mset (encE ke ve l) (ke x) (ve v)=encE ke ve (Zeu l x v):=by
 induction l with
 | nil=>rfl
 | cons p r ih =>
  by_cases e:p.1=x
  ·simp [mset,Zeu,encE,e]
  have e2:¬ ke p.1=ke x:=λh=>e (hk.inj _ _ h)
  simp only [encE] at ih
  simp only [mset,Zeu,encE,ZK,e,e2,Z1,ih]
abbrev mpT (id kn:Nat) (es:Ent):ZaL:=.lp id mapL [] (.mp kn es)
theorem st_mkMap' {d:Nat}(kn:Nat){id:Nat}{H H':List HO}(hs:s.H=H)(hid:id=H.length)(hH:H'=H++[.lp mapL [] (.mp kn [])]) :
  Zan P (.sp (some d) .mkMap []) s ⟨put s.fr d (.map id),s.bx,H'⟩:=by
 subst hs hid hH
 exact ZoB kn rfl
theorem Zkf {κ υ:Type}[DecidableEq κ]{d:Nat}{xs:List IX}{id kn:Nat}{ke:κ->List Int}[hk:KeyE κ kn ke]{ve:υ->AV}{l:List (κ×υ)}{x:κ}{z:υ}{zero:AV}{H:List HO}{r:AV}(hs:s.H=H)(hy:xs.map (ev s.fr)=[.map id,keyA kn (ke x)])
  (hl:Lies H (mpT id kn (encE ke ve l))) (hz:zero=ve z) (hr:r=.tup [ve (ZiF l x z),.p (.bool (mhas l x))]) (hno:∀ v,ZaA (ve v)=true) :
  Zan P (.sp (some d) (.mapGet kn true zero) xs) s ⟨put s.fr d r,s.bx,s.H⟩:=by
 subst hs
 refine Znn hy hl (hk.len x) (by rw [mres,ZnL hk];simp only [Z4];rw [hr,hz,ZiF,mhas];cases ZdV l x<;>rfl) (by rw [hr];simp [ZaA,ZaA.noLocL,hno]) rfl
theorem Znm {κ υ:Type}[DecidableEq κ]{xs:List IX}{id kn:Nat}{ke:κ->List Int}[hk:KeyE κ kn ke]{ve:υ->AV}{l:List (κ×υ)}{x:κ}{v:υ}{y:AV}{H H':List HO}(hs:s.H=H)(hy:xs.map (ev s.fr)=[.map id,keyA kn (ke x),y])
  (hl:Lies H (mpT id kn (encE ke ve l))) (hv:y=ve v) (hok:Zcu y=true) (hH:H'=H.set id (.lp mapL [] (.mp kn (encE ke ve (Zeu l x v))))) :
  Zan P (.sp none (.mapSet kn) xs) s ⟨s.fr,s.bx,H'⟩:=by
 subst hs hH
 refine Znl hy hl (hk.len x) hok (by rw [hv,ZoR hk])
end
section
variable {H H0:List HO} {f0 items:List ZaL}
theorem Fp.newMp (hF:Fp H0 H f0 items)(kn:Nat):∃ id H',id=H.length/\H'=H++[.lp mapL [] (.mp kn [])]/\Fp H0 H' f0 (mpT id kn []::items):=
 ⟨_,_,rfl,rfl,hF.new (by simp [Lies]) (λid e=>by cases e;rfl)⟩
theorem ZmD {s s0:St}(t:Nat){ts:List Nat}{a x:AV}{H1:List HO}(ht:t<1000000)(hs:s.H=H)(hb:get s.fr t=a)(hf:frzV H a=some (x,H1))
  (h:ZjF ts ⟨put s.fr t x,s.bx,H1⟩=some s0):ZjF (t::ts) s=some s0:=by
 subst hs hb
 simp only [ZjF,Z3 ht,hf,ZT,h]
theorem Fp.setMp (hF:Fp H0 H f0 items){k id kn:Nat}{es:Ent}(hk:items[k]?=some (mpT id kn es))(es':Ent) :
  ∃ H',H'=H.set id (.lp mapL [] (.mp kn es'))/\Fp H0 H' f0 (items.set k (mpT id kn es')):=by
 have hid:H[id]?=some (.lp mapL [] (.mp kn es)):=hF.get k hk
 have hlt:=(List.getElem?_eq_some_iff.1 hid).1
 refine ⟨_,rfl,hF.step hk (by simp [Lies,hlt]) (λid' e=>.inl e) (λid' hl ho=>?_) (by simp)⟩
 rw [ZA]
 intro e;subst e;exact ho rfl
end
theorem Zrn {P:Program}{n:Nat}{s:St}{fs:List Nat}{a:IC}{Q:Exit->St->Prop}(h:vc P n a (puQ fs Q) s):vc P n (.pu fs a) Q s:=h
end Go.Eng

namespace Go.Eng
open Go
def opAt (ops:List IOp)(m:Nat):Ins:=match ops[m]? with
 | some o=>o.i
 | none=>.newH 0 []
def okAt (ops:List IOp)(m:Nat)(s:St):Bool:=match ops[m]? with
 | some o=>bnOK o s.fr&&(match o.g with
  | none=>true
  | some (t,b)=>match get s.fr t with
   | .p (.bool b')=>b==b'
   | _=>false)
 | none=>false
def preB (ops:List IOp)(m:Nat)(s:St):Bool:=(opsF ZgT (ops.take m) s).isSome&&okAt ops m (opsD (ops.take m) s)
section
variable {P:Program} {n:Nat} {s s1 s2:St} {ops:List IOp} {keep:List Nat} {Q:Exit->St->Prop} {K:St->Prop}
theorem Z7.o0 (m:Nat)(hs:Zan P (opAt ops m) (opsD (ops.take m) s) s1)(rest:Z7 P (ops.drop (m+1)) s1 s2)(hm:preB ops m s=true:=by kernel_rfl):Z7 P ops s s2:=by
 simp only [preB,Ze] at hm
 obtain ⟨h1,h2⟩:=hm
 refine Z7.chunk m h1 ?_
 unfold okAt at h2
 unfold opAt at hs
 cases ho:ops[m]? with
 | none=>rw [ho] at h2;cases h2
 | some o =>
  rw [ho] at h2 hs
  simp only [Ze] at h2 hs
  have hd:ops.drop m=o::ops.drop (m+1):=by
   obtain ⟨hlt,e⟩:=List.getElem?_eq_some_iff.1 ho
   rw [List.drop_eq_getElem_cons hlt,e]
  rw [hd]
  refine ⟨s1,?_,rest⟩
  have hbn:bnOK o (opsD (ops.take m) s).fr=true:=h2.1
  unfold AOp
  cases hg:o.g with
  | none=>exact ⟨hbn,hs⟩
  | some p =>
   obtain ⟨t,b⟩:=p
   rw [hg] at h2
   simp only at h2 ⊢
   have hx:∃ b',get (opsD (ops.take m) s).fr t=.p (.bool b')/\(b==b')=true:=by
    have h3:=h2.2
    split at h3
    ·rename_i b' hv;exact ⟨b',hv,h3⟩
    cases h3
   obtain ⟨b',hv,h3⟩:=hx
   rw [hv]
   have:=eq_of_beq h3
   subst this
   simp only [Z4]
   exact ⟨hbn,hs⟩
def AK (P:Program)(ops:List IOp)(k:Nat)(s s1:St):Prop:=Z7 P (ops.drop k) s s1
def segO (ops:List IOp)(k m:Nat):List IOp:=(ops.drop k).take m
def preK (ops:List IOp)(k m:Nat)(s:St):Bool:=preB (ops.drop k) m s
theorem Z7.o {k:Nat}(m:Nat)(hs:Zan P (opAt ops (k+m)) (opsD (segO ops k m) s) s1)(rest:AK P ops (k+m+1) s1 s2)(hm:preK ops k m s=true:=by kernel_rfl):AK P ops k s s2:=by
 refine Z7.o0 (s1:=s1) m ?_ ?_ hm
 ·have:opAt (ops.drop k) m=opAt ops (k+m):=by unfold opAt;rw [Zv]
  rw [this];exact hs
 rw [List.drop_drop,← ZP];exact rest
def upd (s:St)(d:Nat)(r:AV):St:=⟨put s.fr d r,s.bx,s.H⟩
def updH (s:St)(d:Nat)(r:AV)(H:List HO):St:=⟨put s.fr d r,s.bx,H⟩
def updO (s:St)(d:Option Nat)(r:AV)(H:List HO):St:=⟨putO s.fr d r,s.bx,H⟩
theorem Z7.u {k d:Nat}{r:AV}(m:Nat)(hs:Zan P (opAt ops (k+m)) (opsD (segO ops k m) s) ⟨put (opsD (segO ops k m) s).fr d r,(opsD (segO ops k m) s).bx,(opsD (segO ops k m) s).H⟩)(rest:AK P ops (k+m+1) (upd (opsD (segO ops k m) s) d r) s2)(hm:preK ops k m s=true:=by kernel_rfl):AK P ops k s s2:=Z7.o m hs rest hm
theorem Z7.h {k d:Nat}{r:AV}{H:List HO}(m:Nat)(hs:Zan P (opAt ops (k+m)) (opsD (segO ops k m) s) ⟨put (opsD (segO ops k m) s).fr d r,(opsD (segO ops k m) s).bx,H⟩)(rest:AK P ops (k+m+1) (updH (opsD (segO ops k m) s) d r H) s2)(hm:preK ops k m s=true:=by kernel_rfl):AK P ops k s s2:=Z7.o m hs rest hm
theorem Z7.v {k:Nat}{d:Option Nat}{r:AV}{H:List HO}(m:Nat)(hs:Zan P (opAt ops (k+m)) (opsD (segO ops k m) s) ⟨putO (opsD (segO ops k m) s).fr d r,(opsD (segO ops k m) s).bx,H⟩)(rest:AK P ops (k+m+1) (updO (opsD (segO ops k m) s) d r H) s2)(hm:preK ops k m s=true:=by kernel_rfl):AK P ops k s s2:=Z7.o m hs rest hm
theorem Z7.f {k:Nat}(h:(opsF ZgT (ops.drop k) s).isSome=true:=by kernel_rfl):AK P ops k s (opsD (ops.drop k) s):=ZkA h
theorem AK.z (h:AK P ops 0 s s1):Z7 P ops s s1:=h
def EP (P:Program)(ops:List IOp)(k:Nat)(s:St)(K:St->Prop):Prop:=∃ s1,AK P ops k s s1/\K s1
theorem EP.o {k:Nat}(m:Nat)(hs:Zan P (opAt ops (k+m)) (opsD (segO ops k m) s) s1)(rest:EP P ops (k+m+1) s1 K)(hm:preK ops k m s=true:=by kernel_rfl):EP P ops k s K :=
 let ⟨s2,h1,h2⟩:=rest; ⟨s2,.o m hs h1 hm,h2⟩
theorem EP.u {k d:Nat}{r:AV}(m:Nat)(hs:Zan P (opAt ops (k+m)) (opsD (segO ops k m) s) ⟨put (opsD (segO ops k m) s).fr d r,(opsD (segO ops k m) s).bx,(opsD (segO ops k m) s).H⟩)(rest:EP P ops (k+m+1) (upd (opsD (segO ops k m) s) d r) K)(hm:preK ops k m s=true:=by kernel_rfl):EP P ops k s K:=EP.o m hs rest hm
theorem EP.h {k d:Nat}{r:AV}{H:List HO}(m:Nat)(hs:Zan P (opAt ops (k+m)) (opsD (segO ops k m) s) ⟨put (opsD (segO ops k m) s).fr d r,(opsD (segO ops k m) s).bx,H⟩)(rest:EP P ops (k+m+1) (updH (opsD (segO ops k m) s) d r H) K)(hm:preK ops k m s=true:=by kernel_rfl):EP P ops k s K:=EP.o m hs rest hm
theorem EP.v {k:Nat}{d:Option Nat}{r:AV}{H:List HO}(m:Nat)(hs:Zan P (opAt ops (k+m)) (opsD (segO ops k m) s) ⟨putO (opsD (segO ops k m) s).fr d r,(opsD (segO ops k m) s).bx,H⟩)(rest:EP P ops (k+m+1) (updO (opsD (segO ops k m) s) d r H) K)(hm:preK ops k m s=true:=by kernel_rfl):EP P ops k s K:=EP.o m hs rest hm
theorem EP.f {k:Nat}(hk:K (opsD (ops.drop k) s))(h:(opsF ZgT (ops.drop k) s).isSome=true:=by kernel_rfl):EP P ops k s K:=⟨_,Z7.f h,hk⟩
theorem Zbp {d:Nat}{x:IX}{m:Nat}{isA:Bool}(h:Zan P (.load d x m isA) s s1)(hl:ZjS (ev s.fr x)=false:=by kernel_rfl):Zan P (.loadH d x m isA) s s1:=by
 simp only [Zan,Zax] at h ⊢
 rw [Z2 (by rw [hl];decide)]
 have:rd s.bx s.H m (ev s.fr x)=rd [] s.H m (ev s.fr x):=by
  cases he:ev s.fr x with
  | loc t o=>rw [he] at hl;simp [ZjS] at hl
  | _=>rfl
 rw [← this];exact h
theorem rg (h:AK P ops 0 s s1)(hq:Q .normal (ZcU keep s1)):vc P n (.reg ops keep) Q s:=⟨s1,h,hq⟩
theorem rq (h:AK P ops 0 s s1)(hq:Q .normal (ZcU keep s1))(hs:Zhw s.fr ops=true:=by kernel_rfl):vc P n (.regD ops keep) Q s:=⟨hs,s1,h,hq⟩
theorem rgS (S:St)(h:AK P ops 0 s s1)(hk:ZcU keep s1=S)(hq:Q .normal S):vc P n (.reg ops keep) Q s:=⟨s1,h,hk ▸ hq⟩
theorem rqS (S:St)(h:AK P ops 0 s s1)(hk:ZcU keep s1=S)(hq:Q .normal S)(hs:Zhw s.fr ops=true:=by kernel_rfl):vc P n (.regD ops keep) Q s:=⟨hs,s1,h,hk ▸ hq⟩
theorem rgX (S:St)(h:EP P ops 0 s (λs1=>ZcU keep s1=S))(hq:Q .normal S):vc P n (.reg ops keep) Q s:=let ⟨s1,h1,h2⟩:=h; ⟨s1,h1,h2 ▸ hq⟩
theorem rqX (S:St)(h:EP P ops 0 s (λs1=>ZcU keep s1=S))(hq:Q .normal S)(hs:Zhw s.fr ops=true:=by kernel_rfl):vc P n (.regD ops keep) Q s:=let ⟨s1,h1,h2⟩:=h; ⟨hs,s1,h1,h2 ▸ hq⟩
theorem rgR (R:St->Prop)(h:EP P ops 0 s (λs1=>R (ZcU keep s1)))(hq:∀ S,R S->Q .normal S):vc P n (.reg ops keep) Q s:=let ⟨s1,h1,h2⟩:=h; ⟨s1,h1,hq _ h2⟩
theorem rqR (R:St->Prop)(h:EP P ops 0 s (λs1=>R (ZcU keep s1)))(hq:∀ S,R S->Q .normal S)(hs:Zhw s.fr ops=true:=by kernel_rfl):vc P n (.regD ops keep) Q s:=let ⟨s1,h1,h2⟩:=h; ⟨hs,s1,h1,hq _ h2⟩
theorem sq {a b:IC}(h:vc P n a (Zht (vc P n b Q) Q) s):vc P n (.seq a b) Q s:=h
theorem bk {id:Nat}{a:IC}(h:vc P n a (ZdS id Q) s):vc P n (.block id a) Q s:=h
theorem kq {ks:List Nat}{a:IC}(h:vc P n a Q (ZcU ks s)):vc P n (.kp ks a) Q s:=h
theorem sk (h:Q .normal s):vc P n .skip Q s:=h
theorem rt (h:Q .ret s):vc P n .ret Q s:=h
theorem xq {id:Nat}(h:Q (.exit id) s):vc P n (.exit id) Q s:=h
theorem tq {next:St->Prop}(h:next s):Zht next Q .normal s:=h
theorem tr {next:St->Prop}(h:Q .ret s):Zht next Q .ret s:=h
theorem tx {next:St->Prop}{j:Nat}(h:Q (.exit j) s):Zht next Q (.exit j) s:=h
theorem tg {next:St->Prop}{j:Nat}(h:Q (.goto j) s):Zht next Q (.goto j) s:=h
theorem bn {id:Nat}(h:Q .normal s):ZdS id Q .normal s:=h
theorem br {id:Nat}(h:Q .ret s):ZdS id Q .ret s:=h
theorem bx {id:Nat}(h:Q .normal s):ZdS id Q (.exit id) s:=by simp only [ZdS,Z4];exact h
theorem bo {id j:Nat}(h:Q (.exit j) s)(hj:(j==id)=false:=by kernel_rfl):ZdS id Q (.exit j) s:=by
 have:¬ j=id:=by simpa using hj
 simp only [ZdS,Z2 this];exact h
theorem hp0:HP ([]:List HO) []:=trivial
theorem kr {α:Sort _}{a b:α}(h:a=b:=by kernel_rfl):a=b:=h
theorem nx {j:Nat}(h:Q (.exit j) s):Zpy Q (.exit j) s:=h
theorem it {x:IX}{a b:IC}{c:Bool}{α:Type}{A B:Option α}{r:α}(h:(if c=true then A else B)=some r)
  (h1:c=true->A=some r->vc P n a Q (Zf8 x s)) (h2:c=false->B=some r->vc P n b Q (Zf8 x s)) (hx:ev s.fr x=.p (.bool c):=by kernel_rfl):vc P n (.cond x a b) Q s:=ZpL hx h h1 h2
theorem bs {α β:Type}{x:Option α}{f:α->Option β}{r:β}(h:x.bind f=some r):∃ a,x=some a/\f a=some r:=bind_some h
theorem rbd {K:List HO->Prop}{k id:Nat}{L:LC}{fr0:List (Nat×AV)}{e:Exit}{b:Bool}{H0 H1:List HO}{f0 items:List ZaL}(st:LS)(hF:Fp H0 H1 f0 items)(hk:items[k]?=some (.lp id L fr0 .busy))(he:ZjV e=some (b,st))
  (h:∀ H6,Fp H0 H6 f0 (items.set k (.lp id L fr0 st))->K H6) (hs:s.H=H1:=by kernel_rfl):∃ H',Zl1 id L fr0 b H' e s/\K H':=Zpt st (hs.symm ▸ hF) hk he h
theorem Fp.pk {H0 H H':List HO}{f0 items L:List ZaL}(h:Fp H0 H f0 items)(ks:List Nat)(hn:ZkE ks=true)(hL:(ks.filterMap λk=>items[k]?)=L:=by kernel_rfl)(hH:H=H':=by kernel_rfl):Fp H0 H' f0 L:=by
 subst hL hH;exact h.pick ks hn
theorem Fp.at {H0 H H':List HO}{f0 items L:List ZaL}(h:Fp H0 H f0 items)(hL:items=L:=by kernel_rfl)(hH:H=H':=by kernel_rfl):Fp H0 H' f0 L:=by
 subst hL hH;exact h
end
end Go.Eng

namespace Go.Eng
open Go
theorem ZpM {f:IX->AV}{a b:AV}{l:List IX}(h:l.map f=[a,b]):∃ x y,l=[x,y]/\f x=a/\f y=b:=by
 cases l with
 | nil=>cases h
 | cons x l=>cases l with
  | nil=>simp at h
  | cons y l=>cases l with
   | nil=>simp only [ZK,ZL,Zo,ZY] at h;exact ⟨x,y,rfl,h.1,h.2⟩
   | cons z l=>simp at h
section
variable {P:Program} {s:St}
end
section
variable {H0 H H':List HO} {f0 items:List ZaL} {α:Type} {k id n sz:Nat} {as:List AV} {frz:Bool}
theorem HP.replaceX:∀ {items:List ZaL} {k:Nat} {i i':ZaL},HP H items->items[k]?=some i->Lies H' i'->(∀ id,Occ i' id->Occ i id∨∀ (m:Nat) x,m≠k->items[m]?=some x->¬ Occ x id) →
  (∀ id,id<H.length->¬ Occ i id->H'[id]?=H[id]?)->HP H' (items.set k i')
 | [],k,i,i',h,hk,_,_,_=>by simp at hk
 | j::is,0,i,i',h,hk,hl,ho,hs=>by
  simp only [Zu,ZW] at hk
  subst hk
  refine ⟨hl,λid hid x hx hxo=>?_,HP.same h.2.2 λx hx id hxo=>hs id ((HP.lies h.2.2 x hx).lt id hxo) λhj=>h.2.1 id hj x hx hxo⟩
  rcases ho id hid with h1|h1
  ·exact h.2.1 id h1 x hx hxo
  obtain ⟨m,hm⟩:=List.getElem?_of_mem hx
  exact h1 (m+1) x (by omega) (by simpa using hm) hxo
 | j::is,k+1,i,i',h,hk,hl,ho,hs=>by
  simp only [Zt] at hk
  have hi:i∈is:=List.mem_of_getElem? hk
  refine ⟨h.1.same λid hid=>hs id (h.1.lt id hid) λhio=>h.2.1 id hid i hi hio,λid hid x hx hxo=>?_,HP.replaceX h.2.2 hk hl (λid hid=>?_) hs⟩
  ·rcases List.mem_or_eq_of_mem_set hx with h1|rfl
   ·exact h.2.1 id hid x h1 hxo
   rcases ho id hxo with h1|h1
   ·exact h.2.1 id hid i hi h1
   exact h1 0 j (by omega) rfl hid
  rcases ho id hid with h1|h1
  ·exact .inl h1
  exact .inr λm x hm hx=>h1 (m+1) x (by omega) (by simpa using hx)
end
end Go.Eng

namespace Go.Eng
open Go
section
variable {P:Program} {k:K0} {n:Nat} {g:G} {s:St} {a:Act} {w:World}
theorem Rel.pop (h:Rel k n g s a w){id sz ver m:Nat}{rows:List (List PC)}(hH:s.H[id]?=some (.arr sz ver false rows))(hm:m<=rows.length) :
  Rel k n g ⟨s.fr,s.bx,s.H.set id (.arr sz (ver+1) false (rows.take m))⟩ a w/\ZaG (cx k g s.H w) (cx k g (s.H.set id (.arr sz (ver+1) false (rows.take m))) w):=by
 have hid:id<s.H.length:=(List.getElem?_eq_some_iff.1 hH).1
 have hget:∀ (j:Nat),(s.H.set id (.arr sz (ver+1) false (rows.take m)))[j]?=if id=j then some (.arr sz (ver+1) false (rows.take m)) else s.H[j]?:=λj=>by
  rw [Zz]
  by_cases e:id=j
  ·subst e;simp [hid]
  simp [e]
 have hl:ZaG (cx k g s.H w) (cx k g (s.H.set id (.arr sz (ver+1) false (rows.take m))) w):=
  {stay:=λa x ho hc=>by
    refine ⟨hc,ho.1,ho.2.1,λj hj=>?_⟩
    obtain ⟨sz1,ver1,rows1,h1,h2⟩:=ho.2.2 j hj
    by_cases he:id=j
    ·subst he
     rw [hH] at h1
     cases h1
    exact ⟨sz1,ver1,rows1,by rw [hget,Z2 he];exact h1,h2⟩
   arr:=λj sz1 ver1 frz1 rows1 e=>by
    by_cases he:id=j
    ·subst he
     have e':s.H[id]?=some (.arr sz1 ver1 frz1 rows1):=e
     rw [hH] at e'
     cases e'
     exact ⟨ver+1,false,rows.take m,by show (s.H.set _ _)[_]?=_;rw [hget,Z3 rfl],Nat.le_succ _,λe=>absurd e (by omega)⟩
    exact ⟨ver1,frz1,rows1,by show (s.H.set _ _)[_]?=_;rw [hget,Z2 he];exact e,Nat.le_refl _,λ_=>⟨Nat.le_refl _,rfl,λb vs _ hb=>⟨vs,hb,rfl⟩⟩⟩
   cells:=λj cs e=>by
    refine ⟨⟨cs,?_⟩,rfl⟩
    show (s.H.set _ _)[_]?=_
    rw [hget,Z2 (λhe=>by subst he;have e':s.H[id]?=some (.cells cs):=e;rw [hH] at e';cases e')]
    exact e
   lp:=λj L fr st e=>by
    refine ⟨⟨st,?_⟩,rfl⟩
    show (s.H.set _ _)[_]?=_
    rw [hget,Z2 (λhe=>by subst he;have e':s.H[id]?=some (.lp L fr st):=e;rw [hH] at e';cases e')]
    exact e }
 refine ⟨?_,hl⟩
 exact
  {h with
   slots:=λt=>ZaS hl (λ_ _ e=>e) (h.tops t) (h.slots t)
   boxes:=λt cs e=>let ⟨b,hb,hr⟩:=h.boxes t cs e; ⟨b,hb,hr.later hl λ_ hb=>hb⟩
   heap:=λj x e=>by
    simp only [hget] at e
    by_cases he:id=j
    ·subst he
     simp only [Z4,ZW] at e
     subst e
     obtain ⟨b,hb,hr⟩:=h.heap id _ hH
     obtain ⟨vs,h1,h2,h3⟩:=ArrR.later hl (λ_ hb=>hb) hr
     refine ⟨b,hb,vs,h1,Nat.le_trans (Nat.mul_le_mul_right _ (by rw [ZJ];omega)) h2,λi r hi=>h3 i r ?_⟩
     rw [ZB] at hi
     split at hi
     ·exact hi
     cases hi
    simp only [he,Z1] at e
    obtain ⟨b,hb,hr⟩:=h.heap j x e
    exact ⟨b,hb,hr.later hl λ_ hb=>hb⟩
   len:=by simp [h.len]
   hist:=h.hist.trans hl }
theorem ZpO {s:St}{d:Nat}{x y:IX}{sz id ver:Nat}{m:Int}{av:AV}{rows:List (List PC)}{H H':List HO}(hs:s.H=H)(hx0:ev s.fr x=av)(hy:ev s.fr y=.p (.int .i64 m))(ha:av=.osl sz id ver 0 rows.length)
  (hH0:H[id]?=some (.arr sz ver false rows)) (hm:0<=m/\m<=rows.length) (hH:H'=H.set id (.arr sz (ver+1) false (rows.take m.toNat))) :
  Zan P (.sp (some d) (.pop sz) [x,y]) s ⟨put s.fr d (.osl sz id (ver+1) 0 m.toNat),s.bx,H'⟩:=by
 have hx:ev s.fr x=.osl sz id ver 0 rows.length:=by rw [hx0,ha]
 subst hs hH
 refine Znp rfl ?_ rfl
 intro k n g t a w o d ys he hH h hc
 rw [← hH] at hH0 ⊢
 obtain ⟨x',y',rfl,hx',hy'⟩:=ZpM (f:=ev t.fr) (a:=.osl sz id ver 0 rows.length) (b:=.p (.int .i64 m)) (by rw [he];simp only [ZK,ZL];rw [hx,hy])
 simp only [ZjY,Ze,Z0] at hc
 obtain ⟨⟨hd,hdn⟩,hc⟩:=hc
 split at hc
 ·rename_i d' x1 y1 e1
  simp only [Zo,ZY] at e1
  obtain ⟨rfl,rfl⟩:=e1
  have hv:ZaE (.slice sz false true false) ([x',y'].map (ev t.fr))=some (.osl sz id ver 0 m.toNat):=by
   simp only [ZK,ZL,hx',hy',ZaE,ZeR,Zc2,Zg,Z1,Z4,ZT,hm.1]
   rw [Z3 (by refine ⟨rfl,trivial,by omega,by omega,.inl trivial,trivial⟩)]
   simp
  obtain ⟨u,hu,hvr,_⟩:=Zpe h hc hv
  obtain ⟨r1,_⟩:=h.pop hH0 (m:=m.toNat) (by omega)
  refine ⟨u,w,g,.inl hu,?_⟩
  rw [hd]
  refine r1.putO hdn ?_ rfl
  rw [VR] at hvr ⊢
  obtain ⟨ver0,frz0,rows0,b,cap,h1,_,e1,hcap,hcur⟩:=hvr
  have e0:t.H[id]?=some (HO.arr sz ver0 frz0 rows0):=h1
  rw [hH0] at e0
  simp only [ZW,HO.arr.injEq] at e0
  obtain ⟨_,e2,_,e3⟩:=e0
  obtain ⟨vs,hρ,_,hblk,hcb⟩:=hcur e2
  refine ⟨ver+1,false,rows.take m.toNat,b,cap,?_,Nat.le_refl _,e1,hcap,λ_=>⟨vs,hρ,by rw [ZJ];omega,hblk,hcb⟩⟩
  show (t.H.set id _)[id]?=_
  simp [(List.getElem?_eq_some_iff.1 hH0).1]
 cases hc
theorem Znk {s:St}{d:Nat}{x y:IX}{sz id ver:Nat}{m:Int}{av a2:AV}{rows:List (List PC)}{H H':List HO}(hs:s.H=H)(hx0:ev s.fr x=av)(hy:ev s.fr y=.p (.int .i64 m))(ha:av=.osl sz id ver 0 rows.length)
  (hH0:H[id]?=some (.arr sz ver false rows)) (hm:0<=m/\m<=rows.length) (hH:H'=H.set id (.arr sz (ver+1) false (rows.take m.toNat))) (h2:a2=.osl sz id (ver+1) 0 m.toNat) :
  Zan P (.sp (some d) (.pop sz) [x,y]) s ⟨put s.fr d a2,s.bx,H'⟩:=by
 rw [h2];exact ZpO hs hx0 hy ha hH0 hm hH
end
theorem pur {fs:List Nat}{Q:Exit->St->Prop}{s:St}(h:Q .ret s):puQ fs Q .ret s:=h
def popI {α:Type}(l:List α)(m:Int):Option (List α):=if 0<=m/\m<=(l.length:Int)/\0<l.length then some (l.take m.toNat) else none
section
variable {H0 H:List HO} {f0 items:List ZaL} {α:Type} {k sz:Nat} {a:AV}
theorem Fp.pop {l r:List α}{m:Int}(enc:α->List PC)(hF:Fp H0 H f0 items)(hk:items[k]?=some (.arr a sz false (l.map enc)))(h:popI l m=some r) :
  ∃ id ver a2 H',a=.osl sz id ver 0 (l.map enc).length/\H[id]?=some (.arr sz ver false (l.map enc))/\(0<=m/\m<=((l.map enc).length:Int))/\H'=H.set id (.arr sz (ver+1) false ((l.map enc).take m.toNat))/\a2=.osl sz id (ver+1) 0 m.toNat ∧
   Fp H0 H' f0 (items.set k (.arr a2 sz false (r.map enc))):=by
 unfold popI at h
 split at h
 ·rename_i hb
  obtain ⟨h0,h1,h2⟩:=hb
  cases h
  rcases hF.get k hk with ⟨_,hl⟩|⟨id,ver,rfl,f,hf,hid⟩
  ·rw [List.map_eq_nil_iff] at hl
   subst hl
   simp at h2
  have hff:=hf rfl
  subst hff
  have hlt:=(List.getElem?_eq_some_iff.1 hid).1
  refine ⟨id,ver,_,_,rfl,hid,⟨h0,by rw [ZF];exact h1⟩,rfl,rfl,?_⟩
  refine hF.step hk (.inr ⟨id,ver+1,by rw [ZF,ZJ];congr 1;omega,false,λ_=>rfl,by simp [hlt,List.map_take]⟩) (λid' ⟨_,_,_,_,e⟩=>by cases e;exact .inl ⟨sz,ver,0,_,rfl⟩) (λid' _ ho=>?_) (by simp)
  rw [ZA]
  intro e;subst e;exact ho ⟨sz,ver,0,_,rfl⟩
 cases h
theorem HP.pop {l r:List α}{m:Int}(enc:α->List PC)(hF:HP H items)(hk:items[k]?=some (.arr a sz false (l.map enc)))(h:popI l m=some r) :
  ∃ id ver a2 H',a=.osl sz id ver 0 (l.map enc).length/\H[id]?=some (.arr sz ver false (l.map enc))/\(0<=m/\m<=((l.map enc).length:Int))/\H'=H.set id (.arr sz (ver+1) false ((l.map enc).take m.toNat))/\a2=.osl sz id (ver+1) 0 m.toNat ∧
   HP H' (items.set k (.arr a2 sz false (r.map enc))):=by
 obtain ⟨id,ver,a2,H',b1,b2,b3,b4,b5,b6⟩:=(Fp.refl hF).pop enc hk h
 exact ⟨id,ver,a2,H',b1,b2,b3,b4,b5,b6.now⟩
end
end Go.Eng

namespace Go.Eng
open Go
section
variable {P:Program} {k:K0} {n:Nat} {g:G} {s:St} {a:Act} {w:World}
theorem Rel.reRows (h:Rel k n g s a w){id sz ver:Nat}{frz:Bool}{R R':List (List PC)}(hH:s.H[id]?=some (.arr sz ver frz R))(hlen:R'.length=R.length)(hA:∀ b,g.ρ[id]?=some b->ArrR (cx k g s.H w) b sz R') :
  Rel k n g ⟨s.fr,s.bx,s.H.set id (.arr sz ver frz R')⟩ a w/\ZaG (cx k g s.H w) (cx k g (s.H.set id (.arr sz ver frz R')) w):=by
 have hid:id<s.H.length:=(List.getElem?_eq_some_iff.1 hH).1
 have hget:=ZcG (.arr sz ver frz R') hH
 have hl:ZaG (cx k g s.H w) (cx k g (s.H.set id (.arr sz ver frz R')) w):=
  {stay:=λa x ho hc=>by
    refine ⟨hc,ho.1,ho.2.1,λj hj=>?_⟩
    obtain ⟨sz1,ver1,rows1,h1,h2⟩:=ho.2.2 j hj
    by_cases he:id=j
    ·subst he
     rw [hH] at h1
     cases h1
     exact ⟨sz,ver,R',by rw [hget,Z3 rfl],by rw [hlen];exact h2⟩
    exact ⟨sz1,ver1,rows1,by rw [hget,Z2 he];exact h1,h2⟩
   arr:=λj sz1 ver1 frz1 rows1 e=>by
    by_cases he:id=j
    ·subst he
     have e':s.H[id]?=some (.arr sz1 ver1 frz1 rows1):=e
     rw [hH] at e'
     cases e'
     exact ⟨ver,frz,R',by show (s.H.set _ _)[_]?=_;rw [hget,Z3 rfl],Nat.le_refl _,λ_=>⟨by rw [hlen];exact Nat.le_refl _,rfl,λb vs _ hb=>⟨vs,hb,rfl⟩⟩⟩
    exact ⟨ver1,frz1,rows1,by show (s.H.set _ _)[_]?=_;rw [hget,Z2 he];exact e,Nat.le_refl _,λ_=>⟨Nat.le_refl _,rfl,λb vs _ hb=>⟨vs,hb,rfl⟩⟩⟩
   cells:=λj cs e=>by
    refine ⟨⟨cs,?_⟩,rfl⟩
    show (s.H.set _ _)[_]?=_
    rw [hget,Z2 (λhe=>by subst he;have e':s.H[id]?=some (.cells cs):=e;rw [hH] at e';cases e')]
    exact e
   lp:=λj L fr st e=>by
    refine ⟨⟨st,?_⟩,rfl⟩
    show (s.H.set _ _)[_]?=_
    rw [hget,Z2 (λhe=>by subst he;have e':s.H[id]?=some (.lp L fr st):=e;rw [hH] at e';cases e')]
    exact e }
 refine ⟨?_,hl⟩
 exact
  {h with
   slots:=λt=>ZaS hl (λ_ _ e=>e) (h.tops t) (h.slots t)
   boxes:=λt cs e=>let ⟨b,hb,hr⟩:=h.boxes t cs e; ⟨b,hb,hr.later hl λ_ hb=>hb⟩
   heap:=λj x e=>by
    simp only [hget] at e
    by_cases he:id=j
    ·subst he
     simp only [Z4,ZW] at e
     subst e
     obtain ⟨b,hb,hr⟩:=h.heap id _ hH
     exact ⟨b,hb,ArrR.later hl (λ_ hb=>hb) (hA b hb)⟩
    simp only [he,Z1] at e
    obtain ⟨b,hb,hr⟩:=h.heap j x e
    exact ⟨b,hb,hr.later hl λ_ hb=>hb⟩
   len:=by simp [h.len]
   hist:=h.hist.trans hl }
theorem Zpn {d sz:Nat}{xs:List IX}{ys:List AV}{rows:List (List PC)}{H H':List HO}{v:AV}(hs:s.H=H)(hy:xs.map (ev s.fr)=ys)(hr:ZdJ unF sz ys=some rows)(hH:H'=H++[.arr sz 0 false rows])(hv:v=.osl sz H.length 0 0 rows.length) :
  Zan P (.sp (some d) (.litO sz) xs) s ⟨put s.fr d v,s.bx,H'⟩:=by
 subst hs hy hH hv
 refine Znp rfl ?_ rfl
 intro k n g t a w o d' ys he hH h hc
 simp only [ZjY,Ze,Z0] at hc
 obtain ⟨⟨hd,hdn⟩,hc⟩:=hc
 split at hc
 ·rename_i d2
  have:=ZiW h (un:=unF) (λ_ _=>Znh) hc (rows:=rows) (by rw [he];exact hr)
  rw [hH] at this
  exact this
 cases hc
theorem ZoC {d:Nat}{x:IX}{m:Nat}{isA:Bool}{cs:List AV}{r p:AV}{H:List HO}(hs:s.H=H)(hx:ev s.fr x=p)(hl:∀ bx,rd bx H m p=some cs)(hok:Zap cs=true)(hm:mk isA cs=some r) :
  Zan P (.load d x m isA) s ⟨put s.fr d r,s.bx,s.H⟩:=by
 subst hs
 simp only [Zan,Zax,hx,hl,ZT,hok,Z4,hm,ZV]
theorem Rel.sealCell (h:Rel k n g s a w){id sz0 ver:Nat}{frz:Bool}{sz i j:Nat}{x y:PC}{H1:List HO}{R:List (List PC)}{r:List PC}(hH:s.H[id]?=some (.arr sz0 ver frz R))(hr:R[i]?=some r)(hj:r[j]?=some x)
  (hx:(∃ z,x=.sl sz z []/\y=.sl sz false []/\H1=s.H)∨∃ q v f rows,x=.ow sz q v rows.length/\s.H[q]?=some (.arr sz v f rows)/\q≠id/\y=.sl sz false rows/\H1=s.H.set q (.arr sz v true rows)) :
  Rel k n g ⟨s.fr,s.bx,H1.set id (.arr sz0 ver frz (R.set i (r.set j y)))⟩ a w/\ZaG (cx k g s.H w) (cx k g (H1.set id (.arr sz0 ver frz (R.set i (r.set j y)))) w):=by
 have key:∃ h1:Rel k n g ⟨s.fr,s.bx,H1⟩ a w,ZaG (cx k g s.H w) (cx k g H1 w)/\H1[id]?=some (.arr sz0 ver frz R)/\∀ u,VR (cx k g s.H w) (up x) u->VR (cx k g H1 w) (up y) u:=by
  rcases hx with ⟨z,rfl,rfl,rfl⟩|⟨q,v,f,rows,rfl,hq,hqi,rfl,rfl⟩
  ·refine ⟨h,ZaG.refl _,hH,λu hu=>?_⟩
   exact Zgh (x:=.sl sz false []) rfl (PR.weak (Zhl hu))
  have hf:frz1 s.H (.osl sz q v 0 rows.length)=some (.p (.sl sz false rows),s.H.set q (.arr sz v true rows)):=by
   simp [frz1,hq,sub]
  have hlt:=(List.getElem?_eq_some_iff.1 hq).1
  obtain ⟨b,hb,hr0⟩:=h.heap id _ hH
  obtain ⟨vs,_,_,h3⟩:=hr0
  obtain ⟨u0,_,hu0⟩:=(h3 i r hr).2 j _ hj
  obtain ⟨h1,hl,_,_⟩:=ZdB h hf (v:=u0) hu0
  refine ⟨h1,hl,?_,λu hu=>?_⟩
  ·rw [ZA hqi];exact hH
  obtain ⟨_,_,hv,_⟩:=ZdB h hf (v:=u) hu
  exact hv
 obtain ⟨h1,hl,hH1,hv⟩:=key
 obtain ⟨h2,hl2⟩:=h1.reRows (R':=R.set i (r.set j y)) hH1 (by simp) (λb hb=>by
  obtain ⟨b0,hb0,hr0⟩:=h.heap id _ hH
  have e0:b0=b:=by rw [hb] at hb0;cases hb0;rfl
  subst e0
  obtain ⟨vs,a1,a2,a3⟩:=hr0
  refine ⟨vs,Zgz (c:=cx k g s.H w) (λ_ e=>e) a1,by simpa using a2,λq r1 hq=>?_⟩
  rw [Zz] at hq
  by_cases hqi:i=q
  ·subst hqi
   rw [Z3 rfl] at hq
   split at hq
   ·cases hq
    refine ⟨by rw [ZH];exact (a3 i r hr).1,λm z hz=>?_⟩
    rw [Zz] at hz
    by_cases hm:j=m
    ·subst hm
     rw [Z3 rfl] at hz
     split at hz
     ·cases hz
      obtain ⟨u,e1,hu⟩:=(a3 i r hr).2 j _ hj
      exact ⟨u,e1,hv u hu⟩
     cases hz
    rw [Z2 hm] at hz
    obtain ⟨u,e1,hu⟩:=(a3 i r hr).2 m z hz
    exact ⟨u,e1,VR.later hl _ u (ZcQ z) hu⟩
   cases hq
  rw [Z2 hqi] at hq
  obtain ⟨c1,c2⟩:=a3 q r1 hq
  refine ⟨c1,λm z hz=>?_⟩
  obtain ⟨u,e1,hu⟩:=c2 m z hz
  exact ⟨u,e1,VR.later hl _ u (ZcQ z) hu⟩)
 exact ⟨h2,hl.trans hl2⟩
def ZfN (sz m:Nat)(cs:List PC)(rows:List (Int×List (List PC))):List (List PC):=(rows.take m).map (λr=>[.int .i64 r.1,.sl sz false r.2])++(ZbR cs rows).drop m
theorem Zf9 {cs:List PC}{rows:List (Int×List (List PC))}(h:cs.length=rows.length):(ZbR cs rows).length=rows.length:=by
 unfold ZbR;rw [List.length_zipWith];omega
theorem Ze8 {cs:List PC}{rows:List (Int×List (List PC))}{i:Nat}{c:PC}{r:Int×List (List PC)}(hc:cs[i]?=some c)(hr:rows[i]?=some r):(ZbR cs rows)[i]?=some [.int .i64 r.1,c]:=by
 unfold ZbR;rw [List.getElem?_zipWith,hc,hr]
theorem ZoT {sz m:Nat}{cs:List PC}{rows:List (Int×List (List PC))}{c:PC}{r:Int×List (List PC)}(hc:cs[m]?=some c)(hr:rows[m]?=some r):(ZfN sz m cs rows)[m]?=some [.int .i64 r.1,c]:=by
 have hlt:=(List.getElem?_eq_some_iff.1 hr).1
 unfold ZfN
 have e:((rows.take m).map (λr=>[PC.int .i64 r.1,.sl sz false r.2])).length=m:=by rw [ZF,ZJ];omega
 rw [Zs (by omega),e,Nat.sub_self,Zv,ZR]
 exact Ze8 hc hr
theorem ZnK {sz m:Nat}{cs:List PC}{rows:List (Int×List (List PC))}{c:PC}{r:Int×List (List PC)}(hc:cs[m]?=some c)(hr:rows[m]?=some r) :
  (ZfN sz m cs rows).set m [.int .i64 r.1,.sl sz false r.2]=ZfN sz (m+1) cs rows:=by
 have hlt:=(List.getElem?_eq_some_iff.1 hr).1
 have hd:=Ze8 hc hr
 unfold ZfN
 have e:((rows.take m).map (λr=>[PC.int .i64 r.1,.sl sz false r.2])).length=m:=by rw [ZF,ZJ];omega
 rw [List.set_append_right _ _ (by omega),e,Nat.sub_self,List.take_succ,hr,List.map_append,Zn]
 have hdl:=(List.getElem?_eq_some_iff.1 hd).1
 congr 1
 rw [List.drop_eq_getElem_cons hdl,List.set_cons_zero]
 rfl
theorem Znt {H:List HO}{id ver sz:Nat}{cs:List PC}{rows:List (Int×List (List PC))}(hl:cs.length=rows.length)(hid:H[id]?=some (.arr 2 ver false (ZbR cs rows)))(hno:∀ s1 v1 l1,.ow s1 id v1 l1 ∉ cs)
  (hin:∀ (i:Nat) c r,cs[i]?=some c->rows[i]?=some r->(c=.sl sz true []/\r.2=[])∨∃ q v,c=.ow sz q v r.2.length/\∃ f,H[q]?=some (.arr sz v f r.2)):∀ m,m<=rows.length->∃ Hm:List HO,Hm.length=H.length ∧
   (∀ q:Nat,q≠id->(∀ s1 v1 l1,.ow s1 q v1 l1 ∉ cs)->Hm[q]?=H[q]?)/\Hm[id]?=some (.arr 2 ver false (ZfN sz m cs rows)) ∧
   (∀ (i:Nat) c r,cs[i]?=some c->rows[i]?=some r->(c=.sl sz true []/\r.2=[])∨∃ q v,c=.ow sz q v r.2.length/\∃ f,Hm[q]?=some (.arr sz v f r.2)) ∧
   ∀ (k:K0) (n:Nat) (g:G) (s:St) (a:Act) (w:World),Rel k n g s a w->s.H=H->Rel k n g ⟨s.fr,s.bx,Hm⟩ a w/\ZaG (cx k g H w) (cx k g Hm w)
 | 0,_=>⟨H,rfl,λ_ _ _=>rfl,by rw [hid];simp [ZfN],hin,λk n g s a w h hs=>⟨by subst hs;exact h,ZaG.refl _⟩⟩
 | m+1,hm=>by
  obtain ⟨Hm,h1,h2,h3,h4,h5⟩:=Znt hl hid hno hin m (by omega)
  have hlt:m<rows.length:=by omega
  obtain ⟨r,hr⟩:∃ r,rows[m]?=some r:=⟨_,Zw hlt⟩
  obtain ⟨c,hc⟩:∃ c,cs[m]?=some c:=⟨_,Zw (by omega)⟩
  have hidlt:id<Hm.length:=(List.getElem?_eq_some_iff.1 h3).1
  have hset:=ZnK (sz:=sz) hc hr
  have hrow:=ZoT (sz:=sz) hc hr
  rcases h4 m c r hc hr with ⟨rfl,hr2⟩|⟨q,v,rfl,f,hq⟩
  ·refine ⟨Hm.set id (.arr 2 ver false (ZfN sz (m+1) cs rows)),by simpa using h1,λq hq hn=>?_,by simp [hidlt],λi c' r' hc' hr'=>?_,λk n g s a w h hs=>?_⟩
   ·rw [ZA (λe=>hq e.symm)];exact h2 q hq hn
   ·rcases h4 i c' r' hc' hr' with h|⟨q,v,rfl,f,h⟩
    ·exact .inl h
    refine .inr ⟨q,v,rfl,f,?_⟩
    rw [ZA (λe=>by subst e;exact hno _ _ _ (List.mem_of_getElem? hc'))];exact h
   obtain ⟨g1,g2⟩:=h5 k n g s a w h hs
   obtain ⟨g3,g4⟩:=g1.sealCell (sz:=sz) (y:=.sl sz false []) (H1:=Hm) h3 hrow (j:=1) rfl (.inl ⟨true,rfl,rfl,rfl⟩)
   have e1:(ZfN sz m cs rows).set m ([PC.int .i64 r.1,.sl sz true []].set 1 (.sl sz false []))=ZfN sz (m+1) cs rows:=by
    rw [← hset,hr2];rfl
   rw [e1] at g3 g4
   exact ⟨g3,g2.trans g4⟩
  have hqi:q≠id:=λe=>by subst e;exact hno _ _ _ (List.mem_of_getElem? hc)
  have hqlt:=(List.getElem?_eq_some_iff.1 hq).1
  refine ⟨(Hm.set q (.arr sz v true r.2)).set id (.arr 2 ver false (ZfN sz (m+1) cs rows)),by simpa using h1,λq' hq' hn=>?_,by simp [hidlt],λi c' r' hc' hr'=>?_,λk n g s a w h hs=>?_⟩
  ·rw [ZA (λe=>hq' e.symm),ZA (λe=>by subst e;exact hn _ _ _ (List.mem_of_getElem? hc))];exact h2 q' hq' hn
  ·rcases h4 i c' r' hc' hr' with h|⟨q',v',rfl,f',h⟩
   ·exact .inl h
   by_cases e:q=q'
   ·subst e
    rw [hq] at h
    simp only [ZW,HO.arr.injEq] at h
    obtain ⟨_,rfl,_,e5⟩:=h
    refine .inr ⟨q,v,rfl,true,?_⟩
    rw [ZA (Ne.symm hqi),← e5]
    simp [hqlt]
   refine .inr ⟨q',v',rfl,f',?_⟩
   rw [ZA (λe=>by subst e;exact hno _ _ _ (List.mem_of_getElem? hc')),ZA e];exact h
  obtain ⟨g1,g2⟩:=h5 k n g s a w h hs
  obtain ⟨g3,g4⟩:=g1.sealCell (sz:=sz) (y:=.sl sz false r.2) (H1:=Hm.set q (.arr sz v true r.2)) h3 hrow (j:=1) rfl (.inr ⟨q,v,f,r.2,rfl,hq,hqi,rfl,rfl⟩)
  have e1:(ZfN sz m cs rows).set m ([PC.int .i64 r.1,.ow sz q v r.2.length].set 1 (.sl sz false r.2))=ZfN sz (m+1) cs rows:=by
   rw [← hset];rfl
  rw [e1] at g3 g4
  exact ⟨g3,g2.trans g4⟩
def Zms (a:AV)(H H':List HO):Prop:=∀ (P:Program) (k:K0) (n:Nat) (g:G) (s:St) (a0:Act) (w:World),Rel k n g s a0 w->s.H=H->Rel k n g ⟨s.fr,s.bx,H'⟩ a0 w/\ZaG (cx k g H w) (cx k g H' w)
end
section
variable {H0 H H':List HO} {f0 items:List ZaL} {k sz:Nat} {a:AV} {u:Bool} {cs:List PC} {rows:List (Int×List (List PC))}
theorem Fp.deepNil (h:Fp H0 H f0 items)(sz:Nat):Fp H0 H f0 (.deep (.p (.sl 2 true [])) sz true [] []::items):=
 h.trans
  {size:=Nat.le_refl _
   same:=λ_ _ _=>rfl
   now:=h.now.cons ⟨rfl,.inl ⟨rfl,rfl⟩,λi c r hc=>by simp at hc,λ_ i j q s1 v1 l1 s2 v2 l2 hc=>by simp at hc⟩ (λid ho=>by
    rcases ho with ⟨_,_,_,_,e⟩|⟨_,_,_,hm⟩
    ·cases e
    cases hm)
   occ:=λx hx id hxo=>by
    rcases List.mem_cons.1 hx with rfl|hx
    ·rcases hxo with ⟨_,_,_,_,e⟩|⟨_,_,_,hm⟩
     ·cases e
     cases hm
    exact .inl ⟨x,hx,hxo⟩ }
theorem ZkX (h:Lies H (.deep a sz u cs rows)):OwnF 2 rows.length a:=by
 obtain ⟨_,h2,_⟩:=h
 rcases h2 with ⟨rfl,_⟩|⟨_,_,rfl,_⟩
 ·exact .a
 exact .b ..
theorem Zo0 (h:Lies H (.deep a sz u cs rows)):ZaE .len [a]=some (iv (rows.length:Nat)):=by
 obtain ⟨_,h2,_⟩:=h
 rcases h2 with ⟨rfl,rfl⟩|⟨_,_,rfl,_⟩<;>rfl
theorem Zih (h:Lies H (.deep a sz u cs rows)){i:Int}{r:Int×List (List PC)}(hi:idx rows i=some r) :
  ∃ id ver c b,a=.osl 2 id ver 0 rows.length/\cs[i.toNat]?=some c/\up c=b/\(∀ kk:IntKind,ZaE (.iaddrS 2) [a,.p (.int kk i)]=some (.optr 2 id ver (0+i.toNat) 0))/\OwnF sz r.2.length b/\Lies H (.arr b sz false r.2) ∧
   (∀ bx,rd bx H 1 (.optr 2 id ver (0+i.toNat) 0)=some [iv r.1])/\(∀ bx,rd bx H 1 (.optr 2 id ver (0+i.toNat) 1)=some [b])/\(∀ bx,rd bx H 2 (.optr 2 id ver (0+i.toNat) 0)=some [iv r.1,b]):=by
 obtain ⟨h1,h2,h3,h4⟩:=h
 have h0:0<=i/\rows[i.toNat]?=some r:=by
  unfold idx at hi
  split at hi
  ·rename_i h0;exact ⟨h0,hi⟩
  cases hi
 have hlt:=(List.getElem?_eq_some_iff.1 h0.2).1
 rcases h2 with ⟨_,e⟩|⟨id,ver,rfl,hid,hno⟩
 ·subst e;simp at hlt
 obtain ⟨c,hc⟩:∃ c,cs[i.toNat]?=some c:=⟨_,Zw (by omega)⟩
 have hrow:=Ze8 hc h0.2
 have hl:Lies H (.arr (up c) sz false r.2):=by
  rcases h3 _ c r hc h0.2 with ⟨rfl,e⟩|⟨q,v,rfl,hq⟩
  ·exact .inl ⟨rfl,e⟩
  exact .inr ⟨q,v,rfl,false,λ_=>rfl,hq⟩
 refine ⟨id,ver,c,up c,rfl,hc,rfl,λkk=>?_,ZbH hl,hl,λbx=>?_,λbx=>?_,λbx=>?_⟩
 ·simp only [ZaE]
  rw [Z3 ⟨trivial,h0.1,by omega⟩]
 all_goals
  simp only [rd,hid,and_self,Z4,ZS,hrow,ZT]
  rfl
theorem Lies.rowSet {b:AV}{rows:List (List PC)}{j:Int}{e e':List PC}{off:Nat}{ps:List PC}{cs:List AV}(h:Lies H (.arr b sz false rows))(hj:idx rows j=some e)(hu:unP cs=some ps)(hs:Zbf off ps e=some e') :
  ∃ q ver H',b=.osl sz q ver 0 rows.length/\(∀ kk:IntKind,ZaE (.iaddrS sz) [b,.p (.int kk j)]=some (.optr sz q ver (0+j.toNat) 0))/\(∀ bx,wrt bx H cs (.optr sz q ver (0+j.toNat) off)=some ⟨bx,H'⟩)/\H'=H.set q (.arr sz ver false (rows.set j.toNat e'))/\H[q]?=some (.arr sz ver false rows):=by
 have h0:0<=j/\rows[j.toNat]?=some e:=by
  unfold idx at hj
  split at hj
  ·rename_i h0;exact ⟨h0,hj⟩
  cases hj
 have hlt:=(List.getElem?_eq_some_iff.1 h0.2).1
 rcases h with ⟨_,e⟩|⟨q,ver,rfl,f,hf,hq⟩
 ·subst e;simp at hlt
 have hff:=hf rfl
 subst hff
 refine ⟨q,ver,_,rfl,λkk=>?_,λbx=>?_,rfl,hq⟩
 ·simp only [ZaE]
  rw [Z3 ⟨trivial,h0.1,by omega⟩]
 simp only [wrt,hq,ZS,and_self,Z4,h0.2,ZT,hu,hs,ZV]
theorem Zi4 (cs:List PC)(rows:List (Int×List (List PC)))(m:Nat):(ZbR cs rows)[m]?=match cs[m]?,rows[m]? with
  | some c,some r=>some [.int .i64 r.1,c]
  | _,_=>none:=by
 unfold ZbR
 rw [List.getElem?_zipWith]
 cases cs[m]?<;>cases rows[m]?<;>rfl
theorem Zig {i:Nat}{c c':PC}{r:Int×List (List PC)}(hc:cs[i]?=some c)(hr:rows[i]?=some r)(x:Int)(R:List (List PC)):ZbR (cs.set i c') (rows.set i (x,R))=(ZbR cs rows).set i [.int .i64 x,c']:=by
 have h1:=(List.getElem?_eq_some_iff.1 hc).1
 have h2:=(List.getElem?_eq_some_iff.1 hr).1
 have h3:i<(ZbR cs rows).length:=by unfold ZbR;rw [List.length_zipWith];omega
 refine List.ext_getElem? λm=>?_
 rw [Zi4,Zz,Zz,Zz]
 by_cases e:i=m
 ·subst e;simp [h1,h2,h3]
 rw [Z2 e,Z2 e,Z2 e,Zi4]
theorem ZlB {i:Nat}{c:PC}{r:Int×List (List PC)}(hc:cs[i]?=some c)(hr:rows[i]?=some r)(x:Int)(R:List (List PC)):ZbR cs (rows.set i (x,R))=(ZbR cs rows).set i [.int .i64 x,c]:=by
 have h:=Zig (c':=c) hc hr x R
 rwa [show cs.set i c=cs from by
  obtain ⟨h1,h2⟩:=List.getElem?_eq_some_iff.1 hc
  rw [← h2,List.set_getElem_self]] at h
theorem ZlA {i:Nat}{c:PC}{r:Int×List (List PC)}(hc:cs[i]?=some c)(hr:rows[i]?=some r)(R:List (List PC)):ZbR cs (rows.set i (r.1,R))=ZbR cs rows:=by
 rw [ZlB hc hr]
 obtain ⟨h1,h2⟩:=List.getElem?_eq_some_iff.1 (Ze8 hc hr)
 rw [← h2,List.set_getElem_self]
theorem ZmX (hl:cs.length=rows.length)(c:PC)(x:Int)(R:List (List PC)):ZbR (cs++[c]) (rows++[(x,R)])=ZbR cs rows++[[.int .i64 x,c]]:=by
 unfold ZbR
 rw [List.zipWith_append hl]
 rfl
theorem Fp.deepRow {i j:Int}{r:Int×List (List PC)}{e e':List PC}{b:AV}{c:PC}{off:Nat}{ps:List PC}{vs:List AV}(hF:Fp H0 H f0 items)(hk:items[k]?=some (.deep a sz true cs rows))(hi:idx rows i=some r)(hc:cs[i.toNat]?=some c)(hb:up c=b)(hj:idx r.2 j=some e)
  (hu:unP vs=some ps) (hs:Zbf off ps e=some e'):∃ q ver H',b=.osl sz q ver 0 r.2.length/\(∀ kk:IntKind,ZaE (.iaddrS sz) [b,.p (.int kk j)]=some (.optr sz q ver (0+j.toNat) 0))/\(∀ bx,wrt bx H vs (.optr sz q ver (0+j.toNat) off)=some ⟨bx,H'⟩) ∧
   Fp H0 H' f0 (items.set k (.deep a sz true cs (rows.set i.toNat (r.1,r.2.set j.toNat e')))):=by
 have hl:=hF.get k hk
 obtain ⟨id0,ver0,c0,b0,_,hc0,hb0,_,_,hbl,_⟩:=Zih hl hi
 rw [hc] at hc0
 cases hc0
 rw [hb] at hb0
 subst hb0
 obtain ⟨q,ver,H',rfl,h1,h2,rfl,h3⟩:=hbl.rowSet hj hu hs
 have hri:rows[i.toNat]?=some r:=by
  unfold idx at hi
  split at hi
  ·exact hi
  cases hi
 obtain ⟨g1,g2,g3,g4⟩:=hl
 have hcq:c=.ow sz q ver r.2.length:=by
  cases c with
  | ow s1 q1 v1 l1=>simp only [up,AV.osl.injEq] at hb;obtain ⟨rfl,rfl,rfl,_,rfl⟩:=hb;rfl
  | _=>cases hb
 subst hcq
 have hqlt:=(List.getElem?_eq_some_iff.1 h3).1
 refine ⟨q,ver,_,rfl,h1,h2,hF.step hk ⟨by rw [ZH];exact g1,?_,λm c' r' hc' hr'=>?_,g4⟩ (λ_ ho=>.inl ho) (λq' _ ho=>?_) (by simp)⟩
 ·rcases g2 with ⟨_,e1⟩|⟨id,v,rfl,hid,hno⟩
  ·subst e1;simp at hri
  refine .inr ⟨id,v,by rw [ZH],?_,hno⟩
  rw [ZlA hc hri,ZA (λe1=>by subst e1;exact hno _ _ _ (List.mem_of_getElem? hc))]
  exact hid
 ·rw [Zz] at hr'
  by_cases hm:i.toNat=m
  ·subst hm
   rw [hc] at hc'
   cases hc'
   rw [Z3 rfl] at hr'
   split at hr'
   ·cases hr'
    exact .inr ⟨q,ver,by rw [ZH],by simp [hqlt]⟩
   cases hr'
  rw [Z2 hm] at hr'
  rcases g3 m c' r' hc' hr' with h|⟨q',v',rfl,h⟩
  ·exact .inl h
  refine .inr ⟨q',v',rfl,?_⟩
  rw [ZA (λe1=>by subst e1;exact hm (g4 rfl _ _ _ _ _ _ _ _ _ hc hc'))]
  exact h
 rw [ZA]
 intro e1;subst e1
 exact ho (.inr ⟨sz,ver,_,List.mem_of_getElem? hc⟩)
theorem Fp.deepPut {i:Int}{r:Int×List (List PC)}{c:PC}{q' v':Nat}{R:List (List PC)}{H1:List HO}(hF:Fp H0 H f0 items)(hk:items[k]?=some (.deep a sz true cs rows))(hi:idx rows i=some r)(hc:cs[i.toNat]?=some c)
  (hq:H1[q']?=some (.arr sz v' false R)) (ho:(∃ s1 v1 l1,c=.ow s1 q' v1 l1)∨H.length<=q') (hsame:∀ x:Nat,x<H.length->(∀ s1 v1 l1,c≠.ow s1 x v1 l1)->H1[x]?=H[x]?) (hn:H.length<=H1.length) :
  ∃ id ver H',a=.osl 2 id ver 0 rows.length/\(∀ bx,wrt bx H1 [.osl sz q' v' 0 R.length] (.optr 2 id ver (0+i.toNat) 1)=some ⟨bx,H'⟩) ∧
   Fp H0 H' f0 (items.set k (.deep a sz true (cs.set i.toNat (.ow sz q' v' R.length)) (rows.set i.toNat (r.1,R)))):=by
 have hl:=hF.get k hk
 obtain ⟨id0,ver0,c0,b,rfl,hc0,hb,_⟩:=Zih hl hi
 have hri:rows[i.toNat]?=some r:=by
  unfold idx at hi
  split at hi
  ·exact hi
  cases hi
 have hlt:=hl.lt
 obtain ⟨g1,g2,g3,g4⟩:=hl
 rcases g2 with ⟨e,_⟩|⟨id,v,e,hid,hno⟩
 ·cases e
 simp only [AV.osl.injEq,true_and] at e
 obtain ⟨rfl,rfl,_⟩:=e
 have hidlt:=(List.getElem?_eq_some_iff.1 hid).1
 have hid1:H1[id0]?=some (.arr 2 ver0 false (ZbR cs rows)):=by
  rw [hsame id0 hidlt (λs1 v1 l1 e1=>by subst e1;exact hno _ _ _ (List.mem_of_getElem? hc))]
  exact hid
 have hqi:q'≠id0:=by
  rintro rfl
  rcases ho with ⟨s1,v1,l1,rfl⟩|h
  ·exact hno _ _ _ (List.mem_of_getElem? hc)
  omega
 have hidlt1:=(List.getElem?_eq_some_iff.1 hid1).1
 have hcl:i.toNat<cs.length:=(List.getElem?_eq_some_iff.1 hc).1
 have hrl:i.toNat<rows.length:=(List.getElem?_eq_some_iff.1 hri).1
 have hrow:=Ze8 hc hri
 have hother:∀ (m:Nat) s1 x v1 l1,m≠i.toNat->cs[m]?=some (.ow s1 x v1 l1)->x≠q'/\x<H.length/\∀ s2 v2 l2,c≠.ow s2 x v2 l2:=by
  intro m s1 x v1 l1 hm hx
  have h1:x<H.length:=hlt x (.inr ⟨s1,v1,l1,List.mem_of_getElem? hx⟩)
  refine ⟨?_,h1,λs2 v2 l2 e1=>?_⟩
  ·rintro rfl
   rcases ho with ⟨s2,v2,l2,rfl⟩|h
   ·exact hm (g4 rfl _ _ _ _ _ _ _ _ _ hx hc)
   omega
  subst e1
  exact hm (g4 rfl _ _ _ _ _ _ _ _ _ hx hc)
 refine ⟨id0,ver0,H1.set id0 (.arr 2 ver0 false ((ZbR cs rows).set i.toNat [.int .i64 r.1,.ow sz q' v' R.length])),rfl,λbx=>?_,hF.step hk ⟨by simpa using g1,.inr ⟨id0,ver0,by rw [ZH],by rw [Zig hc hri];simp [hidlt1],λs1 v1 l1 hm=>?_⟩,λm c' r' hc' hr'=>?_,λ_ i1 i2 x s1 v1 l1 s2 v2 l2 e1 e2=>?_⟩ (λx hx=>?_) (λx hx hox=>?_) (by simpa using hn)⟩
 ·simp only [wrt,hid1,and_self,Z4,ZS,hrow,ZT]
  rfl
 ·rcases List.mem_or_eq_of_mem_set hm with hm|e1
  ·exact hno _ _ _ hm
  simp only [PC.ow.injEq] at e1
  exact hqi e1.2.1.symm
 ·rw [Zz] at hc' hr'
  by_cases hm:i.toNat=m
  ·subst hm
   rw [Z3 rfl,Z3 hcl] at hc'
   rw [Z3 rfl,Z3 hrl] at hr'
   cases hc'
   cases hr'
   refine .inr ⟨q',v',rfl,?_⟩
   rw [ZA (Ne.symm hqi)]
   exact hq
  rw [Z2 hm] at hc' hr'
  rcases g3 m c' r' hc' hr' with h|⟨x,v1,rfl,h⟩
  ·exact .inl h
  obtain ⟨o1,o2,o3⟩:=hother m _ _ _ _ (Ne.symm hm) hc'
  refine .inr ⟨x,v1,rfl,?_⟩
  rw [ZA (λe1=>by subst e1;exact hno _ _ _ (List.mem_of_getElem? hc')),hsame x o2 o3]
  exact h
 ·rw [Zz] at e1 e2
  by_cases h1:i.toNat=i1<;>by_cases h2:i.toNat=i2
  ·omega
  ·subst h1
   rw [Z3 rfl,Z3 hcl] at e1
   rw [Z2 h2] at e2
   simp only [ZW,PC.ow.injEq] at e1
   obtain ⟨_,rfl,_⟩:=e1
   exact absurd rfl (hother i2 _ _ _ _ (Ne.symm h2) e2).1
  ·subst h2
   rw [Z3 rfl,Z3 hcl] at e2
   rw [Z2 h1] at e1
   simp only [ZW,PC.ow.injEq] at e2
   obtain ⟨_,rfl,_⟩:=e2
   exact absurd rfl (hother i1 _ _ _ _ (Ne.symm h1) e1).1
  rw [Z2 h1] at e1
  rw [Z2 h2] at e2
  exact g4 rfl _ _ _ _ _ _ _ _ _ e1 e2
 ·rcases hx with ⟨s1,v1,o1,l1,e1⟩|⟨s1,v1,l1,hm⟩
  ·exact .inl (.inl ⟨s1,v1,o1,l1,e1⟩)
  rcases List.mem_or_eq_of_mem_set hm with hm|e1
  ·exact .inl (.inr ⟨_,_,_,hm⟩)
  simp only [PC.ow.injEq] at e1
  obtain ⟨_,rfl,_⟩:=e1
  rcases ho with ⟨s2,v2,l2,rfl⟩|h
  ·exact .inl (.inr ⟨_,_,_,List.mem_of_getElem? hc⟩)
  exact .inr h
 rw [ZA (λe1=>by subst e1;exact hox (.inl ⟨2,ver0,0,_,rfl⟩))]
 exact hsame x hx λs1 v1 l1 e1=>by subst e1;exact hox (.inr ⟨_,_,_,List.mem_of_getElem? hc⟩)
theorem ZkY {bytes:Nat}{H1:List HO}(hl:Lies H (.deep a sz u cs rows))(x:Int)(c:PC)(R:List (List PC))(hH1:H1=H++[.arr 2 0 false [[.int .i64 x,c]]])
  (hcR:(c=.sl sz true []/\R=[])∨∃ q v,c=.ow sz q v R.length/\H[q]?=some (.arr sz v false R)/\∀ s1 v1 o1 l1,a≠.osl s1 q v1 o1 l1) (u':Bool)
  (hu:u'=true->u=true/\∀ s1 q v1 l1,c=.ow s1 q v1 l1->∀ s2 v2 l2,.ow s2 q v2 l2 ∉ cs) (hb1:(rows.length+1)*bytes<=140737488355328) (hb2:rows.length+1<=140737488355328) :
  ∃ a' H2,appV H1 2 bytes a [[.int .i64 x,c]]=some (a',H2)/\Lies H2 (.deep a' sz u' (cs++[c]) (rows++[(x,R)]))/\H.length<=H2.length/\(∀ id:Nat,id<H.length->(∀ s1 v1 o1 l1,a≠.osl s1 id v1 o1 l1)->H2[id]?=H[id]?) ∧
   (∀ id,(∃ s1 v1 o1 l1,a'=.osl s1 id v1 o1 l1)->(∃ s1 v1 o1 l1,a=.osl s1 id v1 o1 l1)∨H.length<=id):=by
 have hlt:=hl.lt
 obtain ⟨g1,g2,g3,g4⟩:=hl
 have huniq:u'=true->∀ (i j q s1 v1 l1 s2 v2 l2:Nat),(cs++[c])[i]?=some (.ow s1 q v1 l1)->(cs++[c])[j]?=some (.ow s2 q v2 l2)->i=j:=by
  intro hu' i j q s1 v1 l1 s2 v2 l2 e1 e2
  obtain ⟨hu1,hu2⟩:=hu hu'
  by_cases h1:i<cs.length<;>by_cases h2:j<cs.length
  ·rw [Zr h1] at e1
   rw [Zr h2] at e2
   exact g4 hu1 _ _ _ _ _ _ _ _ _ e1 e2
  ·rw [Zr h1] at e1
   rw [Zs (by omega)] at e2
   have:c=.ow s2 q v2 l2:=by
    have h3:=(List.getElem?_eq_some_iff.1 e2).1
    have:j-cs.length=0:=by simp at h3;omega
    rw [this] at e2;simpa using e2
   exact absurd (List.mem_of_getElem? e1) (hu2 _ _ _ _ this _ _ _)
  ·rw [Zr h2] at e2
   rw [Zs (by omega)] at e1
   have:c=.ow s1 q v1 l1:=by
    have h3:=(List.getElem?_eq_some_iff.1 e1).1
    have:i-cs.length=0:=by simp at h3;omega
    rw [this] at e1;simpa using e1
   exact absurd (List.mem_of_getElem? e2) (hu2 _ _ _ _ this _ _ _)
  have h3:=(List.getElem?_eq_some_iff.1 e1).1
  have h4:=(List.getElem?_eq_some_iff.1 e2).1
  simp at h3 h4
  omega
 have hrowsAt:∀ (m:Nat) c' r',(cs++[c])[m]?=some c'->(rows++[(x,R)])[m]?=some r'->(cs[m]?=some c'/\rows[m]?=some r')∨(c'=c/\r'=(x,R)):=by
  intro m c' r' e1 e2
  by_cases h1:m<cs.length
  ·rw [Zr h1] at e1
   rw [Zr (by omega)] at e2
   exact .inl ⟨e1,e2⟩
  have h3:=(List.getElem?_eq_some_iff.1 e1).1
  simp at h3
  have:m=cs.length:=by omega
  subst this
  rw [Zs (by omega)] at e1
  rw [Zs (by omega)] at e2
  simp only [Nat.sub_self,Zu,ZW] at e1
  rw [g1,Nat.sub_self] at e2
  simp only [Zu,ZW] at e2
  exact .inr ⟨e1.symm,e2.symm⟩
 have hqlt:∀ s1 q v1 l1,.ow s1 q v1 l1∈cs++[c]->q<H.length:=by
  intro s1 q v1 l1 hm
  rcases List.mem_append.1 hm with hm|hm
  ·exact hlt q (.inr ⟨_,_,_,hm⟩)
  simp only [ZM] at hm
  rcases hcR with ⟨e,_⟩|⟨q2,v2,e,h,_⟩
  ·rw [e] at hm;cases hm
  rw [e] at hm;cases hm
  exact (List.getElem?_eq_some_iff.1 h).1
 have hdr:=ZmX g1 c x R
 subst hH1
 rcases g2 with ⟨rfl,rfl⟩|⟨id,v,rfl,hid,hno⟩
 ·have hcs:cs=[]:=List.eq_nil_of_length_eq_zero (by simpa using g1)
  subst hcs
  simp only [ZG,ZS] at hb1 hb2
  refine ⟨.osl 2 (H.length+1) 0 0 1,(H++[HO.arr 2 0 false [[PC.int .i64 x,c]]])++[.arr 2 0 false [[.int .i64 x,c]]],?_,⟨by simp,.inr ⟨H.length+1,0,rfl,?_,λs1 v1 l1 hm=>?_⟩,λm c' r' e1 e2=>?_,huniq⟩,by simp,λid hid _=>by rw [Zn,Zr hid],λid ho=>?_⟩
  ·simp only [appV]
   rw [Z3 ⟨rfl,trivial,trivial,by simpa using hb1,by simpa using hb2⟩,Z2 (by simp)]
   simp
  ·rw [hdr]
   rw [Zs (by simp)]
   simp [ZbR]
  ·have:=hqlt _ _ _ _ hm
   omega
  ·rcases hrowsAt m c' r' e1 e2 with ⟨e,_⟩|⟨rfl,rfl⟩
   ·simp at e
   rcases hcR with ⟨e3,e4⟩|⟨q,v,e3,h,_⟩
   ·exact .inl ⟨e3,e4⟩
   refine .inr ⟨q,v,e3,?_⟩
   rw [Zn,Zr (List.getElem?_eq_some_iff.1 h).1]
   exact h
  obtain ⟨_,_,_,_,e⟩:=ho
  cases e
  exact .inr (by omega)
 have hidlt:=(List.getElem?_eq_some_iff.1 hid).1
 have hid1:(H++[HO.arr 2 0 false [[PC.int .i64 x,c]]])[id]?=some (.arr 2 v false (ZbR cs rows)):=by rw [Zr hidlt];exact hid
 have hdl:=Zf9 g1
 refine ⟨.osl 2 id (v+1) 0 (rows.length+1),(H++[HO.arr 2 0 false [[PC.int .i64 x,c]]]).set id (HO.arr 2 (v+1) false (ZbR cs rows++[[PC.int .i64 x,c]])),?_,⟨by simp [g1],.inr ⟨id,v+1,by simp,?_,λs1 v1 l1 hm=>?_⟩,λm c' r' e1 e2=>?_,huniq⟩,by simp,λid' hid' hne=>?_,λid' ho=>?_⟩
 ·simp only [appV,hid1]
  rw [Z3 ⟨trivial,trivial,trivial,trivial,by simpa using hb1,by simpa using hb2,hdl.symm⟩]
  rfl
 ·rw [hdr]
  rw [List.getElem?_set_self (by simp;omega)]
 ·rcases List.mem_append.1 hm with hm|hm
  ·exact hno _ _ _ hm
  simp only [ZM] at hm
  rcases hcR with ⟨e,_⟩|⟨q2,v2,e,h,h'⟩
  ·rw [e] at hm;cases hm
  rw [e] at hm;cases hm
  exact h' _ _ _ _ rfl
 ·have keep:∀ (q:Nat) x',q≠id->H[q]?=some x'->((H++[HO.arr 2 0 false [[PC.int .i64 x,c]]]).set id (HO.arr 2 (v+1) false (ZbR cs rows++[[.int .i64 x,c]])))[q]?=some x':=λq x' hq h=>by
   rw [ZA (Ne.symm hq),Zr (List.getElem?_eq_some_iff.1 h).1];exact h
  rcases hrowsAt m c' r' e1 e2 with ⟨e3,e4⟩|⟨rfl,rfl⟩
  ·rcases g3 m c' r' e3 e4 with h|⟨q,v1,rfl,h⟩
   ·exact .inl h
   exact .inr ⟨q,v1,rfl,keep q _ (λe=>by subst e;exact hno _ _ _ (List.mem_of_getElem? e3)) h⟩
  rcases hcR with ⟨e3,e4⟩|⟨q,v1,e3,h,h'⟩
  ·exact .inl ⟨e3,e4⟩
  exact .inr ⟨q,v1,e3,keep q _ (λe=>by subst e;exact h' _ _ _ _ rfl) h⟩
 ·rw [ZA (λe=>by subst e;exact hne _ _ _ _ rfl),Zr hid']
 obtain ⟨_,_,_,_,e⟩:=ho
 cases e
 exact .inl ⟨_,_,_,_,rfl⟩
theorem ZoV {x:Int}{b:AV}{c:PC}(h:up c=b)(hc:(∃ z,c=.sl z true [])∨∃ s1 q v l,c=.ow s1 q v l):ZdJ unF 2 [.agg [iv x,b]]=some [[.int .i64 x,c]]:=by
 subst h
 rcases hc with ⟨z,rfl⟩|⟨s1,q,v,l,rfl⟩<;>rfl
theorem ZnM (H:List HO)(R:List (List PC)):Zdr (H++[.arr 2 0 false R]) 2 (.osl 2 H.length 0 0 R.length)=some R:=by
 simp [Zdr,sub]
theorem Fp.deepApp {j bytes:Nat}{b:AV}{R:List (List PC)}(hF:Fp H0 H f0 items)(hk:items[k]?=some (.deep a sz true cs rows))(hj:items[j]?=some (.arr b sz false R))(hne:k≠j)(x:Int)
  (hb1:(rows.length+1)*bytes<=140737488355328) (hb2:rows.length+1<=140737488355328) :
  ∃ c a' H2,ZdJ unF 2 [.agg [iv x,b]]=some [[.int .i64 x,c]]/\appV (H++[.arr 2 0 false [[.int .i64 x,c]]]) 2 bytes a [[.int .i64 x,c]]=some (a',H2) ∧
   Fp H0 H2 f0 ((items.set j (.arr (.p (.sl sz true [])) sz false [])).set k (.deep a' sz true (cs++[c]) (rows++[(x,R)]))):=by
 have hbl:=hF.get j hj
 obtain ⟨c,hc,hcR⟩:∃ c,up c=b/\((c=.sl sz true []/\R=[])∨∃ q v,c=.ow sz q v R.length/\H[q]?=some (.arr sz v false R)):=by
  rcases hbl with ⟨rfl,h⟩|⟨q,v,rfl,f,hf,h⟩
  ·exact ⟨.sl sz true [],rfl,.inl ⟨rfl,h⟩⟩
  have hff:=hf rfl
  subst hff
  exact ⟨.ow sz q v R.length,rfl,.inr ⟨q,v,rfl,h⟩⟩
 have happ:∀ q,(∃ s1 v1 l1,c=.ow s1 q v1 l1)->∀ (m:Nat) x,m≠j->items[m]?=some x->¬ Occ x q:=by
  rintro q ⟨s1,v1,l1,rfl⟩ m x hm hx ho
  exact hF.now.apart hj hx (Ne.symm hm) ⟨s1,v1,0,l1,hc.symm⟩ ho
 obtain ⟨a',H2,h1,h2,h3,h4,h5⟩:=ZkY (H1:=H++[.arr 2 0 false [[.int .i64 x,c]]]) (bytes:=bytes) (hF.get k hk) x c R rfl (hcR.imp id λ⟨q,v,e,h⟩=>⟨q,v,e,h,λs1 v1 o1 l1 e1=>happ q ⟨_,_,_,e⟩ k _ hne hk (.inl ⟨_,_,_,_,e1⟩)⟩) true
  (λ_=>⟨rfl,λs1 q v1 l1 e s2 v2 l2 hm=>happ q ⟨_,_,_,e⟩ k _ hne hk (.inr ⟨_,_,_,hm⟩)⟩) hb1 hb2
 refine ⟨c,a',H2,ZoV hc (hcR.imp (λh=>⟨_,h.1⟩) λ⟨q,v,e,_⟩=>⟨_,_,_,_,e⟩),h1,?_⟩
 have hN:Fp H0 H f0 (items.set j (.arr (.p (.sl sz true [])) sz false [])):=hF.step hj (.inl ⟨rfl,rfl⟩) (λid ⟨_,_,_,_,e⟩=>by cases e) (λ_ _ _=>rfl) (Nat.le_refl _)
 have hk1:(items.set j (.arr (.p (.sl sz true [])) sz false []))[k]?=some (.deep a sz true cs rows):=by rw [ZA (Ne.symm hne)];exact hk
 have hocc:∀ q,Occ (.deep a' sz true (cs++[c]) (rows++[(x,R)])) q->Occ (.deep a sz true cs rows) q∨Occ (.arr b sz false R) q∨H.length<=q:=by
  rintro q (ho|⟨s1,v1,l1,hm⟩)
  ·rcases h5 q ho with h|h
   ·exact .inl (.inl h)
   exact .inr (.inr h)
  rcases List.mem_append.1 hm with hm|hm
  ·exact .inl (.inr ⟨_,_,_,hm⟩)
  simp only [ZM] at hm
  subst hm
  exact .inr (.inl ⟨s1,v1,0,l1,hc.symm⟩)
 have hsame:∀ q,q<H.length->¬ Occ (.deep a sz true cs rows) q->H2[q]?=H[q]?:=λq hq ho=>h4 q hq λs1 v1 o1 l1 e=>ho (.inl ⟨_,_,_,_,e⟩)
 refine hF.trans
  {size:=h3
   same:=λq hq hno=>hsame q hq (hno _ (List.mem_of_getElem? hk))
   now:=hN.now.replaceX hk1 h2 (λq hq=>?_) hsame
   occ:=λy hy q hyo=>?_ }
 ·rcases hocc q hq with h|h|h
  ·exact .inl h
  ·refine .inr λm y hm hy ho=>?_
   by_cases hmj:j=m
   ·subst hmj
    rw [Zz] at hy
    rw [Z3 rfl] at hy
    split at hy
    ·cases hy
     obtain ⟨_,_,_,_,e1⟩:=ho
     cases e1
    cases hy
   rw [ZA hmj] at hy
   exact hF.now.apart hj hy hmj h ho
  refine .inr λm y hm hy ho=>?_
  have:=hN.now.lies y (List.mem_of_getElem? hy) |>.lt q ho
  omega
 rcases List.mem_or_eq_of_mem_set hy with hy|rfl
 ·rcases List.mem_or_eq_of_mem_set hy with hy|rfl
  ·exact .inl ⟨y,hy,hyo⟩
  obtain ⟨_,_,_,_,e1⟩:=hyo
  cases e1
 rcases hocc q hyo with h|h|h
 ·exact .inl ⟨_,List.mem_of_getElem? hk,h⟩
 ·exact .inl ⟨_,List.mem_of_getElem? hj,h⟩
 exact .inr h
theorem Fp.deepSeal (hF:Fp H0 H f0 items)(hk:items[k]?=some (.deep a sz u cs rows)):∃ H',Zms a H H'/\Fp H0 H' f0 (items.set k (.arr a 2 false (rows.map λr=>[.int .i64 r.1,.sl sz false r.2]))):=by
 have hl:=hF.get k hk
 obtain ⟨g1,g2,g3,g4⟩:=hl
 rcases g2 with ⟨rfl,rfl⟩|⟨id,v,rfl,hid,hno⟩
 ·refine ⟨H,λP k n g s a0 w h hs=>⟨by subst hs;exact h,ZaG.refl _⟩,hF.step hk (.inl ⟨rfl,rfl⟩) (λid ⟨_,_,_,_,e⟩=>by cases e) (λ_ _ _=>rfl) (Nat.le_refl _)⟩
 obtain ⟨Hm,h1,h2,h3,_,h5⟩:=Znt g1 hid hno (λi c r hc hr=>(g3 i c r hc hr).imp (λh=>h) λ⟨q,v,e,h⟩=>⟨q,v,e,false,h⟩) rows.length (Nat.le_refl _)
 have hm:ZfN sz rows.length cs rows=rows.map λr=>[.int .i64 r.1,.sl sz false r.2]:=by
  unfold ZfN
  rw [List.take_length,List.drop_eq_nil_of_le (by rw [Zf9 g1];exact Nat.le_refl _),List.append_nil]
 rw [hm] at h3
 refine ⟨Hm,λP=>h5,hF.step hk (.inr ⟨id,v,by rw [ZF],false,λ_=>rfl,h3⟩) (λq ⟨_,_,_,_,e⟩=>by cases e;exact .inl (.inl ⟨_,_,_,_,rfl⟩)) (λq _ ho=>h2 q (λe=>by subst e;exact ho (.inl ⟨2,v,0,_,rfl⟩)) λs1 v1 l1 hm=>ho (.inr ⟨_,_,_,hm⟩)) (by omega)⟩
theorem Fp.deepIn {bytes:Nat}{i:Int}{r:Int×List (List PC)}{c:PC}{b:AV}{m:List (List PC)}(hF:Fp H0 H f0 items)(hk:items[k]?=some (.deep a sz true cs rows))(hi:idx rows i=some r)(hc:cs[i.toNat]?=some c)(hb:up c=b)(hm:m≠[])
  (hb1:(r.2.length+m.length)*bytes<=140737488355328) (hb2:r.2.length+m.length<=140737488355328) :
  ∃ q v H1 id ver H2,appV H sz bytes b m=some (.osl sz q v 0 (r.2++m).length,H1)/\a=.osl 2 id ver 0 rows.length/\(∀ bx,wrt bx H1 [.osl sz q v 0 (r.2++m).length] (.optr 2 id ver (0+i.toNat) 1)=some ⟨bx,H2⟩) ∧
   Fp H0 H2 f0 (items.set k (.deep a sz true (cs.set i.toNat (.ow sz q v (r.2++m).length)) (rows.set i.toNat (r.1,r.2++m)))):=by
 have hl:=hF.get k hk
 have hri:rows[i.toNat]?=some r:=by
  unfold idx at hi
  split at hi
  ·exact hi
  cases hi
 rcases hl.2.2.1 _ c r hc hri with ⟨rfl,hr2⟩|⟨q,v,rfl,hq⟩
 ·subst hb
  have hml:m.length<=140737488355328:=by omega
  obtain ⟨id,ver,H2,e1,e2,e3⟩:=hF.deepPut (R:=r.2++m) (q':=H.length) (v':=0) (H1:=H++[.arr sz 0 false (r.2++m)]) hk hi hc (by simp) (.inr (Nat.le_refl _)) (λx hx _=>Zr hx) (by simp)
  refine ⟨H.length,0,_,id,ver,H2,?_,e1,e2,e3⟩
  rw [hr2] at hb1 hb2 ⊢
  simp only [up,appV]
  rw [Z3 ⟨rfl,trivial,trivial,by simpa using hb1,by simpa using hb2⟩,Z2 hm]
  simp
 subst hb
 have hqlt:=(List.getElem?_eq_some_iff.1 hq).1
 obtain ⟨id,ver,H2,e1,e2,e3⟩:=hF.deepPut (R:=r.2++m) (q':=q) (v':=v+1) (H1:=H.set q (.arr sz (v+1) false (r.2++m))) hk hi hc (by simp [hqlt]) (.inl ⟨_,_,_,rfl⟩) (λx hx hn=>by
  rw [ZA (λe=>by subst e;exact hn _ _ _ rfl)]) (by simp)
 refine ⟨q,v+1,_,id,ver,H2,?_,e1,e2,e3⟩
 simp only [up,appV,hq]
 rw [Z3 ⟨trivial,trivial,trivial,trivial,hb1,hb2,trivial⟩,ZD]
end
end Go.Eng

namespace Go.Eng
open Go
def ZlM (P:Program)(f:Nat)(args:List AV)(H:List HO)(t:TypeId)(H':List HO):Prop :=
 Zho P f/\∀ (ok0:Addr->Prop) (ρ:List Nat) (w:World) (vs:List Value),
  HR (k0 ok0 ρ H w) ρ H w->VRL (cx (k0 ok0 ρ H w) ⟨ρ,noB⟩ H w) args vs →
  Calls P f vs.toArray w λe w'=>∃ ρ',e=.panicked (pvl t)/\HR (k0 ok0 ρ H w) ρ' H' w' ∧
   ZaG (cx (k0 ok0 ρ H w) ⟨ρ,noB⟩ H w) (cx (k0 ok0 ρ H w) ⟨ρ',noB⟩ H' w')
def DOp (P:Program)(o:IOp)(s:St)(t:TypeId)(H2:List HO):Prop :=
 (match o.g with
  | none=>True
  | some (u,b)=>get s.fr u=.p (.bool b))/\∃ d f xs args H1,o.i=.call d f xs/\Pass s.H (xs.map (ev s.fr)) args H1/\ZlM P f args H1 t H2
section
variable {P:Program} {k:K0} {n:Nat} {g:G} {s s1:St} {a:Act} {w:World} {t:TypeId} {H' H2:List HO}
theorem Rel.dcall (h:Rel k n g s a w){f:Nat}{args:List AV}{vs:List Value}(hc:ZlM P f args s.H t H')(hargs:VRL (cx k g s.H w) args vs)(hno:noLocL args=true)
  {R:Ending->World->Prop} (hR:∀ g' w',Rel k n g' ⟨s.fr,s.bx,H'⟩ a w'->R (.panicked (pvl t)) w'):Calls P f vs.toArray w R:=by
 obtain ⟨_,hc⟩:=hc
 refine (hc (okOf k s.H g) g.ρ w vs h.hr (VRL.later h.laterCall args vs hno hargs)).mono ?_
 rintro e w' ⟨ρ',rfl,h1,h3⟩
 obtain ⟨h4,h5⟩:=h.back h1 h3
 exact hR _ _ h4
theorem Zo1 (h:Rel k n g s a w){o:Oper}{f:Nat}{xs args:List AV}{vs:List Value}{H1:List HO}(hf:Pass s.H xs args H1)(ht:∀ x∈xs,top x=true)(hv:VRL (cx k g s.H w) xs vs)
  (hc:ZlM P f args H1 t H2) (hrun:(execOp a.eval o).run P w=.ok (.enter f vs.toArray) w) {K:Act->World->Prop} {Q:Exit->Act->World->Prop}
  (hQ:∀ g' w',Rel k n g' ⟨s.fr,s.bx,H2⟩ a w'->Q (.panic (pvl t)) a w'):o.wp P a w K Q:=by
 obtain ⟨r1,l1,v1,n1⟩:=Zjh xs h hf ht hv
 unfold Oper.wp
 rw [hrun]
 exact r1.dcall hc v1 n1 λg' w' h2=>hQ g' w' h2
theorem ZpS {ops:Array Oper}(h:Rel k n g s a w){i:Nat}{o:Oper}{io:IOp}(hi:ops[i]?=some o)(hc:ZlE P n ops o io=true)(hs:DOp P io s t H2)(r:Option Nat){K:Act->World->Prop}{Q:Exit->Act->World->Prop}
  (hQ:∀ g' w',Rel k n g' ⟨s.fr,s.bx,H2⟩ a w'->Q (.panic (pvl t)) a w'):wpOpIn (FR r) 0 P ops Q i K a w:=by
 simp only [ZlE,Ze] at hc
 obtain ⟨⟨hg,hc⟩,hnd⟩:=hc
 have hnd:=Zh0 hnd
 obtain ⟨hs1,d,f,xs,args,H1,hii,hp,hd⟩:=hs
 have key:o.wpIn (FR r) 0 P a w K Q:=by
  refine Oper.wpIn_of_wp r hnd ?_
  rw [hii] at hc
  simp only [Za6,Ze] at hc
  obtain ⟨_,hc⟩:=hc
  split at hc
  ·rename_i f' args' ts hop
   simp only [Ze,Z0] at hc
   obtain ⟨rfl,hm⟩:=hc
   refine Zo1 h hp (Za5 h hm) (Zat h hm) hd ?_ hQ
   simp only [execOp,hop,resolve,Act.eval,Deferred.ofValue,Sem.run_bind,Sem.run_pure,Result.andThen_ok,invoke]
   rw [Zb7 hd.1]
   congr 2
   apply Array.ext'
   simp
  cases hc
 unfold wpOpIn
 rw [hi]
 simp only
 unfold Zly at hg
 split at hg
 ·rename_i hog hig
  rw [Z3 (by simp [Region.wanted,hog])]
  exact key
 ·rename_i j b u b' hog hig
  rw [hig] at hs1
  simp only at hs1
  simp only [Ze,Z0] at hg
  obtain ⟨hj,rfl⟩:=hg
  have hslot:=h.slots u
  rw [hs1] at hslot
  have hval:=ZfR hslot
  have hlt:u<a.tmps.size:=by
   rcases Nat.lt_or_ge u a.tmps.size with h1|h1
   ·exact h1
   simp [Array.getD,Nat.not_lt.2 h1,undef] at hval
  have hy:yielded ops a.tmps j=some b:=by
   unfold yielded
   rw [hj]
   have:a.tmps[u]?=some (.bool b):=by
    rw [Za,Zb hlt] at hval
    rw [Zb hlt]
    simpa using hval
   simp [this]
  rw [Z3 (by simp [Region.wanted,hog,hy])]
  exact key
 cases hg
theorem ZnE {ops:Array Oper}{r:Option Nat}{Q:Exit->Act->World->Prop}:∀ (os:List Oper) (pre:List IOp) (o:IOp) (post:List IOp) (st:Nat) {g:G} {s:St} {a:Act} {w:World},(∀ j,os[j]?=ops[st+j]?)->Zca P n ops os (pre++o::post)=true->Rel k n g s a w->Z7 P pre s s1->DOp P o s1 t H2 →
  (∀ g' a' w',Rel k n g' ⟨s1.fr,s1.bx,H2⟩ a' w'->Q (.panic (pvl t)) a' w')->wpOpsIn (FR r) 0 P ops Q (List.range' st os.length) a w
 | [],pre,o,post,st,g,s,a,w,_,hc,_,_,_,_=>by cases pre<;>simp [Zca] at hc
 | x::os,[],o,post,st,g,s,a,w,hos,hc,h,hp,hd,hQ=>by
  simp only [Z7] at hp
  subst hp
  simp only [ZN,Zca,Ze] at hc
  have h0:=hos 0
  simp only [Zu,ZR] at h0
  simp only [ZE,ZO]
  rw [wpOpsIn_cons]
  exact ZpS h h0.symm hc.1 hd r λg' w' h3=>hQ g' a w' h3
 | x::os,io::pre,o,post,st,g,s,a,w,hos,hc,h,hp,hd,hQ=>by
  simp only [Z7] at hp
  obtain ⟨s2,h1,h2⟩:=hp
  simp only [Zp,Zca,Ze] at hc
  have h0:=hos 0
  simp only [Zu,ZR] at h0
  simp only [ZE,ZO]
  rw [wpOpsIn_cons]
  refine Zhf h h0.symm hc.1 h1 r (λg' a' w' h3=>?_)
  exact ZnE os pre o post (st+1) (λj=>by have:=hos (j+1);simpa [ZP,Nat.add_comm 1 j] using this) hc.2 h3 h2 hd hQ
theorem Zps {ops pre post:List IOp}{o:IOp}{keep:List Nat}(e:ops=pre++o::post)(hp:Z7 P pre s s1)(hd:DOp P o s1 t H2)(ks:List Nat):EvI P n (.reg ops keep) s (λe1 s2=>e1=.panic (pvl t)/\s2=ZcU ks ⟨s1.fr,s1.bx,H2⟩):=by
 intro c hc k g a w hr
 cases c<;>simp only [chkC,Zg,Ze,Zh] at hc
 rename_i id xs draw
 obtain ⟨rfl,hc⟩:=hc
 subst e
 refine wpIn_region ?_
 have:=ZnE (r:=k.rd) (Q:=λe a' w'=>∃ s' g',Rel k n g' s' a' w'/\e=.panic (pvl t)/\s'=ZcU ks ⟨s1.fr,s1.bx,H2⟩) xs.toList pre o post 0 (by simp) hc hr hp hd (λg' a' w' h3=>let ⟨g2,h4⟩:=h3.keepOnly ks; ⟨_,g2,h4,rfl,rfl⟩)
 rwa [Zd,← List.range_eq_range'] at this
theorem Zpi {ops:List IOp}{keep:List Nat}{Q:Exit->St->Prop}(m:Nat)(o:IOp)(ho:ops[m]?=some o)(hp:Z7 P (ops.take m) s s1)(hd:DOp P o s1 t H2)(ks:List Nat)(hQ:Q (.panic (pvl t)) (ZcU ks ⟨s1.fr,s1.bx,H2⟩)):vc P n (.box (.reg ops keep)) Q s:=by
 refine ⟨_,_,Zps (pre:=ops.take m) (o:=o) (post:=ops.drop (m+1)) ?_ hp hd ks,hQ⟩
 obtain ⟨hlt,e⟩:=List.getElem?_eq_some_iff.1 ho
 rw [← e,← List.drop_eq_getElem_cons hlt,List.take_append_drop]
theorem ZpI {ic:IC}{Q:Exit->St->Prop}(h:vc P n ic Q s):vc P n (.box ic) Q s:=by
 obtain ⟨e,s',h1,h2⟩:=vcd ic h
 exact ⟨e,s',Zaw ic _ s h1,h2⟩
@[reducible] def endX (R:St->Prop)(t:TypeId)(D:St->Prop):Exit->St->Prop
 | .normal,s | .ret,s=>R s
 | .panic ch,s=>ch=pvl t/\D s
 | _,_=>False
theorem Zo2 {f:Nat}{F:IFn}(hk:chkF P f F=true){args:List AV}{H H':List HO}(hl:args.length=F.nargs)(hno:noLocL args=true)
  (h:EvI P F.nt F.body ⟨ZdT args 0,[],H⟩ (λe s'=>e=.panic (pvl t)/\s'.H=H')):ZlM P f args H t H':=by
 unfold chkF at hk
 split at hk
 ·rename_i fn hf
  split at hk
  ·rename_i c hb
   simp only [Ze,Z0,Zh] at hk
   obtain ⟨⟨⟨⟨hc,hres⟩,hna⟩,hnt⟩,hname⟩:=hk
   refine ⟨⟨fn,hf,by rw [hb];rfl,hname⟩,λok0 ρ w vs hhr hv=>?_⟩
   have hrel:=Zei (n:=fn.ntmps) hhr hv hno (by omega)
   refine Zgc (r:=none) (m:=0) (callsIn_of_wp_marks hf hb trivial (wpIn_mono (h c (by rw [← hnt];exact hc) _ _ _ _ (by rw [← hnt];exact hrel)) ?_))
   rintro e a' w' ⟨s',g',h1,rfl,rfl⟩
   refine h1.leavesU (by simp) λw2 h2=>?_
   exact ⟨g'.ρ,rfl,h2.toHR,h2.hist.trans h2.noBoxes⟩
  cases hk
 cases hk
theorem Zoe {f:Nat}{F:IFn}(hk:chkF P f F=true){args:List AV}{H:List HO}(t:TypeId)(K:AV->List HO->Prop)(D:List HO->Prop)(hK:∀ r H,K r H->ZaA r=true)(hl:args.length=F.nargs)(hno:noLocL args=true)
  (h:vc P F.nt F.body (endX (λs'=>∃ xs,rawL s' F.res=some xs/\K (ZbL xs) s'.H) t (λs'=>D s'.H)) ⟨ZdT args 0,[],H⟩):(∃ r H',ZbQ P f args H r H'/\K r H')∨∃ H',ZlM P f args H t H'/\D H':=by
 obtain ⟨e,s',h1,h2⟩:=vcd _ h
 have key:(∃ xs,rawL s' F.res=some xs/\K (ZbL xs) s'.H)->(e=.normal∨e=.ret)->∃ r H',ZbQ P f args H r H'/\K r H':=by
  rintro ⟨xs,x1,x3⟩ he
  refine ⟨ZbL xs,s'.H,Zj5 hk hl hno (hK _ _ x3) (Zaw _ _ _ (ZbS _ (λe1 s1 q=>?_) h1)),x3⟩
  obtain ⟨q1,q2⟩:=q
  subst q1 q2
  rcases he with rfl|rfl
  ·exact ⟨xs,x1,rfl,rfl⟩
  exact ⟨xs,x1,rfl,rfl⟩
 cases e with
 | normal=>exact .inl (key h2 (.inl rfl))
 | ret=>exact .inl (key h2 (.inr rfl))
 | panic ch =>
  obtain ⟨rfl,h3⟩:=h2
  refine .inr ⟨s'.H,Zo2 hk hl hno (Zaw _ _ _ (ZbS _ (λe1 s1 q=>?_) h1)),h3⟩
  obtain ⟨q1,q2⟩:=q
  subst q1 q2
  exact ⟨rfl,rfl⟩
 | _=>exact h2.elim
theorem ZlV {d:Nat}{x:IX}{m id off:Nat}{isA:Bool}{zs:List IX}{cs c vs:List AV}{r:AV}{H:List HO}(hs:s.H=H)(hx:ev s.fr x=.ptr id off)(hl:Lies H (.cel id cs))(hsub:sub off m cs=some c)(hok:Zap c=true)(hm:mk isA c=some r)
  (hz:zs.map (ev s.fr)=vs) (hv:vs.all (Zja id)=true):Zan P (.loadN d x m isA zs) s ⟨put s.fr d r,s.bx,s.H⟩:=by
 subst hs hz
 have hc:s.H[id]?=some (.cells cs):=hl
 simp only [Zan,Zax,hx]
 rw [Z3 hv]
 simp only [rd,hc,hsub,ZT,hok,Z4,hm,ZV]
end
end Go.Eng

namespace Go.Eng
open Go
def Zor (P:Program)(f:Nat)(args:List AV)(H:List HO)(u u':FrameMode)(H':List HO):Prop :=
 Zho P f/\∀ (ok0:Addr->Prop) (ρ:List Nat) (w:World) (vs:List Value),
  HR (k0 ok0 ρ H w) ρ H w->VRL (cx (k0 ok0 ρ H w) ⟨ρ,noB⟩ H w) args vs →
  CallsDIn (FR none) 0 P f vs.toArray u w λe u2 w'=>∃ v ρ',e=.returned v/\u2=u'/\HR (k0 ok0 ρ H w) ρ' H' w' ∧
   ZaG (cx (k0 ok0 ρ H w) ⟨ρ,noB⟩ H w) (cx (k0 ok0 ρ H w) ⟨ρ',noB⟩ H' w')
def recM (t:TypeId):FrameMode:=.panicking [{ v:=.iface t (.agg #[]),recovered:=true }]
theorem Zlk (t:TypeId):settle (recM t)=.returning:=rfl
def ZmZ (P:Program)(n:Nat):List Oper->List IOp->Bool
 | [],[]=>true
 | o::os,io::ios=>o.guard.isNone&&(match io.i with
   | .store x y m=>chkM P n o (.store x y m)
   | _=>false)&&ZmZ P n os ios
 | _,_=>false
def Zje:List IOp->St->St->Prop
 | [],s,s'=>s'=s
 | io::ios,s,s'=>∃ s1,Zax io.i s=some s1/\Zje ios s1 s'
def Zrj (P:Program)(n nargs:Nat)(ios:List IOp):Code->Bool
 | .seq (.region _ ops0 false) (.seq (.region _ ops1 false) (.cond (.tmp e3) (.region _ ops2 false) .skip)) =>
  (match ops0.toList,ops1.toList with
   | [x,y],[z,q]=>x.guard.isNone&&y.guard.isNone&&z.guard.isNone&&q.guard.isNone&&(match x.op,x.dst,y.op,y.dst,z.op,z.dst,q.op,q.dst with
     | .call { callee:=.builtin .recover,args:=as,argTypes:=_ },some d0,.assign (.tmp e0),some d1,.move (.tmp e1),some d2,.binOp .neq T (.tmp e2) (.const .nilIface) _,some d3 =>
      decide (as.toList=[])&&decide (e0=d0)&&decide (e1=d1)&&decide (e2=d2)&&decide (e3=d3)&&decide (nargs<=d0/\d0<n)&&decide (nargs<=d1/\d1<n)&&decide (nargs<=d2/\d2<n)&&decide (nargs<=d3/\d3<n)&&(match P.underlying T with
       | some (.interface _)=>true
       | _=>false)
     | _,_,_,_,_,_,_,_=>false)
   | _,_=>false)&&ZmZ P n ops2.toList ios
 | _=>false
def chkR (P:Program)(f nargs:Nat)(ios:List IOp):Bool:=match P.funcs[f]? with
 | some fn=>(match fn.body with
  | some c=>Zrj P fn.ntmps nargs ios c&&decide (fn.results.toList=[])&&decide (nargs<=fn.ntmps) && !(fn.name == "runtime.NumGoroutine")
  | none=>false)
 | none=>false
section
variable {P:Program} {k:K0} {n:Nat} {g:G} {s s':St} {a:Act} {w:World} {t:TypeId} {H H':List HO}
theorem Rel.putAny (h:Rel k n g s a w){d:Nat}(hd:get s.fr d=.any)(v:Value):Rel k n g s (a.put (some d) v) w :=
 {h with
  tsz:=by simp only [Act.put,Array.size_setIfInBounds];exact h.tsz
  slots:=λu=>by
   by_cases e:d=u
   ·subst e;rw [hd];simp [VR]
   have:=h.slots u
   have e2:(a.put (some d) v).tmps.getD u undef=a.tmps.getD u undef:=by
    simp only [Act.put,Za,Array.getElem?_setIfInBounds]
    rw [Z2 e]
   rw [e2]
   exact this }
theorem ZlT {ops:Array Oper}{cs:List Frame}{Q:Exit->Act->List Frame->World->Prop}:∀ (os:List Oper) (ios:List IOp) (st:Nat) {g:G} {s:St} {a:Act} {w:World},(∀ j,os[j]?=ops[st+j]?)->ZmZ P n os ios=true->Rel k n g s a w->Zje ios s s' →
  (∀ g' a' w',Rel k n g' s' a' w'->a'.defers=a.defers->Q .normal a' cs w')->wpOpsSIn (FR none) 0 P ops Q (List.range' st os.length) a cs w
 | [],[],st,g,s,a,w,_,_,h,hp,hQ=>by
  simp only [Zje] at hp
  subst hp
  simpa [wpOpsSIn] using hQ g a w h rfl
 | o::os,io::ios,st,g,s,a,w,hos,hc,h,hp,hQ=>by
  simp only [Zje] at hp
  obtain ⟨s1,h1,h2⟩:=hp
  simp only [ZmZ,Ze,ZU] at hc
  obtain ⟨⟨hg,hc1⟩,hc2⟩:=hc
  have h0:=hos 0
  simp only [Zu,ZR] at h0
  simp only [ZE,ZO,wpOpsSIn]
  rw [← h0]
  simp only
  refine ⟨λ_ _=>trivial,?_⟩
  rw [Z3 (by simp [Region.wanted,hg])]
  split at hc1
  ·rename_i x y m hio
   rw [hio] at h1
   obtain ⟨u,w1,g1,hr,h3⟩:=ZfF h hc1 h1
   have next:wpOpsSIn (FR none) 0 P ops Q (List.range' (st+1) os.length) (a.put o.dst u) cs w1 :=
    ZlT os ios (st+1) (λj=>by have:=hos (j+1);simpa [ZP,Nat.add_comm 1 j] using this) hc2 h3 h2 λg' a' w' q1 q2=>hQ g' a' w' q1 (by
     rw [q2]
     cases o.dst<;>rfl)
   rcases hr with hr|⟨hr,rfl⟩
   ·rw [hr];exact next
   rw [hr];exact next
  cases hc1
 | [],_::_,_,_,_,_,_,_,hc,_,_,_=>by simp [ZmZ] at hc
 | _::_,[],_,_,_,_,_,_,hc,_,_,_=>by simp [ZmZ] at hc
theorem Zfq (args:List AV){d:Nat}(h:args.length<=d):get (ZdT args 0) d=.any:=by
 rw [Zfm]
 simp [h]
theorem ZhE {T:TypeId}{I:Array (String×TypeId)}(hu:P.underlying T=some (.interface I)){t:TypeId}{v:Value}(d:Nat):(Op.equalIn (d+1) T (.iface t v) .nilIface).run P w=.ok false w:=by
 rw [Op.equalIn]
 simp only [Sem.run_bind,run_underlying hu,Result.andThen_ok,Sem.run_pure]
theorem ZjA {T:TypeId}{I:Array (String×TypeId)}(hu:P.underlying T=some (.interface I))(d:Nat):(Op.equalIn (d+1) T .nilIface .nilIface).run P w=.ok true w:=by
 rw [Op.equalIn]
 simp only [Sem.run_bind,run_underlying hu,Result.andThen_ok,Sem.run_pure]
theorem Zlm {T:TypeId}{I:Array (String×TypeId)}(hu:P.underlying T=some (.interface I)){v:Value}{b:Bool}(hv:(b=true/\∃ t,v=.iface t (.agg #[]))∨(b=false/\v=.nilIface))(x:Operand) :
  (eqGuard .neq T x (.const .nilIface) v .nilIface).run P w=.ok () w/\(binOp .neq T v .nilIface).run P w=.ok (.bool b) w:=by
 rcases hv with ⟨rfl,t,rfl⟩|⟨rfl,rfl⟩
 ·refine ⟨rfl,?_⟩
  have e:binOp .neq T (.iface t (.agg #[])) .nilIface=(do pure (.bool (!(← Op.equal T (.iface t (.agg #[])) .nilIface)))):=rfl
  rw [e]
  simp only [Sem.run_bind,Op.equal]
  rw [show Op.maxDepth=(Op.maxDepth-1)+1 from rfl,ZhE hu]
  rfl
 refine ⟨by cases x<;>rfl,?_⟩
 have e:binOp .neq T .nilIface .nilIface=(do pure (.bool (!(← Op.equal T .nilIface .nilIface)))):=rfl
 rw [e]
 simp only [Sem.run_bind,Op.equal]
 rw [show Op.maxDepth=(Op.maxDepth-1)+1 from rfl,ZjA hu]
 rfl
set_option maxHeartbeats 4000000 in
theorem Zl3 {f:Nat}{args:List AV}{ios:List IOp}(hk:chkR P f args.length ios=true)(hno:noLocL args=true)(u u':FrameMode)(v:Value)(b:Bool)
  (hrec:∀ (c₀:Frame) (cs:List Frame),c₀.mode=u->(recoverD (c₀::cs)=some (v,{ c₀ with mode:=u' }::cs)∨(recoverD (c₀::cs)=none/\v=.nilIface/\u'=u)))
  (hv:(b=true/\∃ t,v=.iface t (.agg #[]))∨(b=false/\v=.nilIface)) (hp:b=true->Zje ios ⟨ZdT args 0,[],H⟩ s'/\s'.H=H') (hp2:b=false->H'=H):Zor P f args H u u' H':=by
 unfold chkR at hk
 split at hk
 ·rename_i fn hf
  split at hk
  ·rename_i c hb
   simp only [Ze,Z0,Zh] at hk
   obtain ⟨⟨⟨hk,hres⟩,hna⟩,hname⟩:=hk
   refine ⟨⟨fn,hf,by rw [hb];rfl,hname⟩,λok0 ρ w vs hhr hvl=>?_⟩
   have hrel:=Zei (n:=fn.ntmps) hhr hvl hno hna
   refine callsDIn_of_wpSIn hf hb trivial λc₀ cs hu=>?_
   unfold Zrj at hk
   split at hk
   ·rename_i i0 ops0 i1 ops1 e3 i2 ops2
    simp only [Ze] at hk
    obtain ⟨hk,hst⟩:=hk
    split at hk
    ·rename_i x y z q hl0 hl1
     simp only [Ze,ZU] at hk
     obtain ⟨⟨⟨⟨gx,gy⟩,gz⟩,gq⟩,hk⟩:=hk
     split at hk
     ·rename_i as ts d0 e0 d1 e1 d2 T e2 T' d3 ox dx oy dy oz dz oq dq
      simp only [Ze,Z0] at hk
      obtain ⟨⟨⟨⟨⟨⟨⟨⟨⟨has,rfl⟩,rfl⟩,rfl⟩,rfl⟩,n0⟩,n1⟩,n2⟩,n3⟩,hu3⟩:=hk
      obtain ⟨hI,hu3⟩:∃ I,P.underlying T=some (.interface I):=by
       split at hu3
       ·exact ⟨_,by assumption⟩
       cases hu3
      have hops0:ops0 = #[x,y]:=by apply Array.ext';rw [hl0]
      have hops1:ops1 = #[z,q]:=by apply Array.ext';rw [hl1]
      subst hops0 hops1
      have has':as = #[]:=by apply Array.ext';rw [has]
      subst has'
      have r1:=hrel.putAny (d:=e0) (Zfq args n0.1) v
      have r2:=r1.putAny (d:=e1) (Zfq args n1.1) v
      have r3:=r2.putAny (d:=e2) (Zfq args n2.1) v
      have r4:=r3.putAny (d:=e3) (Zfq args n3.1) (.bool b)
      generalize hA0:({ tmps:=vs.toArray++Array.replicate (fn.ntmps-vs.toArray.size) undef,defers:=[] }:Act)=A0 at hrel r1 r2 r3 r4 ⊢
      have hdf:A0.defers=[]:=by rw [← hA0]
      obtain ⟨cs',hcs',hrecD⟩:∃ cs',cs'={ c₀ with mode:=u' }::cs/\(recoverD (c₀::cs)=some (v,cs')∨(recoverD (c₀::cs)=none/\v=.nilIface/\cs'=c₀::cs)):=by
       rcases hrec c₀ cs hu with h1|⟨h1,h2,h3⟩
       ·exact ⟨_,rfl,.inl h1⟩
       exact ⟨_,rfl,.inr ⟨h1,h2,by rw [h3,← hu]⟩⟩
      refine wpSIn_seq (wpSIn_region ?_)
      show wpOpsSIn (FR none) 0 P #[x,y] _ [0,1] A0 (c₀::cs) w
      simp only [wpOpsSIn,ZC,Zu,Zt]
      have ex:(execOp A0.eval x).run P w=.ok .recover w:=by
       simp only [execOp,ox,resolve,Sem.run_bind,Sem.run_pure,Result.andThen_ok]
       rfl
      have ey:(execOp (A0.put (some e0) v).eval y).run P w=.ok (.value v) w:=by
       simp only [execOp,oy,Sem.run_pure]
       rw [ZeA (by rw [hrel.tsz];exact n0.2)]
      refine ⟨λ_ _=>trivial,?_⟩
      rw [Z3 (by simp [Region.wanted,gx]),ex]
      simp only
      have hstep:wpOpsSIn (FR none) 0 P #[x,y] (Exit.thenS (Code.wpSIn (FR none) 0 P (.seq (.region i1 #[z,q] false) (.cond (.tmp e3) (.region i2 ops2 false) .skip)) (bodyPostS P fn c₀ cs λe u2 w'=>∃ v ρ',e=.returned v/\u2=u'/\HR (k0 ok0 ρ H w) ρ' H' w' ∧
        ZaG (cx (k0 ok0 ρ H w) ⟨ρ,noB⟩ H w) (cx (k0 ok0 ρ H w) ⟨ρ',noB⟩ H' w'))) (bodyPostS P fn c₀ cs λe u2 w'=>∃ v ρ',e=.returned v/\u2=u'/\HR (k0 ok0 ρ H w) ρ' H' w' ∧
        ZaG (cx (k0 ok0 ρ H w) ⟨ρ,noB⟩ H w) (cx (k0 ok0 ρ H w) ⟨ρ',noB⟩ H' w'))) [1] (A0.put x.dst v) cs' w:=by
       simp only [wpOpsSIn,ZC,Zu,Zt]
       refine ⟨λ_ _=>trivial,?_⟩
       rw [Z3 (by simp [Region.wanted,gy]),dx,ey]
       simp only
       rw [dy]
       refine wpSIn_seq (wpSIn_region ?_)
       show wpOpsSIn (FR none) 0 P #[z,q] _ [0,1] _ cs' w
       simp only [wpOpsSIn,ZC,Zu,Zt]
       have ez:(execOp ((A0.put (some e0) v).put (some e1) v).eval z).run P w=.ok (.value v) w:=by
        simp only [execOp,oz,Sem.run_pure]
        rw [ZeA (by rw [r1.tsz];exact n1.2)]
       refine ⟨λ_ _=>trivial,?_⟩
       rw [Z3 (by simp [Region.wanted,gz]),ez]
       simp only
       rw [dz]
       refine ⟨λ_ _=>trivial,?_⟩
       have eq':(execOp (((A0.put (some e0) v).put (some e1) v).put (some e2) v).eval q).run P w=.ok (.value (.bool b)) w:=by
        simp only [execOp,oq,Sem.run_bind]
        rw [ZeA (by rw [r2.tsz];exact n2.2)]
        obtain ⟨q1,q2⟩:=Zlm (w:=w) hu3 hv (.tmp e2)
        rw [show (((A0.put (some e0) v).put (some e1) v).put (some e2) v).eval (.const .nilIface)=.nilIface from rfl]
        simp only [Sem.run_bind,q1,Result.andThen_ok,q2,Sem.run_pure]
       rw [Z3 (by simp [Region.wanted,gq]),eq']
       simp only
       rw [dq]
       have hdone:∀ (g':G) (a':Act) (w':World) (s2:St),Rel (k0 ok0 ρ H w) fn.ntmps g' s2 a' w'->s2.H=H'->a'.defers=[]->bodyPostS P fn c₀ cs (λe u2 w'=>∃ v ρ',e=.returned v/\u2=u'/\HR (k0 ok0 ρ H w) ρ' H' w' ∧
         ZaG (cx (k0 ok0 ρ H w) ⟨ρ,noB⟩ H w) (cx (k0 ok0 ρ H w) ⟨ρ',noB⟩ H' w')) .normal a' cs' w':=λg' a' w' s2 h1 h2 h3=>by
        subst h2
        have hr0:fn.results = #[]:=by apply Array.ext';rw [hres]
        refine ⟨h3,u',hcs',.tuple #[],?_,.tuple #[],g'.ρ,rfl,rfl,h1.toHR,h1.hist.trans h1.noBoxes⟩
        rw [Zgm,hr0]
        simp
       cases b with
       | true =>
        obtain ⟨hpath,hH⟩:=hp rfl
        refine wpSIn_cond (t:=true) (by rw [ZeA (by rw [r3.tsz];exact n3.2)]) ?_
        refine wpSIn_region ?_
        have:=ZlT (k:=k0 ok0 ρ H w) (n:=fn.ntmps) (cs:=cs') (Q:=bodyPostS P fn c₀ cs λe u2 w'=>∃ v ρ',e=.returned v/\u2=u'/\HR (k0 ok0 ρ H w) ρ' H' w' ∧
         ZaG (cx (k0 ok0 ρ H w) ⟨ρ,noB⟩ H w) (cx (k0 ok0 ρ H w) ⟨ρ',noB⟩ H' w')) ops2.toList ios 0 (ops:=ops2) (by simp) hst r4 hpath (λg' a' w' h1 h2=>hdone g' a' w' _ h1 hH (by rw [h2];exact hdf))
        rwa [Zd,← List.range_eq_range'] at this
       | false =>
        refine wpSIn_cond (t:=false) (by rw [ZeA (by rw [r3.tsz];exact n3.2)]) ?_
        refine wpSIn_of_wpIn rfl (wpIn_skip ?_)
        exact hdone _ _ _ _ r4 (hp2 rfl).symm hdf
      simp only [wpOpsSIn,ZC,Zu,Zt] at hstep
      rcases hrecD with h1|⟨h1,h2,h3⟩
      ·rw [h1]
       exact hstep
      subst h2
      rw [h3,h1] at hstep
      rw [h1]
      exact hstep
     cases hk
    cases hk
   cases hk
  cases hk
 cases hk
theorem ZmB {f:Nat}{args:List AV}{ios:List IOp}(hk:chkR P f args.length ios=true)(hno:noLocL args=true)(hp:Zje ios ⟨ZdT args 0,[],H⟩ s')(hH:s'.H=H'):Zor P f args H (.panicking (pvl t)) (recM t) H' :=
 Zl3 hk hno _ _ (.iface t (.agg #[])) true (λc₀ cs hu=>.inl (by
  simp only [recoverD,hu,pvl]
  rfl)) (.inl ⟨rfl,t,rfl⟩) (λ_=>⟨hp,hH⟩) (λe=>by cases e)
theorem ZhK {f:Nat}{args:List AV}{ios:List IOp}(hk:chkR P f args.length ios=true)(hno:noLocL args=true):Zor P f args H .returning .returning H :=
 Zl3 (s':=⟨[],[],H⟩) hk hno _ _ .nilIface false (λc₀ cs hu=>.inr ⟨by simp only [recoverD,hu],rfl,rfl⟩) (.inr ⟨rfl,rfl⟩) (λe=>by cases e) (λ_=>rfl)
end
end Go.Eng

namespace Go.Eng
open Go
structure DFn where
 nargs:Nat
 nt:Nat
 pre:List IC
 ops:List IOp
 d:Nat
 rest:IC
 res:List RV
def ZjZ (P:Program)(n:Nat)(ops:Array Oper)(ios:List IOp)(d:Nat):Bool:=match ops.toList.reverse with
 | q::xs=>Zca P n ops xs.reverse ios&&q.guard.isNone&&q.dst.isNone&&(match q.op with
  | .defer { callee:=.value X,args:=as,argTypes:=_ }=>Zcn X (.t d)&&decide (as.toList=[])
  | _=>false)
 | []=>false
def ZiH (P:Program)(n:Nat):Code->List IC->List IOp->Nat->IC->Bool
 | .seq a b,ic::ics,ios,d,rest=>chkC P n a ic&&ZiH P n b ics ios d rest
 | .seq (.region _ ops false) b,[],ios,d,rest=>ZjZ P n ops ios d&&chkC P n b rest
 | _,_,_,_,_=>false
def ZpG (P:Program)(f:Nat)(F:DFn):Bool:=match P.funcs[f]? with
 | some fn=>(match fn.body with
  | some c=>ZiH P fn.ntmps c F.pre F.ops F.d F.rest&&Zd5 P fn.results.toList F.res&&decide (F.nargs<=fn.ntmps)&&decide (fn.ntmps=F.nt) && !(fn.name == "runtime.NumGoroutine")
  | none=>false)
 | none=>false
@[reducible] def preQ (E next:St->Prop):Exit->St->Prop
 | .normal,s=>next s
 | .ret,s=>E s
 | _,_=>False
def Zmv (P:Program)(n:Nat):List IC->(St->Prop)->(St->Prop)->St->Prop
 | [],E,K,s=>K s
 | ic::ics,E,K,s=>vc P n ic (preQ E (Zmv P n ics E K)) s
def PreI (P:Program)(n:Nat):List IC->St->Bool->St->Prop
 | [],s,b,s'=>b=false/\s'=s
 | ic::ics,s,b,s'=>∃ e s1,EvI P n ic s (λe1 s2=>e1=e/\s2=s1)/\((e=.normal/\PreI P n ics s1 b s')∨(e=.ret/\b=true/\s'=s1))
section
variable {P:Program} {k:K0} {n:Nat} {g:G} {s s1 s':St} {a:Act} {w:World} {t:TypeId} {H H':List HO}
theorem Zka {E K:St->Prop}:∀ {ics:List IC} {s:St},Zmv P n ics E K s->∃ b s',PreI P n ics s b s'/\(b=true->E s')/\(b=false->K s')
 | [],s,h=>⟨false,s,⟨rfl,rfl⟩,(λe=>by cases e),λ_=>h⟩
 | ic::ics,s,h=>by
  obtain ⟨e,s1,h1,h2⟩:=vcd ic h
  have h1:=Zaw ic _ s h1
  cases e with
  | normal =>
   obtain ⟨b,s',h3,h4,h5⟩:=Zka h2
   exact ⟨b,s',⟨_,s1,h1,.inl ⟨rfl,h3⟩⟩,h4,h5⟩
  | ret=>exact ⟨true,s1,⟨_,s1,h1,.inr ⟨rfl,rfl,rfl⟩⟩,λ_=>h2,(λe=>by cases e)⟩
  | _=>exact h2.elim
theorem ZlL {b:Bool}{ios:List IOp}{d:Nat}{rest:IC}{Q:Exit->Act->World->Prop}:∀ {ics:List IC} {c:Code} {s:St} {g:G} {a:Act} {w:World},PreI P n ics s b s'->ZiH P n c ics ios d rest=true->Rel k n g s a w →
  (b=true->∀ g a w,Rel k n g s' a w->Q .ret a w)->(b=false->∀ c g a w,ZiH P n c [] ios d rest=true->Rel k n g s' a w->c.wpIn (FR k.rd) 0 P Q a w)->c.wpIn (FR k.rd) 0 P Q a w
 | [],c,s,g,a,w,hp,hc,h,h1,h2=>by
  obtain ⟨rfl,rfl⟩:=hp
  exact h2 rfl c g a w hc h
 | ic::ics,c,s,g,a,w,hp,hc,h,h1,h2=>by
  cases c with
  | seq c1 c2 =>
   simp only [ZiH,Ze] at hc
   obtain ⟨e,s1,hE,hp⟩:=hp
   refine wpIn_seq (wpIn_mono (hE c1 hc.1 k g a w h) ?_)
   rintro e1 a1 w1 ⟨s2,g2,q1,q2,q3⟩
   subst q2 q3
   rcases hp with ⟨rfl,hp⟩|⟨rfl,hb,rfl⟩
   ·exact ZlL hp hc.2 q1 h1 h2
   exact h1 hb g2 a1 w1 q1
  | _=>simp [ZiH] at hc
theorem ZnD {ops:Array Oper}{r:Option Nat}{Q:Exit->Act->World->Prop}{tail:List Nat}:∀ (os:List Oper) (ios:List IOp) (st:Nat) {g:G} {s:St} {a:Act} {w:World},(∀ j,j<os.length->os[j]?=ops[st+j]?)->Zca P n ops os ios=true->Rel k n g s a w->Z7 P ios s s' →
  (∀ g' a' w',Rel k n g' s' a' w'->wpOpsIn (FR r) 0 P ops Q tail a' w')->wpOpsIn (FR r) 0 P ops Q (List.range' st os.length++tail) a w
 | [],[],st,g,s,a,w,_,_,h,hp,hQ=>by
  simp only [Z7] at hp
  subst hp
  simpa using hQ g a w h
 | o::os,io::ios,st,g,s,a,w,hos,hc,h,hp,hQ=>by
  simp only [Z7] at hp
  obtain ⟨s1,h1,h2⟩:=hp
  simp only [Zca,Ze] at hc
  have h0:=hos 0 (by simp)
  simp only [Zu,ZR] at h0
  simp only [ZE,ZO,Zp]
  rw [wpOpsIn_cons]
  refine Zhf h h0.symm hc.1 h1 r (λg' a' w' h3=>?_)
  exact ZnD os ios (st+1) (λj hj=>by have:=hos (j+1) (by simp;omega);simpa [ZP,Nat.add_comm 1 j] using this) hc.2 h3 h2 hQ
 | [],_::_,_,_,_,_,_,_,hc,_,_,_=>by simp [Zca] at hc
 | _::_,[],_,_,_,_,_,_,hc,_,_,_=>by simp [Zca] at hc
def kD (k:K0)(g:G)(H:List HO)(w:World)(d:Deferred):K0:={ k with tl:=[d],hw:=w,β0:=g.β,ρ0:=g.ρ,H0:=H }
theorem Rel.deferred (h:Rel k n g s a w)(htl:k.tl=[])(d:Deferred):Rel (kD k g s.H w d) n g s { a with defers:=d::a.defers } w :=
 {defers:=by
   obtain ⟨ms,ms2,e,h1,h2⟩:=h.defers
   refine ⟨[],ms++ms2,?_,by simpa using h1,λD hD=>h2 D (by simpa using hD)⟩
   show d::a.defers=_
   rw [e,htl]
   simp [kD]
  rnd:=h.rnd
  tsz:=h.tsz
  slots:=h.slots
  tops:=h.tops
  boxes:=h.boxes
  boxed:=h.boxed
  heap:=h.heap
  len:=h.len
  inj:=h.inj
  binj:=h.binj
  apart:=h.apart
  own:=h.own
  keep:=h.keep
  hist:=ZaG.refl _ }
theorem ZoZ {ops:Array Oper}{ios:List IOp}{d:Nat}{fc:Nat}{caps:List AV}(h:Rel k n g s a w)(hrd:k.rd=none)(htl:k.tl=[])(hc:ZjZ P n ops ios d=true)(hp:Z7 P ios s s1)(hd:get s1.fr d=.fn fc [] caps){id:Nat}{Q:Exit->Act->World->Prop}
  (hQ:∀ g1 a1 w1 (us:List Value),Rel k n g1 s1 a1 w1->VRL (cx k g1 s1.H w1) caps us->Q .normal { a1 with defers:={ target:=.fn (.func fc) us.toArray,args := #[] }::a1.defers } w1):(Code.region id ops false).wpIn (FR k.rd) 0 P Q a w:=by
 rw [hrd]
 refine wpIn_region ?_
 unfold ZjZ at hc
 split at hc
 ·rename_i q xs hl
  simp only [Ze,ZU] at hc
  obtain ⟨⟨⟨hcs,hg⟩,hdst⟩,hq⟩:=hc
  have hl2:ops.toList=xs.reverse++[q]:=by
   have:=congrArg List.reverse hl
   simpa using this
  have hsz:ops.size=xs.reverse.length+1:=by
   rw [← Zd,hl2];simp
  have hrange:List.range ops.size=List.range' 0 xs.reverse.length++[xs.reverse.length]:=by
   rw [hsz,List.range_succ,List.range_eq_range']
  rw [hrange]
  refine ZnD xs.reverse ios 0 (λj hj=>?_) hcs h hp (λg1 a1 w1 h1=>?_)
  ·rw [ZS,← Array.getElem?_toList,hl2,Zr hj]
  have hoq:ops[xs.reverse.length]?=some q:=by
   rw [← Array.getElem?_toList,hl2,Zs (Nat.le_refl _),Nat.sub_self]
   rfl
  rw [wpOpsIn_cons]
  unfold wpOpIn
  rw [hoq]
  simp only
  rw [Z3 (by simp [Region.wanted,hg])]
  split at hq
  ·rename_i X as ts hop
   simp only [Ze,Z0] at hq
   obtain ⟨hX,has⟩:=hq
   have has':as = #[]:=by apply Array.ext';rw [has]
   subst has'
   have hv:=Zbj h1 hX
   rw [show ev s1.fr (.t d)=get s1.fr d from rfl,hd,VR] at hv
   obtain ⟨us1,us2,e,hv1,hv2⟩:=hv
   rw [VRL] at hv1
   subst hv1
   refine ⟨λ_ _=>trivial,?_⟩
   have hrun:(q.semAt (FR none).round a1.eval).run P w1=.ok (.defer { target:=.fn (.func fc) us2.toArray,args := #[] }) w1:=by
    rw [show (FR none).round=none from rfl,Oper.semAt_none]
    simp only [execOp,hop,resolve,Sem.run_bind,e,Deferred.ofValue,Sem.run_pure,Result.andThen_ok]
    simp
   rw [hrun,Oper.uponIn_defer,hdst]
   simp only [wpOpsIn,Act.put]
   exact hQ g1 a1 w1 us2 h1 hv2
  cases hq
 cases hc
inductive Zj7 (t:TypeId):Exit->FrameMode->FrameMode->Prop
 | normal:Zj7 t .normal .returning .returning
 | ret:Zj7 t .ret .returning .returning
 | panic:Zj7 t (.panic (pvl t)) (.panicking (pvl t)) (recM t)
theorem Ze2 {ok0:Addr->Prop}{ρ:List Nat}{w0:World}{fn:Func}{res:List RV}{xs:List AV}{g1:G}{w1:World}{fc:Nat}{caps:List AV}{us:List Value}{u u':FrameMode}{H2:List HO}{r:AV}{H1:List HO}
  (hres:Zd5 P fn.results.toList res=true) (hu:u≠.run) (hset:settle u'=.returning) (hcaps:VRL (cx (k0 ok0 ρ H w0) g1 H1 w1) caps us) (hno:noLocL caps=true)
  (h0:ZaG (cx (k0 ok0 ρ H w0) ⟨ρ,noB⟩ H w0) (cx (k0 ok0 ρ H w0) g1 H1 w1))
  (h:Rel (kD (k0 ok0 ρ H w0) g1 H1 w1 { target:=.fn (.func fc) us.toArray,args := #[] }) n g s a w) (hF:Zor P fc caps s.H u u' H2)
  (hx:rawL ⟨s.fr,s.bx,H2⟩ res=some xs) (hr:ZbL xs=r) (hnr:ZaA r=true) :
  LeavesInM (FR none) 0 P fn a.tmps (λe w'=>∃ v ρ',e=.returned v/\HR (k0 ok0 ρ H w0) ρ' H2 w'/\VR (cx (k0 ok0 ρ H w0) ⟨ρ',noB⟩ H2 w') r v ∧
   ZaG (cx (k0 ok0 ρ H w0) ⟨ρ,noB⟩ H w0) (cx (k0 ok0 ρ H w0) ⟨ρ',noB⟩ H2 w')) a.defers u w:=by
 refine h.leavesTail hu λw2 ms2 h2 hn hm=>?_
 have htl:(kD (k0 ok0 ρ H w0) g1 H1 w1 { target:=.fn (.func fc) us.toArray,args := #[] }).tl=[{ target:=.fn (.func fc) us.toArray,args := #[] }]:=rfl
 rw [htl] at h2 ⊢
 rw [List.singleton_append] at h2 ⊢
 refine ⟨hu,.inr ⟨(λe=>by cases e),.func fc,us.toArray,fc,us.toArray,rfl,?_,λ_ _=>trivial,?_⟩⟩
 ·show (invoke (.fn (.func fc) us.toArray) #[]).run P w2=_
  simp only [invoke]
  rw [Zb7 hF.1]
  simp
 have hv:VRL (cx (k0 ok0 ρ H w0) g s.H w2) caps us:=VRL.later (c:=cx (k0 ok0 ρ H w0) g1 H1 w1) h2.hist caps us hno hcaps
 refine (hF.2 (okOf (kD (k0 ok0 ρ H w0) g1 H1 w1 { target:=.fn (.func fc) us.toArray,args := #[] }) s.H g) g.ρ w2 us h2.hr (VRL.later h2.laterCall caps us hno hv)).mono ?_
 rintro e u2 w3 ⟨v,ρ',rfl,rfl,h3,h4⟩
 obtain ⟨h5,h6⟩:=h2.back h3 h4
 simp only
 rw [hset]
 have h7:Rel { kD (k0 ok0 ρ H w0) g1 H1 w1 { target:=.fn (.func fc) us.toArray,args := #[] } with tl:=[] } n ⟨ρ',g.β⟩ ⟨s.fr,s.bx,H2⟩ { a with defers:=ms2.map (λD=>{ target:=.collected D,args := #[] }) } w3 :=
  {defers:=by
    obtain ⟨ns,ns2,e,e1,e2⟩:=h5.defers
    rw [htl] at e
    have hns:ns=[]:=by
     cases ns with
     | nil=>rfl
     | cons D ns =>
      simp only [ZK,Zp,Zo] at e
      have:=congrArg Deferred.target e.1
      cases this
    subst hns
    simp only [ZL,ZN,Zp,Zo,true_and] at e
    exact ⟨[],ns2,by simpa using e,by simpa using e1,by simpa using e2⟩
   rnd:=h5.rnd
   tsz:=h5.tsz
   slots:=h5.slots
   tops:=h5.tops
   boxes:=h5.boxes
   boxed:=h5.boxed
   heap:=h5.heap
   len:=h5.len
   inj:=h5.inj
   binj:=h5.binj
   apart:=h5.apart
   own:=h5.own
   keep:=h5.keep
   hist:=h5.hist }
 refine Rel.leavesAll (fn:=fn) h7 (λw4 h8=>?_) rfl
 obtain ⟨v4,v1,v2⟩:=ZfH h8 hres hx
 refine ⟨v4,v1,v4,ρ',rfl,?_,?_,?_⟩
 ·have:=h8.toHR
  exact { heap:=this.heap,len:=this.len,inj:=this.inj,own:=this.own,keep:=this.keep }
 ·rw [hr] at v2
  exact VR.later h8.noBoxes _ _ hnr v2
 exact h0.trans (h8.hist.trans h8.noBoxes)
theorem ZlI {f:Nat}{F:DFn}(hk:ZpG P f F=true){args:List AV}(t:TypeId)(K:AV->List HO->Prop)(hK:∀ r H,K r H->ZaA r=true)(hl:args.length=F.nargs)(hno:noLocL args=true)
  (h:Zmv P F.nt F.pre (λs'=>∃ xs,rawL s' F.res=some xs/\K (ZbL xs) s'.H)
   (λs1=>∃ s2 fc caps,Z7 P F.ops s1 s2/\get s2.fr F.d=.fn fc [] caps/\noLocL caps=true ∧
    vc P F.nt F.rest (λe s'=>∃ u u' H2 xs,Zj7 t e u u'/\Zor P fc caps s'.H u u' H2/\rawL ⟨s'.fr,s'.bx,H2⟩ F.res=some xs/\K (ZbL xs) H2) s2) ⟨ZdT args 0,[],H⟩):∃ r H',ZbQ P f args H r H'/\K r H':=by
 obtain ⟨b,s',hpre,hE,hKK⟩:=Zka h
 unfold ZpG at hk
 split at hk
 ·rename_i fn hf
  split at hk
  ·rename_i c hb
   simp only [Ze,Z0,Zh] at hk
   obtain ⟨⟨⟨⟨hc,hres⟩,hna⟩,hnt⟩,hname⟩:=hk
   rw [hnt] at hc
   cases b with
   | true =>
    obtain ⟨xs,x1,x2⟩:=hE rfl
    refine ⟨ZbL xs,s'.H,⟨⟨fn,hf,by rw [hb];rfl,hname⟩,hK _ _ x2,λok0 ρ w vs hhr hv=>?_⟩,x2⟩
    have hrel:=Zei (n:=fn.ntmps) hhr hv hno (by omega)
    rw [hnt] at hrel
    refine Zgc (r:=none) (m:=0) (callsIn_of_wp_marks hf hb trivial ?_)
    rw [hnt]
    refine ZlL (k:=k0 ok0 ρ H w) hpre hc hrel (λ_ g' a' w' h1=>?_) (λe=>by cases e)
    refine h1.leavesAll (λw2 h2=>?_) rfl
    obtain ⟨v,v1,v2⟩:=ZfH h2 hres x1
    exact ⟨v,v1,v,g'.ρ,rfl,h2.toHR,VR.later h2.noBoxes _ _ (hK _ _ x2) v2,h2.hist.trans h2.noBoxes⟩
   | false =>
    obtain ⟨s2,fc,caps,hp,hd,hcaps,hrest⟩:=hKK rfl
    obtain ⟨e,s3,h1,u,u',H2,xs,hlv,hF,x1,x2⟩:=vcd _ hrest
    have h1:=Zaw _ _ _ h1
    refine ⟨ZbL xs,H2,⟨⟨fn,hf,by rw [hb];rfl,hname⟩,hK _ _ x2,λok0 ρ w vs hhr hv=>?_⟩,x2⟩
    have hrel:=Zei (n:=fn.ntmps) hhr hv hno (by omega)
    rw [hnt] at hrel
    refine Zgc (r:=none) (m:=0) (callsIn_of_wp_marks hf hb trivial ?_)
    rw [hnt]
    refine ZlL (k:=k0 ok0 ρ H w) hpre hc hrel (λe=>by cases e) (λ_ c1 g1 a1 w1 hc1 r1=>?_)
    cases c1 with
    | seq cD cR =>
     cases cD with
     | region id ops draw =>
      cases draw with
      | true=>simp [ZiH] at hc1
      | false =>
       simp only [ZiH,Ze] at hc1
       refine wpIn_seq (ZoZ r1 rfl rfl hc1.1 hp hd λg2 a2 w2 us r2 hus=>?_)
       have r3:=r2.deferred rfl { target:=.fn (.func fc) us.toArray,args := #[] }
       refine wpIn_mono (h1 cR hc1.2 (kD (k0 ok0 ρ H w) g2 s2.H w2 { target:=.fn (.func fc) us.toArray,args := #[] }) g2 _ w2 r3) ?_
       rintro e1 a3 w3 ⟨s4,g4,r4,q1,q2⟩
       subst q1 q2
       have h0:ZaG (cx (k0 ok0 ρ H w) ⟨ρ,noB⟩ H w) (cx (k0 ok0 ρ H w) g2 s2.H w2):=r2.hist
       cases hlv with
       | normal=>exact Ze2 hres (by simp) rfl hus hcaps h0 r4 hF x1 rfl (hK _ _ x2)
       | ret=>exact Ze2 hres (by simp) rfl hus hcaps h0 r4 hF x1 rfl (hK _ _ x2)
       | panic=>exact Ze2 hres (by simp) (Zlk t) hus hcaps h0 r4 hF x1 rfl (hK _ _ x2)
     | _=>simp [ZiH] at hc1
    | _=>simp [ZiH] at hc1
  cases hk
 cases hk
end
end Go.Eng

namespace Go.Eng
open Go
section
variable {P:Program} {w w':World}
theorem Znx {ok0:Addr->Prop}{ρ':List Nat}{H':List HO}(h:HR (k0 ok0 [] [] w) ρ' H' w')(hl:ZaG (cx (k0 ok0 [] [] w) ⟨[],noB⟩ [] w) (cx (k0 ok0 [] [] w) ⟨ρ',noB⟩ H' w')) :
  Rel (k0 ok0 [] [] w) 0 ⟨ρ',noB⟩ ⟨[],[],H'⟩ { tmps := #[],defers:=[] } w' :=
 {defers:=⟨[],[],rfl,List.nodup_nil,λD h=>(by cases h)⟩
  rnd:=λl h=>(by cases h)
  tsz:=rfl
  slots:=λt=>by simp [get,VR]
  tops:=λt=>rfl
  boxes:=λt cs e=>by simp [bget] at e
  boxed:=λt b e=>by cases e
  heap:=h.heap
  len:=h.len
  inj:=h.inj
  binj:=λt u b e=>by cases e
  apart:=λt i b e=>by cases e
  own:=h.own
  keep:=h.keep
  hist:=hl }
theorem Zkv {f:Nat}{args xs rs:List AV}{b:AV}{H' H2:List HO}(h:ZbQ P f args [] (.tup xs) H')(hpa:ZdU args=true)(hpr:ZdU rs=true)(hs:Zms b H' H2)(hlen:xs.length=rs.length)(hr:∀ (j:Nat) x r,xs[j]?=some x->rs[j]?=some r->Zee H2 x=some r):Zbs P f args (.tup rs):=by
 obtain ⟨h1,h2,h3⟩:=h
 refine ⟨hpr,hpa,h1,by simpa [ZaA] using Zcv hpr,λok0 ρ w vs hhr hv=>?_⟩
 have hρ:ρ=[]:=List.eq_nil_of_length_eq_zero hhr.len
 subst hρ
 refine (h3 ok0 [] w vs hhr hv).mono ?_
 rintro e w2 ⟨v,ρ',rfl,g1,g2,g3⟩
 have hrel:=Znx g1 g3
 obtain ⟨r1,l1⟩:=hs P _ _ _ _ _ _ hrel rfl
 have hv2:=VR.later l1 _ v h2 g2
 rw [VR] at hv2
 obtain ⟨us,rfl,hus⟩:=hv2
 have hg:Grow w w2:=⟨r1.keep.os,r1.keep.tape,r1.keep.output,r1.keep.size,λi hi=>r1.keep.block i hi (λ⟨j,hj⟩=>by simp at hj)⟩
 have h5:VRL (cx (k0 ok0 [] [] w) ⟨[],noB⟩ [] w2) rs us:=by
  rw [Zco] at hus ⊢
  refine ⟨by omega,λj r u hr' hu=>?_⟩
  have hjl:j<xs.length:=by rw [hlen];exact (List.getElem?_eq_some_iff.1 hr').1
  have hx:=Zw hjl
  exact (ZhM r1 (hr j _ r hx hr') (hus.2 j _ u hx hu)).1
 refine ⟨_,[],rfl,?_,by rw [VR];exact ⟨us,rfl,h5⟩,Zck hg []⟩
 exact
  {heap:=λid o e=>by simp at e
   len:=rfl
   inj:=λi j b e=>by simp at e
   own:=λi b e=>by simp at e
   keep:=r1.keep }
theorem Znu {H:List HO}(b:AV):Zms b H H:=λP k n g s a0 w h hs=>⟨by subst hs;exact h,ZaG.refl _⟩
theorem Zoy {H:List HO}{x y z p q r:AV}(h1:Zee H x=some p)(h2:Zee H y=some q)(h3:Zee H z=some r):∀ (j:Nat) u v,[x,y,z][j]?=some u->[p,q,r][j]?=some v->Zee H u=some v
 | 0,u,v,e1,e2=>by simp only [Zu,ZW] at e1 e2;subst e1 e2;exact h1
 | 1,u,v,e1,e2=>by simp only [Zt,Zu,ZW] at e1 e2;subst e1 e2;exact h2
 | 2,u,v,e1,e2=>by simp only [Zt,Zu,ZW] at e1 e2;subst e1 e2;exact h3
 | _+3,u,v,e1,e2=>by simp at e1
end
section
variable {P:Program} {n:Nat} {s:St} {Q:Exit->St->Prop} {t:TypeId}
theorem Zwo (h:Q (.panic (pvl t)) (ZcU [] s)):vc P n (.die t) Q s:=h
theorem tp {next:St->Prop}(h:Q (.panic (pvl t)) s):Zht next Q (.panic (pvl t)) s:=h
theorem bp {id:Nat}(h:Q (.panic (pvl t)) s):ZdS id Q (.panic (pvl t)) s:=h
theorem pq1 {ic:IC}{ics:List IC}{E K:St->Prop}(h:vc P n ic (preQ E (Zmv P n ics E K)) s):Zmv P n (ic::ics) E K s:=h
theorem pn {E next:St->Prop}(h:next s):preQ E next .normal s:=h
theorem pr {E next:St->Prop}(h:E s):preQ E next .ret s:=h
theorem pk0 {E K:St->Prop}(h:K s):Zmv P n [] E K s:=h
end
end Go.Eng

