/- Part of the proof. -/
import Derived.Test.YtddgnfnfojoljaaProofKnownE18
import Derived.Laws.StructEq
import Derived.KernelRfl
import Derived.Laws.IdiomRangeMap
set_option linter.all false
namespace Go.Eng
open Go
theorem Zit {α:Type}{l:List α}{i:Nat}{x:α}(h:l[i]?=some x):i<l.length:=(List.getElem?_eq_some_iff.1 h).1
section
variable {P:Program} {n:Nat} {g:G} {s:St} {a:Act} {w:World}
end
end Go.Eng

namespace Go.Eng
open Go
theorem Zjh {α:Type}(n:Nat)(z:α)(l:List α)(h:l.length=n){m:List α}(e:m=(List.range n).map λi=>l.getD i z):m=l:=by
 subst e
 apply List.ext_getElem?
 intro i
 rw [Zp]
 by_cases hi:i<n
 ·rw [List.getElem?_range hi,Zo (by omega)]
  simp [Zj,Zo (show i<l.length by omega)]
 rw [List.getElem?_eq_none (l:=List.range n) (by simp;omega),List.getElem?_eq_none (by omega)];rfl
theorem ZfY {α:Type}{l:List α}{i:Int}{e:α}(h:idx l i=some e):0<=i/\i.toNat<l.length/\l[i.toNat]?=some e:=by
 unfold idx at h
 split at h
 ·rename_i h0
  exact ⟨h0,(List.getElem?_eq_some_iff.1 h).1,h⟩
 cases h
theorem ZbP {α:Type}{l:List α}{i:Int}{e:α}{t off n sz:Nat}{k:IntKind}(h:idx l i=some e)(hn:l.length=n) :
  Zag (.iaddr n sz) [.loc t off,.p (.int k i)]=some (.loc t (off+i.toNat*sz)):=by
 obtain ⟨h0,h1,_⟩:=ZfY h
 simp only [Zag]
 rw [ZG ⟨h0,by omega⟩]
 rfl
theorem Zi9 {α:Type}{l:List α}{i:Int}{e:α}{off:Nat}(f:α->AV)(pre post:List AV)(h:idx l i=some e)(hp:pre.length=off){cs:List AV}(hc:cs=pre++(l.map f++post)) :
  sub (off+i.toNat*1) 1 cs=some [f e]:=by
 obtain ⟨h0,h1,h2⟩:=ZfY h
 subst hc hp
 unfold sub
 rw [ZG (by simp;omega)]
 have e1:(pre++(l.map f++post))[pre.length+i.toNat*1]?=some (f e):=by
  rw [Zl (by omega),show pre.length+i.toNat*1-pre.length=i.toNat by omega,Zk (by simpa using h1),Zp,h2]
  rfl
 congr 1
 have:=List.drop_eq_getElem_cons (Zit e1)
 rw [this]
 have e2:(pre++(l.map f++post))[pre.length+i.toNat*1]'(Zit e1)=f e:=by
  rw [Zo (Zit e1)] at e1
  simpa using e1
 rw [e2]
 simp
theorem ZhA {α:Type}{l:List α}{i:Int}{e y:α}{off:Nat}(f:α->AV)(pre post:List AV)(h:idx l i=some e)(hp:pre.length=off){cs vs cs':List AV}(hc:cs=pre++(l.map f++post))(hv:vs=[f y])
  (hc':cs'=pre++((l.set i.toNat y).map f++post)):ZaG (off+i.toNat*1) vs cs=some cs':=by
 obtain ⟨h0,h1,h2⟩:=ZfY h
 subst hc hp hv hc'
 unfold ZaG
 rw [ZG (by simp;omega)]
 congr 1
 rw [Nat.mul_one,List.take_append,List.take_of_length_le (by omega),show pre.length+i.toNat-pre.length=i.toNat by omega,List.take_append_of_le_length (by simp;omega)]
 simp only [List.append_assoc]
 congr 1
 rw [List.drop_append,List.drop_eq_nil_of_le (by simp;omega),List.nil_append,show pre.length+i.toNat+[f y].length-pre.length=i.toNat+1 by simp;omega,
  List.drop_append_of_le_length (by simp;omega),← List.append_assoc,← List.append_assoc]
 congr 1
 rw [List.map_set,List.set_eq_take_append_cons_drop,ZG (by simpa using h1)]
 simp
theorem Zix {X Y:List AV}{pre post cs':List AV}(h:X=Y)(hc:cs'=pre++(X++post)):cs'=pre++(Y++post):=h ▸ hc
section
variable {P:Program} {n:Nat} {s:St}
theorem ZeD {α:Type}{l:List α}{i:Int}{e:α}{d t off:Nat}{x:IX}{cs:List AV}(f:α->AV)(pre post:List AV)(h:idx l i=some e)(hx:ev s.fr x=.loc t (off+i.toNat*1))(hb:bget s.bx t=some cs)
  (hc:cs=pre++(l.map f++post)) (hp:pre.length=off) (hok:ZbD (f e)=true:=by rfl):ZU P (.load d x 1 false) s ⟨put s.fr d (f e),s.bx,s.H⟩:=by
 have hs:=Zi9 f pre post h hp hc
 simp only [ZU,Zad,hx,rd,hb,Zy,hs,ZY,hok,Bool.and_self,ZH,mk,Zz,Zf,ZE]
theorem Zfk {α:Type}{l:List α}{i:Int}{e y:α}{t off:Nat}{x z:IX}{cs cs':List AV}(f:α->AV)(pre post:List AV)(h:idx l i=some e)(hx:ev s.fr x=.loc t (off+i.toNat*1))(hz:ev s.fr z=f y)(hb:bget s.bx t=some cs)
  (hc:cs=pre++(l.map f++post)) (hp:pre.length=off) (hc':cs'=pre++((l.set i.toNat y).map f++post)) (hcell:cellsOf (f y)=[f y]:=by rfl) (hok:ZbD (f y)=true:=by rfl) :
  ZU P (.store x z 1) s ⟨s.fr,bput s.bx t cs',s.H⟩:=by
 have hs:=ZhA f pre post h hp hc rfl hc'
 simp only [ZU,Zad,hx,hz,wrt,hb,Zy,hcell,hs,ZY,hok,Bool.and_self,Zz,List.length_singleton,and_self,ZH]
theorem Zjp {x y:IX}{m:Nat}{s':St}(h:ZU P (.store x y m) s s')(hl:Zgy (ev s.fr x)=false):ZU P (.storeH x y m) s s':=by
 simp only [ZU,Zad] at h ⊢
 split at h
 ·rename_i hc;rw [ZG ⟨hl,hc⟩];exact h
 cases h
end
end Go.Eng

namespace Go.Eng
open Go
theorem Zif {H H':List HO}{x x':AV}(h:frzV H x=some (x',H')):Zgm [] H x=some (x',H'):=by rw [Zgl];exact h
theorem passL_nil' {fl:List (List Bool)}{H:List HO}:ZdT fl H []=some ([],H):=rfl
theorem ZhE {b:List Bool}{fl:List (List Bool)}{H H1 H2:List HO}{x x':AV}{xs xs':List AV}(h1:Zgm b H x=some (x',H1))(h2:ZdT fl H1 xs=some (xs',H2)):ZdT (b::fl) H (x::xs)=some (x'::xs',H2):=by
 simp only [ZdT,List.headD_cons,List.tail_cons,h1,Zy,h2,Zz]
section
variable {P:Program} {n:Nat} {s:St}
theorem ZiK {d:Option Nat}{f:Nat}{xs:List IX}{ys args:List AV}{r:AV}{H H1 H':List HO}(hs:s.H=H)(hy:xs.map (ev s.fr)=ys)(fl:List (List Bool))(hf:ZdT fl H ys=some (args,H1))(hc:Zbc P f args H1 r H'):ZU P (.call d f xs) s ⟨putO s.fr d r,s.bx,H'⟩:=by
 subst hs hy
 exact ⟨args,H1,r,H',⟨fl,hf⟩,hc,rfl⟩
theorem Zg8 {f:Nat}{F:IFn}(hk:chkF P f F=true){args:List AV}{H:List HO}(ids:List Nat)(K:AV->List HO->Prop)(hK:∀ r H,K r H->Zac r=true)(hl:args.length=F.nargs)(hno:noLocL args=true)
  (h:vc P F.nt F.body (endQ λs'=>∃ xs,rawL (wS ids s') F.res=some xs/\K (Zbe xs) (weakH ids s'.H)) ⟨Zdm args 0,[],H⟩):∃ r H',Zbc P f args H r H'/\K r H':=by
 obtain ⟨e,s',h1,h2⟩:=vcd _ h
 have key:(∃ xs,rawL (wS ids s') F.res=some xs/\K (Zbe xs) (weakH ids s'.H))->(e=.normal∨e=.ret)->∃ r H',Zbc P f args H r H'/\K r H':=by
  rintro ⟨xs,x1,x3⟩ he
  refine ⟨Zbe xs,weakH ids s'.H,Zf3 hk hl hno (hK _ _ x3) (EvI.weak ids (Zab _ _ _ (ZaV _ (λe1 s1 q=>?_) h1))),x3⟩
  obtain ⟨q1,q2⟩:=q
  subst q1 q2
  rcases he with rfl|rfl
  ·exact ⟨xs,x1,rfl,rfl⟩
  exact ⟨xs,x1,rfl,rfl⟩
 cases e with
 | normal=>exact key h2 (.inl rfl)
 | ret=>exact key h2 (.inr rfl)
 | _=>exact h2.elim
end
end Go.Eng
namespace Go.Eng
open Go
section
variable {P:Program} {s:St}
end
end Go.Eng

namespace Go.Eng
open Go Go.MapKept
abbrev Ent:=List (List Int×AV)
def ZeV (es:Ent)(ks:List Int):Option AV:=(es.find? (λp=>decide (p.1=ks))).map (·.2)
def mset (es:Ent)(ks:List Int)(v:AV):Ent:=match es with
 | []=>[(ks,v)]
 | p::r=>if p.1=ks then (ks,v)::r else p::mset r ks v
def keyA (kn:Nat)(ks:List Int):AV:=if kn=0 then .p (.int .i64 (ks.headD 0)) else .agg (ks.map λn=>.p (.int .i64 n))
def fEnt:Ent->List MapEntry->List Int->Nat->Option (Nat×Value)
 | p::es,e::ents,ks,i=>if p.1=ks then some (i,e.val) else fEnt es ents ks (i+1)
 | _,_,_,_=>none
theorem Zip {c:Cx}{kn:Nat}{ks:List Int}{v:Value}(h:VR c (keyA kn ks) v):v=keyV kn ks:=by
 unfold keyA at h
 unfold keyV
 split at h
 ·rename_i e;rw [ZG e];exact ZaR h
 rename_i e
 rw [ZF e]
 rw [VR] at h
 obtain ⟨vs,rfl,h⟩:=h
 congr 1
 have:vs=ks.map (Value.int .i64):=by
  clear e
  induction ks generalizing vs with
  | nil=>rw [Zv,VRL] at h;exact h
  | cons x xs ih =>
   rw [Zu,VRL] at h
   obtain ⟨u,us,rfl,h1,h2⟩:=h
   rw [ZaR h1,ih us h2];rfl
 rw [this]
theorem Zf4 {c:Cx}:∀ (ks:List Int),VRL c (ks.map λn=>.p (.int .i64 n)) (ks.map (Value.int .i64))
 | []=>by simp [VRL]
 | x::xs=>by rw [Zu,Zu,VRL];exact ⟨_,_,rfl,Zbb _ _,Zf4 xs⟩
theorem Zeg:∀ (as bs:List Int),as.length=bs.length->∀ ks:List Bool,ks=as.map (λ_=>true) →
  ZaH ks (as.map λn=>.p (.int .i64 n)) (bs.map λn=>.p (.int .i64 n))=some (decide (as=bs))
 | [],[],_,ks,e=>by subst e;rfl
 | a::as,b::bs,h,ks,e=>by
  subst e
  have:=Zeg as bs (by simpa using h) _ rfl
  simp only [Zu,ZaH,ZH,this,Zz]
  congr 1
  by_cases h1:a=b<;>by_cases h2:as=bs<;>simp [h1,h2]
 | [],_::_,h,_,_=>by simp at h
 | _::_,[],h,_,_=>by simp at h
section
variable {P:Program}
theorem Zed {w:World}{kk:IntKind}:∀ (es:Ent) (ents:List MapEntry) (ks:List Int) (i:Nat),ents.map (·.key)=es.map (λp=>keyV 0 p.1)->(∀ p∈es,p.1.length=1)->ks.length=1 →
  Instr.findNow (.int kk) (keyV 0 ks) ents i=some (fEnt es ents ks i)
 | [],[],ks,i,_,_,_=>rfl
 | p::es,e::ents,ks,i,h,hl,hk=>by
  simp only [Zu,Zi] at h
  obtain ⟨x,hx⟩:=List.length_eq_one_iff.1 hk
  obtain ⟨y,hy⟩:=List.length_eq_one_iff.1 (hl p (by simp))
  have ih:=Zed (w:=w) (kk:=kk) es ents ks (i+1) h.2 (λq hq=>hl q (by simp [hq])) hk
  unfold Instr.findNow fEnt
  rw [h.1]
  subst hx
  rw [hy]
  simp only [keyV,ZH,List.headD_cons,Instr.sameNow]
  by_cases e1:y=x
  ·subst e1;simp
  have e2:(x==y)=false:=by simp [Ne.symm e1]
  have e3:¬ ([y]=[x]):=by simp [e1]
  rw [ZF e3,e2]
  exact ih
 | [],_::_,_,_,h,_,_=>by simp at h
 | _::_,[],_,_,h,_,_=>by simp at h
theorem Zcg {w:World}{kt:TypeId}{kn:Nat}(h0:kn≠0){ks0:List Bool}(hq:eqOK P kt ks0=true)(hks:ks0.length=kn)(ht:∀ b∈ks0,b=true) :
  ∀ (es:Ent) (ents:List MapEntry) (ks:List Int) (i:Nat),ents.map (·.key)=es.map (λp=>keyV kn p.1)->(∀ p∈es,p.1.length=kn)->ks.length=kn →
  (Instr.findAsking kt (keyV kn ks) ents i).run P w=.ok (fEnt es ents ks i) w
 | [],[],ks,i,_,_,_=>rfl
 | p::es,e::ents,ks,i,h,hl,hk=>by
  simp only [Zu,Zi] at h
  have ih:=Zcg (w:=w) h0 hq hks ht es ents ks (i+1) h.2 (λq hq=>hl q (by simp [hq])) hk
  have hp:=hl p (by simp)
  have hks0:ks0=ks.map (λ_=>true):=by
   refine List.ext_getElem (by simp [hks,hk]) λj h1 h2=>?_
   simp [ht _ (List.getElem_mem h1)]
  have hrun:(Op.equal kt (keyV kn ks) (keyV kn p.1)).run P w=.ok (decide (ks=p.1)) w:=by
   simp only [keyV,ZF h0]
   exact Zdg (c:=⟨λ_=>True,w,[],[],noB⟩) hq (Zeg ks p.1 (by rw [hk,hp]) ks0 hks0) (Zf4 ks) (Zf4 p.1)
  unfold Instr.findAsking fEnt
  rw [h.1]
  simp only [Sem.run_bind,hrun,Result.andThen_ok]
  by_cases e1:p.1=ks
  ·rw [ZG e1];simp [e1]
  have e2:¬ ks=p.1:=λe=>e1 e.symm
  rw [ZF e1];simp only [e2,decide_false,Zf,ZE];exact ih
 | [],_::_,_,_,h,_,_=>by simp at h
 | _::_,[],_,_,h,_,_=>by simp at h
theorem ZeW {kt:TypeId}{kn:Nat}(h:Zg2 P kt kn=true):(kn=0/\∃ kk,P.underlying kt=some (.int kk)) ∨
  (kn≠0/\∃ fs ks0,P.underlying kt=some (.struct fs)/\eqOK P kt ks0=true/\ks0.length=kn/\(∀ b∈ks0,b=true)/\Za3 P 0 fs.toList ks0=true):=by
 unfold Zg2 at h
 split at h
 ·rename_i kk hu;exact .inl ⟨by simpa using h,kk,hu⟩
 ·rename_i fs hu
  simp only [Ze,ZD] at h
  obtain ⟨⟨⟨h1,h2⟩,_⟩,h3⟩:=h
  refine .inr ⟨h2,fs,_,hu,h3,by simp [h1],by simp,?_⟩
  simp only [eqOK,Ze,hu] at h3
  exact h3.1.1
 cases h
theorem Ze9 {fs:Array Field}{a b:Value}:Instr.sameNow (.struct fs) a b=none:=by
 unfold Instr.sameNow;rfl
theorem Zdf {w:World}{kt:TypeId}{kn:Nat}(h:Zg2 P kt kn=true){es:Ent}{ents:List MapEntry}{ks:List Int}(he:ents.map (·.key)=es.map (λp=>keyV kn p.1))(hl:∀ p∈es,p.1.length=klen kn)(hk:ks.length=klen kn) :
  (Instr.findKey kt (keyV kn ks) ents).run P w=.ok (fEnt es ents ks 0) w:=by
 rcases ZeW h with ⟨rfl,kk,hu⟩|⟨h0,fs,ks0,hu,hq,hks,ht,_⟩
 ·unfold Instr.findKey
  simp only [Sem.run_bind,run_underlying hu,Result.andThen_ok,Zed (w:=w) es ents ks 0 he hl hk]
  rfl
 have hkl:klen kn=kn:=by simp [klen,h0]
 rw [hkl] at hl hk
 have hask:=Zcg (w:=w) h0 hq hks ht es ents ks 0 he hl hk
 unfold Instr.findKey
 simp only [Sem.run_bind,run_underlying hu,Result.andThen_ok]
 cases ents with
 | nil =>
  cases es with
  | nil=>rfl
  | cons=>simp at he
 | cons e ents =>
  unfold Instr.findNow
  rw [Ze9]
  exact hask
theorem Ze5 {w:World}{m:Nat}{b0:Bool}:∀ (fs:List Field) (ks0:List Bool) (off:Nat) (cs:Array Value) (ks:List Int),Za3 P off fs ks0=true->(∀ b∈ks0,b=true)->cs.toList.drop off=ks.map (Value.int .i64)->ks.length=ks0.length →
  (forIn fs PUnit.unit λf (_:PUnit)=>(do
    if f.name ≠ "_" then
     let x ← part f.type cs f.offset
     Instr.checkKey b0 (m+1) f.type x
     pure (ForInStep.yield PUnit.unit)
    else pure (ForInStep.yield PUnit.unit):Sem _)).run P w=.ok PUnit.unit w
 | [],ks0,off,cs,ks,_,_,_,_=>rfl
 | f::fs,k::ks0,off,cs,x::ks,hf,ht,hc,hl=>by
  simp only [Za3,Ze,Zg,ZD,beq_eq_false_iff_ne] at hf
  obtain ⟨⟨⟨hn,ho⟩,hk⟩,hf⟩:=hf
  obtain rfl:k=true:=ht k (by simp)
  have hxo:cs[f.offset]?=some (.int .i64 x):=by
   have:=congrArg (·[0]?) hc
   simpa [ho] using this
  have hx':cs.toList.drop (off+1)=ks.map (Value.int .i64):=by
   have:=congrArg List.tail hc
   simpa using this
  have ih:=Ze5 (w:=w) (m:=m) (b0:=b0) fs ks0 (off+1) cs ks hf (λb hb=>ht b (by simp [hb])) hx' (by simpa using hl)
  cases hty:P.underlying f.type with
  | none=>simp [hty] at hk
  | some T =>
   cases T<;>simp [hty] at hk
   rename_i kk
   have hpl:P.plainKey f.type=true:=by simp [Program.plainKey,hty]
   have h1:=run_part_plain (P:=P) w hpl hxo
   simp only [List.forIn_cons,Sem.run_bind,hn,ne_eq,not_false_eq_true,ZH,h1,Result.andThen_ok,Instr.checkKey,run_underlying hty,Sem.run_pure]
   exact ih
 | _::_,[],_,_,_,hf,_,_,_=>by simp [Za3] at hf
 | _::_,_::_,_,_,[],_,_,_,hl=>by simp at hl
theorem ZcM {w:World}{kt:TypeId}{kn:Nat}(h:Zg2 P kt kn=true){ks:List Int}(hk:ks.length=klen kn)(b:Bool)(m:Nat) :
  (Instr.checkKey b (m+2) kt (keyV kn ks)).run P w=.ok () w:=by
 rcases ZeW h with ⟨rfl,kk,hu⟩|⟨h0,fs,ks0,hu,hq,hks,ht,hfl⟩
 ·simp [Instr.checkKey,run_underlying hu,keyV]
 have hkl:ks.length=ks0.length:=by rw [hk,hks];simp [klen,h0]
 have:=Ze5 (w:=w) (m:=m) (b0:=b) fs.toList ks0 0 (ks.map (Value.int .i64)).toArray ks hfl ht (by simp) hkl
 unfold Instr.checkKey
 simp only [Sem.run_bind,run_underlying hu,Result.andThen_ok,keyV,ZF h0]
 rw [← Array.forIn_toList]
 simp only [ne_eq,ite_not,bind_pure_comp] at this ⊢
 rw [this]
 rfl
theorem ZiY {kn:Nat}{a b:List Int}(ha:a.length=klen kn)(hb:b.length=klen kn)(h:keyV kn a=keyV kn b):a=b:=by
 unfold keyV klen at *
 split at h
 ·rename_i e
  rw [ZG e] at ha hb
  obtain ⟨x,rfl⟩:=List.length_eq_one_iff.1 ha
  obtain ⟨y,rfl⟩:=List.length_eq_one_iff.1 hb
  simpa using h
 simp only [Value.agg.injEq] at h
 have h2:=congrArg Array.toList h
 simp only [List.toList_toArray] at h2
 refine List.map_inj_right (λx y e=>?_) |>.1 h2
 simpa using e
theorem ZdA:∀ (ks:List Int) (n:Nat),((ks.map (Value.int .i64)).zip (ks.map (Value.int .i64))).all (λ(x,y)=>Instr.sameBits n x y)=true
 | [],_=>rfl
 | x::xs,n=>by
  simp only [Zu,List.zip_cons_cons,List.all_cons,Ze]
  exact ⟨by simp [Instr.sameBits],ZdA xs n⟩
theorem Zgc (kn:Nat)(ks:List Int)(n:Nat):Instr.sameBits (n+1) (keyV kn ks) (keyV kn ks)=true:=by
 unfold keyV
 split
 ·simp [Instr.sameBits]
 have:=ZdA ks n
 simp only [Instr.sameBits,beq_self_eq_true,Bool.true_and,List.toList_toArray]
 exact this
theorem Zgd {w:World}(kn:Nat)(ks:List Int):(Instr.keyThatStays (keyV kn ks) (keyV kn ks)).run P w=.ok (keyV kn ks) w:=by
 simp [Instr.keyThatStays,Zgc kn ks 9999]
theorem Ze2 {c:Cx}:∀ {es:Ent} {ents:List MapEntry} {ks:List Int} {i:Nat},es.length=ents.length->fEnt es ents ks i=none->ZeV es ks=none/\(∀ p∈es,p.1≠ks)/\∀ v,mset es ks v=es++[(ks,v)]
 | [],[],ks,i,_,_=>⟨rfl,by simp,λ_=>rfl⟩
 | p::es,e::ents,ks,i,hl,h=>by
  unfold fEnt at h
  split at h
  ·cases h
  rename_i hne
  obtain ⟨h1,h2,h3⟩:=Ze2 (c:=c) (es:=es) (ents:=ents) (by simpa using hl) h
  refine ⟨?_,?_,λv=>?_⟩
  ·simp only [ZeV,List.find?_cons,hne,decide_false] at h1 ⊢;exact h1
  ·intro q hq
   rcases List.mem_cons.1 hq with rfl|hq
   ·exact hne
   exact h2 q hq
  simp only [mset,ZF hne,h3 v,List.cons_append]
 | [],_::_,_,_,hl,_=>by simp at hl
 | _::_,[],_,_,hl,_=>by simp at hl
theorem Ze1 {c:Cx}:∀ {es:Ent} {ents:List MapEntry} {ks:List Int} {i j:Nat} {u:Value},VRL c (es.map (·.2)) (ents.map (·.val))->fEnt es ents ks i=some (j,u) →
  ∃ x q e,ZeV es ks=some x/\VR c x u/\j=i+q/\es[q]?=some (ks,x)/\ents[q]?=some e/\∀ v,mset es ks v=es.set q (ks,v)
 | p::es,e::ents,ks,i,j,u,hv,h=>by
  simp only [Zu] at hv
  rw [VRL] at hv
  obtain ⟨u0,us,e1,hv1,hv2⟩:=hv
  simp only [Zi] at e1
  obtain ⟨rfl,rfl⟩:=e1
  unfold fEnt at h
  split at h
  ·rename_i hp
   simp only [ZA,ZB] at h
   obtain ⟨rfl,rfl⟩:=h
   refine ⟨p.2,0,e,?_,hv1,rfl,?_,rfl,λv=>?_⟩
   ·simp [ZeV,List.find?_cons,hp]
   ·simp [← hp]
   simp [mset,hp]
  rename_i hp
  obtain ⟨x,q,e',h1,h2,h3,h4,h5,h6⟩:=Ze1 (es:=es) (ents:=ents) hv2 h
  refine ⟨x,q+1,e',?_,h2,by omega,by simpa using h4,by simpa using h5,λv=>?_⟩
  ·simp only [ZeV,List.find?_cons,hp,decide_false] at h1 ⊢;exact h1
  simp [mset,hp,h6 v]
 | [],_,_,_,_,_,_,h=>by simp [fEnt] at h
 | _::_,[],_,_,_,_,_,h=>by simp [fEnt] at h
theorem ZiT {kn:Nat}{es:Ent}{ks:List Int}{v:AV}(h:∀ p∈es,p.1.length=klen kn)(hk:ks.length=klen kn):∀ p∈mset es ks v,p.1.length=klen kn:=by
 induction es with
 | nil=>simpa [mset] using hk
 | cons p r ih =>
  unfold mset
  intro q hq
  split at hq
  ·rcases List.mem_cons.1 hq with rfl|hq
   ·exact hk
   exact h q (by simp [hq])
  rcases List.mem_cons.1 hq with rfl|hq
  ·exact h _ (by simp)
  exact ih (λp hp=>h p (by simp [hp])) q hq
theorem Zjj {es:Ent}{ks:List Int}{v:AV}(h:ZY (es.map (·.2))=true)(hv:ZbD v=true):ZY ((mset es ks v).map (·.2))=true:=by
 induction es with
 | nil=>simp [mset,ZY,hv]
 | cons p r ih =>
  simp only [Zu,ZY,Ze] at h
  unfold mset
  split
  ·simp only [Zu,ZY,hv,h.2,Bool.and_self]
  simp only [Zu,ZY,h.1,ih h.2,Bool.and_self]
def mapL:LC:=⟨[],0,λ_ _=>True,true⟩
end
section
variable {P:Program} {k:K0} {n:Nat} {g:G} {s:St} {a:Act} {w:World}
theorem Rel.setMp (h:Rel k n g s a w){id l:Nat}{L:LC}{fr:List (Nat×AV)}{st st':LS}{es:Array MapEntry}{m:Nat}{o':Obj}(hH:s.H[id]?=some (.lp L fr st))(hρ:g.ρ[id]?=some l)(hr:w.heap[l]?=some (.map es m))
  (ho:Zam (cx k g s.H w) (cx k g (s.H.set id (.lp L fr st')) (w.putObj l o'))->HoR (cx k g (s.H.set id (.lp L fr st')) (w.putObj l o')) l (.lp L fr st')) :
  Rel k n g ⟨s.fr,s.bx,s.H.set id (.lp L fr st')⟩ a (w.putObj l o'):=by
 have u:Off w (w.putObj l o') l:=.put _ (λvs e f h=>by rw [hr] at h;cases h)
 have hget:=getElem?_set' (y:=HO.lp L fr st') hH
 have hlt:l<w.heap.size:=(Array.getElem?_eq_some_iff.1 hr).1
 have hl:Zam (cx k g s.H w) (cx k g (s.H.set id (.lp L fr st')) (w.putObj l o')):=
  {stay:=λa x ho hc=>by
    refine ⟨u.cell hc,ho.1,ho.2.1,λj hj=>?_⟩
    obtain ⟨sz,ver,rows,h1,h2⟩:=ho.2.2 j hj
    refine ⟨sz,ver,rows,?_,h2⟩
    rw [hget,ZF (λe=>by subst e;rw [hH] at h1;cases h1)]
    exact h1
   arr:=λj sz ver frz rows e=>by
    have e':s.H[j]?=some (.arr sz ver frz rows):=e
    refine ⟨ver,frz,rows,?_,Nat.le_refl _,λ_=>⟨Nat.le_refl _,rfl,λb vs _ hb=>⟨vs,u.blk hb,rfl⟩⟩⟩
    show (s.H.set id _)[j]?=_
    rw [hget,ZF (λe1=>by subst e1;rw [hH] at e';cases e')];exact e'
   cells:=λj cs e=>by
    have e':s.H[j]?=some (.cells cs):=e
    refine ⟨⟨cs,?_⟩,rfl⟩
    show (s.H.set id _)[j]?=_
    rw [hget,ZF (λe1=>by subst e1;rw [hH] at e';cases e')];exact e'
   lp:=λj L' fr' st1 e=>by
    have e':s.H[j]?=some (.lp L' fr' st1):=e
    refine ⟨?_,rfl⟩
    by_cases hj:id=j
    ·subst hj
     rw [hH] at e'
     cases e'
     exact ⟨st',by show (s.H.set id _)[id]?=_;rw [hget,ZG rfl]⟩
    exact ⟨st1,by show (s.H.set id _)[j]?=_;rw [hget,ZF hj];exact e'⟩ }
 have hobj:∀ b,b≠l->∀ o,w.heap[b]?=some o->(w.putObj l o').heap[b]?=some o:=λb hb o ho=>(u.block b hb).trans ho
 exact
  {defers:=h.defers.mono λD _ hD=>hobj D (λe=>by subst e;rw [hr] at hD;cases hD) _ hD
   rnd:=λl' hl'=>by
    obtain ⟨r1,h1⟩:=h.rnd l' hl'
    exact ⟨r1,hobj l' (λe=>by subst e;rw [hr] at h1;cases h1) _ h1⟩
   tsz:=h.tsz
   slots:=λt=>Zar hl (λ_ _ e=>e) (h.tops t) (h.slots t)
   tops:=h.tops
   boxes:=λt cs e=>let ⟨b,hb,hr'⟩:=h.boxes t cs e; ⟨b,hb,hr'.later hl (hobj b (λe=>by
    subst e;obtain ⟨_,vs,⟨et,hr'⟩,_⟩:=hr';rw [show w.heap[b]?=_ from hr'] at hr;cases hr))⟩
   boxed:=h.boxed
   heap:=λj o e=>by
    simp only [hget] at e
    by_cases hj:id=j
    ·subst hj
     simp only [ZH,ZA] at e
     subst e
     exact ⟨l,hρ,ho hl⟩
    simp only [hj,ZE] at e
    obtain ⟨b,hb,hr'⟩:=h.heap j o e
    exact ⟨b,hb,hr'.later hl (hobj b (λe=>hj (h.inj id j l hρ (by rw [← e];exact hb))))⟩
   len:=by simp [h.len]
   inj:=h.inj
   binj:=h.binj
   apart:=h.apart
   own:=h.own
   keep:=h.keep.off u (h.own id l hρ)
   hist:=h.hist.trans hl }
theorem ZiN {q:SpK}{s s':St}{d:Option Nat}{xs:List IX}{v:AV}{H':List HO}(hv:Zac v=true)
  (h:∀ (k:K0) (n:Nat) (g:G) (t:St) (a:Act) (w:World) (o:Oper) (d:Option Nat) (ys:List IX),ys.map (ev t.fr)=xs.map (ev s.fr)->t.H=s.H->Rel k n g t a w->ZgF P n o d q ys=true->Did P k n ⟨Eng.putO t.fr d v,t.bx,H'⟩ a w o)
  (hs:s'=⟨Eng.putO s.fr d v,s.bx,H'⟩):ZU P (.sp d q xs) s s':=⟨v,H',⟨hv,h⟩,hs⟩
theorem Zih (h:Rel k n g s a w){X:List Operand}{xs:List IX}{ys:List AV}(hm:Zaa X xs=true)(he:xs.map (ev s.fr)=ys):VRL (cx k g s.H w) ys (X.map a.eval):=by
 rw [← he];exact Z1 h hm
theorem ZiI {s s':St}{d:Option Nat}(kn:Nat)(hs:s'=⟨Eng.putO s.fr d (.map s.H.length),s.bx,s.H++[.lp mapL [] (.mp kn [])]⟩):ZU P (.sp d .mkMap []) s s':=by
 refine ZiN rfl ?_ hs
 intro k n g t a w o d ys _ hH h hc
 rw [← hH]
 simp only [ZgF,Ze,ZD] at hc
 obtain ⟨⟨hd,hdn⟩,hc⟩:=hc
 split at hc
 ·rename_i ty hop
  have ho:HoR (cx k ⟨g.ρ++[w.heap.size],g.β⟩ (t.H++[.lp mapL [] (.mp kn [])]) (w.alloc (.map #[] 0))) w.heap.size (.lp mapL [] (.mp kn [])):=
   .inr ⟨rfl,rfl,(by simp),#[],0,World.alloc_heap_new w _,stamped_empty 0,rfl,(by simp [VRL])⟩
  obtain ⟨h1,hl⟩:=h.newObjG (o:=.lp mapL [] (.mp kn [])) (.map #[] 0) ho
  refine ⟨.map (some w.heap.size),w.alloc (.map #[] 0),⟨g.ρ++[w.heap.size],g.β⟩,.inl ?_,?_⟩
  ·simp [execOp,hop,Instr.makeMap]
  rw [hd]
  refine h1.putO hdn ?_ rfl
  rw [VR]
  refine ⟨mapL,[],.mp kn [],w.heap.size,?_,rfl,?_,rfl⟩
  ·show (t.H++[_])[t.H.length]?=_;simp
  show (g.ρ++[_])[t.H.length]?=_;rw [← h.len];simp
 cases hc
def mres (ok:Bool)(es:Ent)(ks:List Int)(zero:AV):AV:=if ok then .tup [(ZeV es ks).getD zero,.p (.bool (ZeV es ks).isSome)] else (ZeV es ks).getD zero
theorem Rel.theMp (h:Rel k n g s a w){id:Nat}{L:LC}{fr:List (Nat×AV)}{kn:Nat}{es:Ent}(hH:s.H[id]?=some (.lp L fr (.mp kn es))){v:Value}(hv:VR (cx k g s.H w) (.map id) v)(hn:L.n=0) :
  L.mpk=true/\∃ b,g.ρ[id]?=some b/\v=.map (some b)/\MpR (cx k g s.H w) b (.mp kn es):=by
 rw [VR] at hv
 obtain ⟨L',fr',st',b,h1,h2,h3,h4⟩:=hv
 have h1':s.H[id]?=some (.lp L' fr' st'):=h1
 rw [hH] at h1'
 cases h1'
 obtain ⟨b',hb',hq⟩:=h.heap id _ hH
 have h3':g.ρ[id]?=some b:=h3
 rw [h3'] at hb'
 cases hb'
 rcases hq with ⟨q,_⟩|⟨_,q⟩
 ·rw [h2] at q;cases q
 exact ⟨h2,b,h3',by rw [h4,mapV,ZG hn],q⟩
theorem Zh7 {s s':St}{d:Option Nat}{xs:List IX}{id kn:Nat}{L:LC}{fr:List (Nat×AV)}{es:Ent}{ks:List Int}{ok:Bool}{zero r:AV}(hy:xs.map (ev s.fr)=[.map id,keyA kn ks])
  (hH:s.H[id]?=some (.lp L fr (.mp kn es))) (hk:ks.length=klen kn) (hr:r=mres ok es ks zero) (hno:Zac r=true) (hs:s'=⟨Eng.putO s.fr d r,s.bx,s.H⟩) (hn:L.n=0:=by rfl):ZU P (.sp d (.mapGet kn ok zero) xs) s s':=by
 refine ZiN hno ?_ hs
 intro k n g t a w o d ys hys hHt h hc
 rw [hy] at hys
 rw [← hHt] at hH ⊢
 simp only [ZgF,Ze,ZD] at hc
 obtain ⟨⟨hd,hdn⟩,hc⟩:=hc
 split at hc
 ·rename_i ty X Y ok' hop
  simp only [Ze,ZD] at hc
  obtain ⟨⟨rfl,hty⟩,hm⟩:=hc
  split at hty
  ·rename_i kt et hu
   simp only [Ze] at hty
   obtain ⟨hkey,hz⟩:=hty
   obtain ⟨u1,u2,e,v1,v2⟩:=ZbX (Zih h hm hys)
   simp only [Zu,Zv,Zi,ZC] at e
   have e2:=Zip v2
   obtain ⟨_,b,hb,e1,hok,hlen,ents,clock,q1,q2,q3,q4⟩:=h.theMp hH v1 hn
   have hz':∃ z,(zeroValue et).run P w=.ok z w/\VR (cx k g t.H w) zero z:=by
    split at hz
    ·rename_i i hi
     split at hz
     ·rename_i z hz0
      exact ⟨z,by simp [zeroValue,typeInfo,hi,hz0],(Zc9 hz).1⟩
     cases hz
    cases hz
   obtain ⟨z,hz1,hz2⟩:=hz'
   have hgo:(getObj b).run P w=.ok (.map ents clock) w:=MapKept.run_getObj_map (w:=w) q1
   have hck:=ZcM (w:=w) hkey hk ents.isEmpty 9998
   have hfk:=Zdf (w:=w) hkey q3 hlen hk
   have hrun:∀ u:Value,u=(match fEnt es ents.toList ks 0 with
     | some (_,v)=>if ok then Value.tuple #[v,.bool true] else v
     | none=>if ok then Value.tuple #[z,.bool false] else z)->(execOp a.eval o).run P w=.ok (.value u) w:=by
    intro u hu'
    simp only [execOp,hop,e.1,e.2,e1,e2,Instr.lookup,Sem.run_bind,run_underlying hu,Result.andThen_ok,hgo,hck,hfk,Sem.run_pure]
    subst hu'
    cases hf:fEnt es ents.toList ks 0 with
    | none=>cases ok<;>simp [hz1]
    | some p=>cases ok<;>simp
   have hlen2:es.length=ents.toList.length:=by
    have:=congrArg List.length q3
    simpa using this.symm
   refine ⟨_,w,g,.inl (hrun _ rfl),?_⟩
   rw [hd]
   refine h.putO hdn ?_ (ZT hno)
   subst hr
   cases hf:fEnt es ents.toList ks 0 with
   | none =>
    obtain ⟨m1,_,_⟩:=Ze2 (c:=cx k g t.H w) hlen2 hf
    unfold mres
    rw [m1]
    cases ok
    ·exact hz2
    simp only [ZH]
    rw [VR]
    exact ⟨[z,.bool false],rfl,by rw [VRL];exact ⟨_,_,rfl,hz2,by rw [VRL];exact ⟨_,_,rfl,Zbd _,by rw [VRL]⟩⟩⟩
   | some p =>
    obtain ⟨j,u⟩:=p
    obtain ⟨x,q,e',m1,m2,_⟩:=Ze1 q4 hf
    unfold mres
    rw [m1]
    cases ok
    ·exact m2
    simp only [ZH]
    rw [VR]
    exact ⟨[u,.bool true],rfl,by rw [VRL];exact ⟨_,_,rfl,m2,by rw [VRL];exact ⟨_,_,rfl,Zbd _,by rw [VRL]⟩⟩⟩
  cases hty
 cases hc
theorem ZiA {c:Cx}:∀ {xs:List AV} {us:List Value} (q:Nat) {x:AV} {u:Value},VRL c xs us->VR c x u->VRL c (xs.set q x) (us.set q u)
 | [],us,q,x,u,h,_=>by rw [VRL] at h;subst h;simp [VRL]
 | y::ys,us,q,x,u,h,hx=>by
  rw [VRL] at h
  obtain ⟨v,vs,rfl,h1,h2⟩:=h
  cases q with
  | zero=>rw [List.set_cons_zero,List.set_cons_zero,VRL];exact ⟨_,_,rfl,hx,h2⟩
  | succ q=>rw [List.set_cons_succ,List.set_cons_succ,VRL];exact ⟨_,_,rfl,h1,ZiA q h2 hx⟩
theorem ZfX {α:Type}(f:α->α)(y:α)(es:Array α)(q:Nat)(hq:∀ e,es[q]?=some e->f e=y):(es.modify q f).toList=es.toList.set q y:=by
 apply List.ext_getElem?
 intro j
 rw [Zq,Array.getElem?_toList,Array.getElem?_modify,Array.getElem?_toList]
 by_cases e:q=j
 ·subst e
  simp only [ZH]
  by_cases hlt:q<es.size
  ·have:=hq es[q] (Zb hlt)
   simp [hlt,this]
  simp [hlt]
 simp [e]
theorem Zh5 {s s':St}{xs:List IX}{id kn:Nat}{L:LC}{fr:List (Nat×AV)}{es:Ent}{ks:List Int}{v:AV}(hy:xs.map (ev s.fr)=[.map id,keyA kn ks,v])
  (hH:s.H[id]?=some (.lp L fr (.mp kn es))) (hk:ks.length=klen kn) (hok:ZbD v=true) (hs:s'=⟨s.fr,s.bx,s.H.set id (.lp L fr (.mp kn (mset es ks v)))⟩) (hn:L.n=0:=by rfl):ZU P (.sp none (.mapSet kn) xs) s s':=by
 refine ZiN (v:=.any) (d:=none) rfl ?_ hs
 intro k n g t a w o d ys hys hHt h hc
 rw [hy] at hys
 rw [← hHt] at hH ⊢
 simp only [ZgF,Ze,ZD] at hc
 obtain ⟨⟨hd,hdn⟩,hc⟩:=hc
 have main:∀ (ty:TypeId) (X Y Z:Operand),((execOp a.eval o)=(do Instr.mapUpdate ty (a.eval X) (a.eval Y) (a.eval Z);pure .skip)) →
   ((match P.underlying ty with|some (.map kt _)=>Zg2 P kt kn|_=>false)&&Zaa [X,Y,Z] ys)=true->Did P k n ⟨Eng.putO t.fr d .any,t.bx,t.H.set id (.lp L fr (.mp kn (mset es ks v)))⟩ a w o:=by
  intro ty X Y Z hop hc
  simp only [Ze] at hc
  obtain ⟨hty,hm⟩:=hc
  split at hty
  ·rename_i kt et hu
   obtain ⟨u1,u2,u3,e,v1,v2,v3⟩:=ZdM (Zih h hm hys)
   simp only [Zu,Zv,Zi,ZC] at e
   have e2:=Zip v2
   obtain ⟨hmk,b,hb,e1,hokc,hlen,ents,clock,q1,q2,q3,q4⟩:=h.theMp hH v1 hn
   have q1':w.heap[b]?=some (.map ents clock):=q1
   have hgo:(getObj b).run P w=.ok (.map ents clock) w:=MapKept.run_getObj_map (w:=w) q1
   have hck:=ZcM (w:=w) hty hk false 9998
   have hfk:=Zdf (w:=w) hty q3 hlen hk
   have hlen2:es.length=ents.toList.length:=by
    have:=congrArg List.length q3
    simpa using this.symm
   have hlt:b<w.heap.size:=(Array.getElem?_eq_some_iff.1 q1').1
   have fin:∀ (ents':Array MapEntry) (clock':Nat),(execOp a.eval o).run P w=.ok .skip (w.putObj b (.map ents' clock'))->Stamped ents' clock'->ents'.toList.map (·.key)=(mset es ks v).map (λp=>keyV kn p.1) →
     VRL (cx k g t.H w) ((mset es ks v).map (·.2)) (ents'.toList.map (·.val))->Did P k n ⟨Eng.putO t.fr d .any,t.bx,t.H.set id (.lp L fr (.mp kn (mset es ks v)))⟩ a w o:=by
    intro ents' clock' hrun hst hkeys hvals
    have hokm:=Zjj (ks:=ks) hokc hok
    have h1:=h.setMp (o':=.map ents' clock') (st':=.mp kn (mset es ks v)) hH hb q1' (λhl=>.inr ⟨hmk,hokm,ZiT hlen hk,ents',clock',World.putObj_heap_same hlt,hst,hkeys,VRL.later hl _ _ (ZX hokm) hvals⟩)
    refine ⟨undef,_,g,.inr ⟨hrun,rfl⟩,?_⟩
    rw [hd]
    exact h1.putO hdn (by simp [VR]) rfl
   cases hf:fEnt es ents.toList ks 0 with
   | none =>
    obtain ⟨_,m2,m3⟩:=Ze2 (c:=cx k g t.H w) hlen2 hf
    refine fin (ents.push { key:=keyV kn ks,val:=u3,born:=clock }) (clock+1) ?_ (stamped_push q2 λx hx e3=>?_) ?_ ?_
    ·rw [hop]
     simp only [e.1,e.2.1,e.2.2,e1,e2,Instr.mapUpdate,Sem.run_bind,run_underlying hu,Result.andThen_ok,hgo,hck,hfk,hf,run_setObj_map _ q1',Sem.run_pure]
     rfl
    ·obtain ⟨i,hi,e4⟩:=List.getElem_of_mem hx
     have e5:(ents.toList.map (·.key))[i]?=some (keyV kn ks):=by rw [Zp,Zo hi,Zz,e4,e3]
     rw [q3,Zp] at e5
     cases e6:es[i]? with
     | none=>rw [e6] at e5;cases e5
     | some p =>
      rw [e6,Zz,ZA] at e5
      have hp:=List.mem_of_getElem? e6
      exact m2 p hp (ZiY (hlen p hp) hk e5)
    ·rw [m3];simp [q3]
    rw [m3]
    simp only [List.map_append,Zu,Zv,Array.toList_push]
    exact Zcp q4 (by rw [VRL];exact ⟨_,_,rfl,v3,by rw [VRL]⟩)
   | some p =>
    obtain ⟨j,u⟩:=p
    obtain ⟨x,q,e',m1,m2,m3,m4,m5,m6⟩:=Ze1 q4 hf
    have hj:j=q:=by omega
    subst hj
    have m5':ents[j]?=some e':=by rw [← Array.getElem?_toList];exact m5
    have hkey:e'.key=keyV kn ks:=by
     have e5:(ents.toList.map (·.key))[j]?=some e'.key:=by rw [Zp,m5,Zz]
     rw [q3,Zp,m4,Zz,ZA] at e5
     exact e5.symm
    have hmod:(ents.modify j λe=>{ e with key:=keyV kn ks,val:=u3 }).toList=ents.toList.set j { e' with key:=keyV kn ks,val:=u3 } :=
     ZfX _ _ _ _ (λe0 he0=>by rw [m5'] at he0;cases he0;rfl)
    refine fin (ents.modify j λe=>{ e with key:=keyV kn ks,val:=u3 }) clock ?_ (stamped_modify q2 _ _ (λ_ _=>rfl) (λe0 _ he0=>by rw [m5'] at he0;cases he0;exact hkey.symm)) ?_ ?_
    ·rw [hop]
     simp only [e.1,e.2.1,e.2.2,e1,e2,Instr.mapUpdate,Sem.run_bind,run_underlying hu,Result.andThen_ok,hgo,hck,hfk,hf,m5',Zz,Option.getD_some,hkey,Zgd,run_setObj_map _ q1',Sem.run_pure]
     rfl
    ·rw [hmod,m6,List.map_set,List.map_set,q3]
    rw [hmod,m6,List.map_set,List.map_set]
    exact ZiA j q4 v3
  cases hty
 split at hc
 ·rename_i ty X Y Z hop
  exact main ty X Y Z (by simp [execOp,hop]) hc
 ·rename_i ty X Y Z hop
  exact main ty X Y Z (by simp [execOp,hop]) hc
 cases hc
end
end Go.Eng

namespace Go.Eng
open Go Go.MapKept
section
variable {P:Program} {k:K0} {n:Nat} {g:G} {s:St} {a:Act} {w:World}
def ZhK {κ υ:Type}[DecidableEq κ](l:List (κ×υ))(x:κ):Option υ:=(l.find? (λp=>decide (p.1=x))).map (·.2)
def ZiW {κ υ:Type}[DecidableEq κ](l:List (κ×υ))(x:κ)(z:υ):υ:=(ZhK l x).getD z
def mhas {κ υ:Type}[DecidableEq κ](l:List (κ×υ))(x:κ):Bool:=(ZhK l x).isSome
def Zgv {κ υ:Type}[DecidableEq κ](l:List (κ×υ))(x:κ)(v:υ):List (κ×υ):=match l with
 | []=>[(x,v)]
 | p::r=>if p.1=x then (x,v)::r else p::Zgv r x v
def encE {κ υ:Type}(ke:κ->List Int)(ve:υ->AV)(l:List (κ×υ)):Ent:=l.map λp=>(ke p.1,ve p.2)
class KeyE (κ:Type) (kn:Nat) (ke:κ->List Int):Prop where
 len:∀ x,(ke x).length=klen kn
 inj:∀ x y,ke x=ke y->x=y
def ke1 (x:Int):List Int:=[x]
instance:KeyE Int 0 ke1:=⟨λ_=>rfl,λx y h=>by simpa [ke1] using h⟩
theorem Zik {κ υ:Type}[DecidableEq κ]{kn:Nat}{ke:κ->List Int}(hk:KeyE κ kn ke)(ve:υ->AV)(l:List (κ×υ))(x:κ):ZeV (encE ke ve l) (ke x)=(ZhK l x).map ve:=by
 induction l with
 | nil=>rfl
 | cons p r ih =>
  by_cases e:p.1=x
  ·simp [ZeV,ZhK,encE,e]
  have e2:¬ ke p.1=ke x:=λh=>e (hk.inj _ _ h)
  simp only [ZeV,ZhK,encE,Zu,List.find?_cons,e,e2,decide_false] at ih ⊢
  exact ih
theorem ZiU {κ υ:Type}[DecidableEq κ]{kn:Nat}{ke:κ->List Int}(hk:KeyE κ kn ke)(ve:υ->AV)(l:List (κ×υ))(x:κ)(v:υ):mset (encE ke ve l) (ke x) (ve v)=encE ke ve (Zgv l x v):=by
 induction l with
 | nil=>rfl
 | cons p r ih =>
  by_cases e:p.1=x
  ·simp [mset,Zgv,encE,e]
  have e2:¬ ke p.1=ke x:=λh=>e (hk.inj _ _ h)
  simp only [encE] at ih
  simp only [mset,Zgv,encE,Zu,e,e2,ZE,ih]
abbrev mpT (id kn:Nat) (es:Ent):Zap:=.lp id mapL [] (.mp kn es)
theorem st_mkMap' {d:Nat}(kn:Nat){id:Nat}{H H':List HO}(hs:s.H=H)(hid:id=H.length)(hH:H'=H++[.lp mapL [] (.mp kn [])]) :
  ZU P (.sp (some d) .mkMap []) s ⟨put s.fr d (.map id),s.bx,H'⟩:=by
 subst hs hid hH
 exact ZiI kn rfl
theorem Zh6 {κ υ:Type}[DecidableEq κ]{d:Nat}{xs:List IX}{id kn:Nat}{ke:κ->List Int}[hk:KeyE κ kn ke]{ve:υ->AV}{l:List (κ×υ)}{x:κ}{z:υ}{zero:AV}{H:List HO}{r:AV}(hs:s.H=H)(hy:xs.map (ev s.fr)=[.map id,keyA kn (ke x)])
  (hl:Lies H (mpT id kn (encE ke ve l))) (hz:zero=ve z) (hr:r=.tup [ve (ZiW l x z),.p (.bool (mhas l x))]) (hno:∀ v,Zac (ve v)=true) :
  ZU P (.sp (some d) (.mapGet kn true zero) xs) s ⟨put s.fr d r,s.bx,s.H⟩:=by
 subst hs
 refine Zh7 hy hl (hk.len x) (by rw [mres,Zik hk];simp only [ZH];rw [hr,hz,ZiW,mhas];cases ZhK l x<;>rfl) (by rw [hr];simp [Zac,Zac.noLocL,hno]) rfl
theorem Zjb {κ υ:Type}[DecidableEq κ]{xs:List IX}{id kn:Nat}{ke:κ->List Int}[hk:KeyE κ kn ke]{ve:υ->AV}{l:List (κ×υ)}{x:κ}{v:υ}{y:AV}{H H':List HO}(hs:s.H=H)(hy:xs.map (ev s.fr)=[.map id,keyA kn (ke x),y])
  (hl:Lies H (mpT id kn (encE ke ve l))) (hv:y=ve v) (hok:ZbD y=true) (hH:H'=H.set id (.lp mapL [] (.mp kn (encE ke ve (Zgv l x v))))) :
  ZU P (.sp none (.mapSet kn) xs) s ⟨s.fr,s.bx,H'⟩:=by
 subst hs hH
 refine Zh5 hy hl (hk.len x) hok (by rw [hv,ZiU hk])
end
section
variable {H H0:List HO} {f0 items:List Zap}
theorem Fp.newMp (hF:Fp H0 H f0 items)(kn:Nat):∃ id H',id=H.length/\H'=H++[.lp mapL [] (.mp kn [])]/\Fp H0 H' f0 (mpT id kn []::items):=
 ⟨_,_,rfl,rfl,hF.new (by simp [Lies]) (λid e=>by cases e;rfl)⟩
theorem ZhD {s s0:St}(t:Nat){ts:List Nat}{a x:AV}{H1:List HO}(ht:t<1000000)(hs:s.H=H)(hb:get s.fr t=a)(hf:frzV H a=some (x,H1))
  (h:ZfQ ts ⟨put s.fr t x,s.bx,H1⟩=some s0):ZfQ (t::ts) s=some s0:=by
 subst hs hb
 simp only [ZfQ,ZG ht,hf,Zy,h]
theorem Fp.setMp (hF:Fp H0 H f0 items){k id kn:Nat}{es:Ent}(hk:items[k]?=some (mpT id kn es))(es':Ent) :
  ∃ H',H'=H.set id (.lp mapL [] (.mp kn es'))/\Fp H0 H' f0 (items.set k (mpT id kn es')):=by
 have hid:H[id]?=some (.lp mapL [] (.mp kn es)):=hF.get k hk
 have hlt:=(List.getElem?_eq_some_iff.1 hid).1
 refine ⟨_,rfl,hF.step hk (by simp [Lies,hlt]) (λid' e=>.inl e) (λid' hl ho=>?_) (by simp)⟩
 rw [Zr]
 intro e;subst e;exact ho rfl
end
theorem ZkF {P:Program}{n:Nat}{s:St}{fs:List Nat}{a:IC}{Q:Exit->St->Prop}(h:vc P n a (puQ fs Q) s):vc P n (.pu fs a) Q s:=h
theorem ZgO {α:Type}{sz:Nat}{enc:α->List PC}{l:List α}{b neg:Bool}(h:l.isEmpty=false):Zag (.isNil neg) [.p (.sl sz b (l.map enc))]=some (.p (.bool neg)):=by cases l<;>simp_all [Zag]
def neL {α:Type}(l:List α):Option Unit:=if l.isEmpty then none else some ()
theorem ZiS {α:Type}{l:List α}{u:Unit}(h:neL l=some u):l.isEmpty=false:=by cases l<;>simp_all [neL]
end Go.Eng

namespace Go.Eng
open Go
def opAt (ops:List IOp)(m:Nat):Ins:=match ops[m]? with
 | some o=>o.i
 | none=>.newH 0 []
def okAt (ops:List IOp)(m:Nat)(s:St):Bool:=match ops[m]? with
 | some o=>bnOK o s.fr&&(match o.g with
  | none=>true
  | some (t,b)=>match get s.fr t with
   | .p (.bool b')=>b==b'
   | _=>false)
 | none=>false
def preB (ops:List IOp)(m:Nat)(s:St):Bool:=(opsF Zec (ops.take m) s).isSome&&okAt ops m (opsD (ops.take m) s)
section
variable {P:Program} {n:Nat} {s s1 s2:St} {ops:List IOp} {keep:List Nat} {Q:Exit->St->Prop} {K:St->Prop}
theorem ZJ.o0 (m:Nat)(hs:ZU P (opAt ops m) (opsD (ops.take m) s) s1)(rest:ZJ P (ops.drop (m+1)) s1 s2)(hm:preB ops m s=true:=by kernel_rfl):ZJ P ops s s2:=by
 simp only [preB,Ze] at hm
 obtain ⟨h1,h2⟩:=hm
 refine ZJ.chunk m h1 ?_
 unfold okAt at h2
 unfold opAt at hs
 cases ho:ops[m]? with
 | none=>rw [ho] at h2;cases h2
 | some o =>
  rw [ho] at h2 hs
  simp only [Ze] at h2 hs
  have hd:ops.drop m=o::ops.drop (m+1):=by
   obtain ⟨hlt,e⟩:=List.getElem?_eq_some_iff.1 ho
   rw [List.drop_eq_getElem_cons hlt,e]
  rw [hd]
  refine ⟨s1,?_,rest⟩
  have hbn:bnOK o (opsD (ops.take m) s).fr=true:=h2.1
  unfold AOp
  cases hg:o.g with
  | none=>exact ⟨hbn,hs⟩
  | some p =>
   obtain ⟨t,b⟩:=p
   rw [hg] at h2
   simp only at h2 ⊢
   have hx:∃ b',get (opsD (ops.take m) s).fr t=.p (.bool b')/\(b==b')=true:=by
    have h3:=h2.2
    split at h3
    ·rename_i b' hv;exact ⟨b',hv,h3⟩
    cases h3
   obtain ⟨b',hv,h3⟩:=hx
   rw [hv]
   have:=eq_of_beq h3
   subst this
   simp only [ZH]
   exact ⟨hbn,hs⟩
def AK (P:Program)(ops:List IOp)(k:Nat)(s s1:St):Prop:=ZJ P (ops.drop k) s s1
def segO (ops:List IOp)(k m:Nat):List IOp:=(ops.drop k).take m
def preK (ops:List IOp)(k m:Nat)(s:St):Bool:=preB (ops.drop k) m s
theorem ZJ.o {k:Nat}(m:Nat)(hs:ZU P (opAt ops (k+m)) (opsD (segO ops k m) s) s1)(rest:AK P ops (k+m+1) s1 s2)(hm:preK ops k m s=true:=by kernel_rfl):AK P ops k s s2:=by
 refine ZJ.o0 (s1:=s1) m ?_ ?_ hm
 ·have:opAt (ops.drop k) m=opAt ops (k+m):=by unfold opAt;rw [Zn]
  rw [this];exact hs
 rw [List.drop_drop,← Nat.add_assoc];exact rest
def upd (s:St)(d:Nat)(r:AV):St:=⟨put s.fr d r,s.bx,s.H⟩
def updH (s:St)(d:Nat)(r:AV)(H:List HO):St:=⟨put s.fr d r,s.bx,H⟩
def updO (s:St)(d:Option Nat)(r:AV)(H:List HO):St:=⟨putO s.fr d r,s.bx,H⟩
theorem ZJ.u {k d:Nat}{r:AV}(m:Nat)(hs:ZU P (opAt ops (k+m)) (opsD (segO ops k m) s) ⟨put (opsD (segO ops k m) s).fr d r,(opsD (segO ops k m) s).bx,(opsD (segO ops k m) s).H⟩)(rest:AK P ops (k+m+1) (upd (opsD (segO ops k m) s) d r) s2)(hm:preK ops k m s=true:=by kernel_rfl):AK P ops k s s2:=ZJ.o m hs rest hm
theorem ZJ.h {k d:Nat}{r:AV}{H:List HO}(m:Nat)(hs:ZU P (opAt ops (k+m)) (opsD (segO ops k m) s) ⟨put (opsD (segO ops k m) s).fr d r,(opsD (segO ops k m) s).bx,H⟩)(rest:AK P ops (k+m+1) (updH (opsD (segO ops k m) s) d r H) s2)(hm:preK ops k m s=true:=by kernel_rfl):AK P ops k s s2:=ZJ.o m hs rest hm
theorem ZJ.v {k:Nat}{d:Option Nat}{r:AV}{H:List HO}(m:Nat)(hs:ZU P (opAt ops (k+m)) (opsD (segO ops k m) s) ⟨putO (opsD (segO ops k m) s).fr d r,(opsD (segO ops k m) s).bx,H⟩)(rest:AK P ops (k+m+1) (updO (opsD (segO ops k m) s) d r H) s2)(hm:preK ops k m s=true:=by kernel_rfl):AK P ops k s s2:=ZJ.o m hs rest hm
theorem ZJ.f {k:Nat}(h:(opsF Zec (ops.drop k) s).isSome=true:=by kernel_rfl):AK P ops k s (opsD (ops.drop k) s):=Zgq h
def EP (P:Program)(ops:List IOp)(k:Nat)(s:St)(K:St->Prop):Prop:=∃ s1,AK P ops k s s1/\K s1
theorem EP.o {k:Nat}(m:Nat)(hs:ZU P (opAt ops (k+m)) (opsD (segO ops k m) s) s1)(rest:EP P ops (k+m+1) s1 K)(hm:preK ops k m s=true:=by kernel_rfl):EP P ops k s K :=
 let ⟨s2,h1,h2⟩:=rest; ⟨s2,.o m hs h1 hm,h2⟩
theorem EP.u {k d:Nat}{r:AV}(m:Nat)(hs:ZU P (opAt ops (k+m)) (opsD (segO ops k m) s) ⟨put (opsD (segO ops k m) s).fr d r,(opsD (segO ops k m) s).bx,(opsD (segO ops k m) s).H⟩)(rest:EP P ops (k+m+1) (upd (opsD (segO ops k m) s) d r) K)(hm:preK ops k m s=true:=by kernel_rfl):EP P ops k s K:=EP.o m hs rest hm
theorem EP.h {k d:Nat}{r:AV}{H:List HO}(m:Nat)(hs:ZU P (opAt ops (k+m)) (opsD (segO ops k m) s) ⟨put (opsD (segO ops k m) s).fr d r,(opsD (segO ops k m) s).bx,H⟩)(rest:EP P ops (k+m+1) (updH (opsD (segO ops k m) s) d r H) K)(hm:preK ops k m s=true:=by kernel_rfl):EP P ops k s K:=EP.o m hs rest hm
theorem EP.v {k:Nat}{d:Option Nat}{r:AV}{H:List HO}(m:Nat)(hs:ZU P (opAt ops (k+m)) (opsD (segO ops k m) s) ⟨putO (opsD (segO ops k m) s).fr d r,(opsD (segO ops k m) s).bx,H⟩)(rest:EP P ops (k+m+1) (updO (opsD (segO ops k m) s) d r H) K)(hm:preK ops k m s=true:=by kernel_rfl):EP P ops k s K:=EP.o m hs rest hm
theorem EP.f {k:Nat}(hk:K (opsD (ops.drop k) s))(h:(opsF Zec (ops.drop k) s).isSome=true:=by kernel_rfl):EP P ops k s K:=⟨_,ZJ.f h,hk⟩
theorem Zbo {d:Nat}{x:IX}{m:Nat}{isA:Bool}(h:ZU P (.load d x m isA) s s1)(hl:Zgy (ev s.fr x)=false:=by kernel_rfl):ZU P (.loadH d x m isA) s s1:=by
 simp only [ZU,Zad] at h ⊢
 rw [ZF (by rw [hl];decide)]
 have:rd s.bx s.H m (ev s.fr x)=rd [] s.H m (ev s.fr x):=by
  cases he:ev s.fr x with
  | loc t o=>rw [he] at hl;simp [Zgy] at hl
  | _=>rfl
 rw [← this];exact h
theorem rg (h:AK P ops 0 s s1)(hq:Q .normal (ZcU keep s1)):vc P n (.reg ops keep) Q s:=⟨s1,h,hq⟩
theorem rq (h:AK P ops 0 s s1)(hq:Q .normal (ZcU keep s1))(hs:Zfj s.fr ops=true:=by kernel_rfl):vc P n (.regD ops keep) Q s:=⟨hs,s1,h,hq⟩
theorem rgS (S:St)(h:AK P ops 0 s s1)(hk:ZcU keep s1=S)(hq:Q .normal S):vc P n (.reg ops keep) Q s:=⟨s1,h,hk ▸ hq⟩
theorem rqS (S:St)(h:AK P ops 0 s s1)(hk:ZcU keep s1=S)(hq:Q .normal S)(hs:Zfj s.fr ops=true:=by kernel_rfl):vc P n (.regD ops keep) Q s:=⟨hs,s1,h,hk ▸ hq⟩
theorem rgX (S:St)(h:EP P ops 0 s (λs1=>ZcU keep s1=S))(hq:Q .normal S):vc P n (.reg ops keep) Q s:=let ⟨s1,h1,h2⟩:=h; ⟨s1,h1,h2 ▸ hq⟩
theorem rgR (R:St->Prop)(h:EP P ops 0 s (λs1=>R (ZcU keep s1)))(hq:∀ S,R S->Q .normal S):vc P n (.reg ops keep) Q s:=let ⟨s1,h1,h2⟩:=h; ⟨s1,h1,hq _ h2⟩
theorem rqR (R:St->Prop)(h:EP P ops 0 s (λs1=>R (ZcU keep s1)))(hq:∀ S,R S->Q .normal S)(hs:Zfj s.fr ops=true:=by kernel_rfl):vc P n (.regD ops keep) Q s:=let ⟨s1,h1,h2⟩:=h; ⟨hs,s1,h1,hq _ h2⟩
theorem sq {a b:IC}(h:vc P n a (ZfG (vc P n b Q) Q) s):vc P n (.seq a b) Q s:=h
theorem bk {id:Nat}{a:IC}(h:vc P n a (Zcj id Q) s):vc P n (.block id a) Q s:=h
theorem kq {ks:List Nat}{a:IC}(h:vc P n a Q (ZcU ks s)):vc P n (.kp ks a) Q s:=h
theorem sk (h:Q .normal s):vc P n .skip Q s:=h
theorem rt (h:Q .ret s):vc P n .ret Q s:=h
theorem xq {id:Nat}(h:Q (.exit id) s):vc P n (.exit id) Q s:=h
theorem tq {next:St->Prop}(h:next s):ZfG next Q .normal s:=h
theorem tr {next:St->Prop}(h:Q .ret s):ZfG next Q .ret s:=h
theorem tx {next:St->Prop}{j:Nat}(h:Q (.exit j) s):ZfG next Q (.exit j) s:=h
theorem tg {next:St->Prop}{j:Nat}(h:Q (.goto j) s):ZfG next Q (.goto j) s:=h
theorem bn {id:Nat}(h:Q .normal s):Zcj id Q .normal s:=h
theorem br {id:Nat}(h:Q .ret s):Zcj id Q .ret s:=h
theorem bx {id:Nat}(h:Q .normal s):Zcj id Q (.exit id) s:=by simp only [Zcj,ZH];exact h
theorem bo {id j:Nat}(h:Q (.exit j) s)(hj:(j==id)=false:=by kernel_rfl):Zcj id Q (.exit j) s:=by
 have:¬ j=id:=by simpa using hj
 simp only [Zcj,ZF this];exact h
theorem hp0:HP ([]:List HO) []:=trivial
theorem kr {α:Sort _}{a b:α}(h:a=b:=by kernel_rfl):a=b:=h
theorem nr (h:Q .ret s):ZfV Q .ret s:=h
theorem it {x:IX}{a b:IC}{c:Bool}{α:Type}{A B:Option α}{r:α}(h:(if c=true then A else B)=some r)
  (h1:c=true->A=some r->vc P n a Q (ZdZ x s)) (h2:c=false->B=some r->vc P n b Q (ZdZ x s)) (hx:ev s.fr x=.p (.bool c):=by kernel_rfl):vc P n (.cond x a b) Q s:=Zjm hx h h1 h2
theorem bs {α β:Type}{x:Option α}{f:α->Option β}{r:β}(h:x.bind f=some r):∃ a,x=some a/\f a=some r:=bind_some h
theorem rbd {K:List HO->Prop}{k id:Nat}{L:LC}{fr0:List (Nat×AV)}{e:Exit}{b:Bool}{H0 H1:List HO}{f0 items:List Zap}(st:LS)(hF:Fp H0 H1 f0 items)(hk:items[k]?=some (.lp id L fr0 .busy))(he:ZfZ e=some (b,st))
  (h:∀ H6,Fp H0 H6 f0 (items.set k (.lp id L fr0 st))->K H6) (hs:s.H=H1:=by kernel_rfl):∃ H',Zhk id L fr0 b H' e s/\K H':=Zjf st (hs.symm ▸ hF) hk he h
theorem Fp.pk {H0 H H':List HO}{f0 items L:List Zap}(h:Fp H0 H f0 items)(ks:List Nat)(hn:Zgt ks=true)(hL:(ks.filterMap λk=>items[k]?)=L:=by kernel_rfl)(hH:H=H':=by kernel_rfl):Fp H0 H' f0 L:=by
 subst hL hH;exact h.pick ks hn
theorem Fp.at {H0 H H':List HO}{f0 items L:List Zap}(h:Fp H0 H f0 items)(hL:items=L:=by kernel_rfl)(hH:H=H':=by kernel_rfl):Fp H0 H' f0 L:=by
 subst hL hH;exact h
end
end Go.Eng

namespace Go.Eng
open Go
theorem Zjn {f:IX->AV}{a b:AV}{l:List IX}(h:l.map f=[a,b]):∃ x y,l=[x,y]/\f x=a/\f y=b:=by
 cases l with
 | nil=>cases h
 | cons x l=>cases l with
  | nil=>simp at h
  | cons y l=>cases l with
   | nil=>simp only [Zu,Zv,Zi,ZC] at h;exact ⟨x,y,rfl,h.1,h.2⟩
   | cons z l=>simp at h
section
variable {P:Program} {s:St}
end
section
variable {H0 H H':List HO} {f0 items:List Zap} {α:Type} {k id n sz:Nat} {as:List AV} {frz:Bool}
end
end Go.Eng

namespace Go.Eng
open Go
section
variable {P:Program} {k:K0} {n:Nat} {g:G} {s:St} {a:Act} {w:World}
theorem Rel.pop (h:Rel k n g s a w){id sz ver m:Nat}{rows:List (List PC)}(hH:s.H[id]?=some (.arr sz ver false rows))(hm:m<=rows.length) :
  Rel k n g ⟨s.fr,s.bx,s.H.set id (.arr sz (ver+1) false (rows.take m))⟩ a w/\Zam (cx k g s.H w) (cx k g (s.H.set id (.arr sz (ver+1) false (rows.take m))) w):=by
 have hid:id<s.H.length:=(List.getElem?_eq_some_iff.1 hH).1
 have hget:∀ (j:Nat),(s.H.set id (.arr sz (ver+1) false (rows.take m)))[j]?=if id=j then some (.arr sz (ver+1) false (rows.take m)) else s.H[j]?:=λj=>by
  rw [Zq]
  by_cases e:id=j
  ·subst e;simp [hid]
  simp [e]
 have hl:Zam (cx k g s.H w) (cx k g (s.H.set id (.arr sz (ver+1) false (rows.take m))) w):=
  {stay:=λa x ho hc=>by
    refine ⟨hc,ho.1,ho.2.1,λj hj=>?_⟩
    obtain ⟨sz1,ver1,rows1,h1,h2⟩:=ho.2.2 j hj
    by_cases he:id=j
    ·subst he
     rw [hH] at h1
     cases h1
    exact ⟨sz1,ver1,rows1,by rw [hget,ZF he];exact h1,h2⟩
   arr:=λj sz1 ver1 frz1 rows1 e=>by
    by_cases he:id=j
    ·subst he
     have e':s.H[id]?=some (.arr sz1 ver1 frz1 rows1):=e
     rw [hH] at e'
     cases e'
     exact ⟨ver+1,false,rows.take m,by show (s.H.set _ _)[_]?=_;rw [hget,ZG rfl],Nat.le_succ _,λe=>absurd e (by omega)⟩
    exact ⟨ver1,frz1,rows1,by show (s.H.set _ _)[_]?=_;rw [hget,ZF he];exact e,Nat.le_refl _,λ_=>⟨Nat.le_refl _,rfl,λb vs _ hb=>⟨vs,hb,rfl⟩⟩⟩
   cells:=λj cs e=>by
    refine ⟨⟨cs,?_⟩,rfl⟩
    show (s.H.set _ _)[_]?=_
    rw [hget,ZF (λhe=>by subst he;have e':s.H[id]?=some (.cells cs):=e;rw [hH] at e';cases e')]
    exact e
   lp:=λj L fr st e=>by
    refine ⟨⟨st,?_⟩,rfl⟩
    show (s.H.set _ _)[_]?=_
    rw [hget,ZF (λhe=>by subst he;have e':s.H[id]?=some (.lp L fr st):=e;rw [hH] at e';cases e')]
    exact e }
 refine ⟨?_,hl⟩
 exact
  {h with
   slots:=λt=>Zar hl (λ_ _ e=>e) (h.tops t) (h.slots t)
   boxes:=λt cs e=>let ⟨b,hb,hr⟩:=h.boxes t cs e; ⟨b,hb,hr.later hl λ_ hb=>hb⟩
   heap:=λj x e=>by
    simp only [hget] at e
    by_cases he:id=j
    ·subst he
     simp only [ZH,ZA] at e
     subst e
     obtain ⟨b,hb,hr⟩:=h.heap id _ hH
     obtain ⟨vs,h1,h2,h3⟩:=ArrR.later hl (λ_ hb=>hb) hr
     refine ⟨b,hb,vs,h1,Nat.le_trans (Nat.mul_le_mul_right _ (by rw [List.length_take];omega)) h2,λi r hi=>h3 i r ?_⟩
     rw [Zs] at hi
     split at hi
     ·exact hi
     cases hi
    simp only [he,ZE] at e
    obtain ⟨b,hb,hr⟩:=h.heap j x e
    exact ⟨b,hb,hr.later hl λ_ hb=>hb⟩
   len:=by simp [h.len]
   hist:=h.hist.trans hl }
theorem Zjq {s:St}{d:Nat}{x y:IX}{sz id ver:Nat}{m:Int}{av:AV}{rows:List (List PC)}{H H':List HO}(hs:s.H=H)(hx0:ev s.fr x=av)(hy:ev s.fr y=.p (.int .i64 m))(ha:av=.osl sz id ver 0 rows.length)
  (hH0:H[id]?=some (.arr sz ver false rows)) (hm:0<=m/\m<=rows.length) (hH:H'=H.set id (.arr sz (ver+1) false (rows.take m.toNat))) :
  ZU P (.sp (some d) (.pop sz) [x,y]) s ⟨put s.fr d (.osl sz id (ver+1) 0 m.toNat),s.bx,H'⟩:=by
 have hx:ev s.fr x=.osl sz id ver 0 rows.length:=by rw [hx0,ha]
 subst hs hH
 refine ZiN rfl ?_ rfl
 intro k n g t a w o d ys he hH h hc
 rw [← hH] at hH0 ⊢
 obtain ⟨x',y',rfl,hx',hy'⟩:=Zjn (f:=ev t.fr) (a:=.osl sz id ver 0 rows.length) (b:=.p (.int .i64 m)) (by rw [he];simp only [Zu,Zv];rw [hx,hy])
 simp only [ZgF,Ze,ZD] at hc
 obtain ⟨⟨hd,hdn⟩,hc⟩:=hc
 split at hc
 ·rename_i d' x1 y1 e1
  simp only [Zi,ZC] at e1
  obtain ⟨rfl,rfl⟩:=e1
  have hv:Zag (.slice sz false true false) ([x',y'].map (ev t.fr))=some (.osl sz id ver 0 m.toNat):=by
   simp only [Zu,Zv,hx',hy',Zag,Zde,ZbS,Zf,ZE,ZH,Zy,hm.1]
   rw [ZG (by refine ⟨rfl,trivial,by omega,by omega,.inl trivial,trivial⟩)]
   simp
  obtain ⟨u,hu,hvr,_⟩:=Zi4 h hc hv
  obtain ⟨r1,_⟩:=h.pop hH0 (m:=m.toNat) (by omega)
  refine ⟨u,w,g,.inl hu,?_⟩
  rw [hd]
  refine r1.putO hdn ?_ rfl
  rw [VR] at hvr ⊢
  obtain ⟨ver0,frz0,rows0,b,cap,h1,_,e1,hcap,hcur⟩:=hvr
  have e0:t.H[id]?=some (HO.arr sz ver0 frz0 rows0):=h1
  rw [hH0] at e0
  simp only [ZA,HO.arr.injEq] at e0
  obtain ⟨_,e2,_,e3⟩:=e0
  obtain ⟨vs,hρ,_,hblk,hcb⟩:=hcur e2
  refine ⟨ver+1,false,rows.take m.toNat,b,cap,?_,Nat.le_refl _,e1,hcap,λ_=>⟨vs,hρ,by rw [List.length_take];omega,hblk,hcb⟩⟩
  show (t.H.set id _)[id]?=_
  simp [(List.getElem?_eq_some_iff.1 hH0).1]
 cases hc
theorem Zja {s:St}{d:Nat}{x y:IX}{sz id ver:Nat}{m:Int}{av a2:AV}{rows:List (List PC)}{H H':List HO}(hs:s.H=H)(hx0:ev s.fr x=av)(hy:ev s.fr y=.p (.int .i64 m))(ha:av=.osl sz id ver 0 rows.length)
  (hH0:H[id]?=some (.arr sz ver false rows)) (hm:0<=m/\m<=rows.length) (hH:H'=H.set id (.arr sz (ver+1) false (rows.take m.toNat))) (h2:a2=.osl sz id (ver+1) 0 m.toNat) :
  ZU P (.sp (some d) (.pop sz) [x,y]) s ⟨put s.fr d a2,s.bx,H'⟩:=by
 rw [h2];exact Zjq hs hx0 hy ha hH0 hm hH
end
theorem pur {fs:List Nat}{Q:Exit->St->Prop}{s:St}(h:Q .ret s):puQ fs Q .ret s:=h
def popI {α:Type}(l:List α)(m:Int):Option (List α):=if 0<=m/\m<=(l.length:Int)/\0<l.length then some (l.take m.toNat) else none
section
variable {H0 H:List HO} {f0 items:List Zap} {α:Type} {k sz:Nat} {a:AV}
theorem Fp.pop {l r:List α}{m:Int}(enc:α->List PC)(hF:Fp H0 H f0 items)(hk:items[k]?=some (.arr a sz false (l.map enc)))(h:popI l m=some r) :
  ∃ id ver a2 H',a=.osl sz id ver 0 (l.map enc).length/\H[id]?=some (.arr sz ver false (l.map enc))/\(0<=m/\m<=((l.map enc).length:Int))/\H'=H.set id (.arr sz (ver+1) false ((l.map enc).take m.toNat))/\a2=.osl sz id (ver+1) 0 m.toNat ∧
   Fp H0 H' f0 (items.set k (.arr a2 sz false (r.map enc))):=by
 unfold popI at h
 split at h
 ·rename_i hb
  obtain ⟨h0,h1,h2⟩:=hb
  cases h
  rcases hF.get k hk with ⟨_,hl⟩|⟨id,ver,rfl,f,hf,hid⟩
  ·rw [List.map_eq_nil_iff] at hl
   subst hl
   simp at h2
  have hff:=hf rfl
  subst hff
  have hlt:=(List.getElem?_eq_some_iff.1 hid).1
  refine ⟨id,ver,_,_,rfl,hid,⟨h0,by rw [Zt];exact h1⟩,rfl,rfl,?_⟩
  refine hF.step hk (.inr ⟨id,ver+1,by rw [Zt,List.length_take];congr 1;omega,false,λ_=>rfl,by simp [hlt,List.map_take]⟩) (λid' ⟨_,_,_,_,e⟩=>by cases e;exact .inl ⟨sz,ver,0,_,rfl⟩) (λid' _ ho=>?_) (by simp)
  rw [Zr]
  intro e;subst e;exact ho ⟨sz,ver,0,_,rfl⟩
 cases h
theorem HP.pop {l r:List α}{m:Int}(enc:α->List PC)(hF:HP H items)(hk:items[k]?=some (.arr a sz false (l.map enc)))(h:popI l m=some r) :
  ∃ id ver a2 H',a=.osl sz id ver 0 (l.map enc).length/\H[id]?=some (.arr sz ver false (l.map enc))/\(0<=m/\m<=((l.map enc).length:Int))/\H'=H.set id (.arr sz (ver+1) false ((l.map enc).take m.toNat))/\a2=.osl sz id (ver+1) 0 m.toNat ∧
   HP H' (items.set k (.arr a2 sz false (r.map enc))):=by
 obtain ⟨id,ver,a2,H',b1,b2,b3,b4,b5,b6⟩:=(Fp.refl hF).pop enc hk h
 exact ⟨id,ver,a2,H',b1,b2,b3,b4,b5,b6.now⟩
end
end Go.Eng

