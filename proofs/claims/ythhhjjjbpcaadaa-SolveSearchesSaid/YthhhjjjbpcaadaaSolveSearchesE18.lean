/- Part of the proof. -/
import Derived.Test.YthhhjjjbpcaadaaSolveSearchesE13
import Derived.KernelRfl
import Derived.DataReads
import Derived.Carry
import Derived.OpenShut
import Derived.Laws.StructEq
import Derived.Laws.IdiomRangeMap
import Derived.RecoverIn
set_option linter.all false
namespace Go.Eng
open Go
def idx {α:Type}(l:List α)(i:Int):Option α:=if 0<=i then l[i.toNat]? else none
def quoI (k:IntKind)(a b:Int):Option Int:=if b=0 then none else some (k.wrap (a.tdiv b))
def remI (a b:Int):Option Int:=if b=0 then none else some (a.tmod b)
def subI {α:Type}(l:List α)(lo hi:Int):Option (List α):=if 0<=lo/\lo<=hi/\hi<=l.length then some ((l.take hi.toNat).drop lo.toNat) else none
def appI {α:Type}(bytes:Nat)(l m:List α):Option (List α):=if (l.length+m.length)*bytes<=140737488355328/\l.length+m.length<=140737488355328 then some (l++m) else none
def Zj5 {α:Type}(bytes:Nat)(n c:Int)(z:α):Option (List α):=if 0<=n/\n<=c/\c*bytes<=140737488355328/\c<=140737488355328 then some (List.replicate n.toNat z) else none
def w64 (x:Int):Int:=IntKind.i64.wrap x
def eI (k:IntKind)(x:Int):List PC:=[.int k x]
def eI64 (x:Int):List PC:=[.int .i64 x]
def Zbf {σ ρ:Type}(body:σ->Option (σ⊕ρ)):Nat->σ->Option ρ
 | 0,_=>none
 | m+1,x=>match body x with
  | none=>none
  | some (.inl y)=>Zbf body m y
  | some (.inr r)=>some r
theorem bind_some {α β:Type}{o:Option α}{f:α->Option β}{r:β}(h:o.bind f=some r):∃ v,o=some v/\f v=some r:=by
 cases o with
 | none=>simp at h
 | some v=>exact ⟨v,rfl,h⟩
theorem Zae {α:Type}{a b:α}(h:some a=some b):a=b:=Option.some.inj h
theorem Zf7 {α:Type}{l:List α}{i:Int}{e:α}(enc:α->List PC)(h:idx l i=some e):(0<=i/\i<(l.map enc).length)/\(l.map enc)[i.toNat]?=some (enc e):=by
 unfold idx at h
 split at h
 ·rename_i h0
  have h1:=(List.getElem?_eq_some_iff.1 h).1
  refine ⟨⟨h0,?_⟩,by rw [Zx,h];rfl⟩
  simp only [ZE]
  omega
 cases h
theorem Zac {α:Type}{l:List α}{sz:Nat}{f:Bool}{k:IntKind}{i:Int}{e:α}(enc:α->List PC)(h:idx l i=some e) :
  ZaA (.iaddrS sz) [.p (.sl sz f (l.map enc)),.p (.int k i)]=some (.ppt sz (l.map enc) i.toNat 0):=by
 have h1:=(Zf7 enc h).1
 simp only [ZaA,true_and]
 rw [Z0 ⟨h1.1,h1.2⟩]
theorem Zml {k:IntKind}{a b r:Int}(h:quoI k a b=some r):ZaA (.bin .quo) [.p (.int k a),.p (.int k b)]=some (.p (.int k r)):=by
 unfold quoI at h
 simp only [ZaA,binI,Z1]
 split at h
 ·cases h
 rename_i hb
 cases h
 rw [ZZ hb];rfl
theorem Zbl {k:IntKind}{a b r:Int}(h:remI a b=some r):ZaA (.bin .rem) [.p (.int k a),.p (.int k b)]=some (.p (.int k r)):=by
 unfold remI at h
 simp only [ZaA,binI,Z1]
 split at h
 ·cases h
 rename_i hb
 cases h
 rw [ZZ hb];rfl
theorem Zal {α:Type}{l:List α}{sz:Nat}{f:Bool}(enc:α->List PC):ZaA .len [.p (.sl sz f (l.map enc))]=some (.p (.int .i64 l.length)):=by
 simp [ZaA]
theorem Zn5 {α:Type}{l r:List α}{lo hi:Int}(enc:α->List PC)(h:subI l lo hi=some r):0<=lo/\lo<=hi/\hi<=l.length/\r=(l.take hi.toNat).drop lo.toNat/\r.map enc=((l.map enc).take hi.toNat).drop lo.toNat:=by
 unfold subI at h
 split at h
 ·rename_i h1
  cases h
  exact ⟨h1.1,h1.2.1,h1.2.2,rfl,by simp [List.map_drop,List.map_take]⟩
 cases h
theorem Zfu {α:Type}{l r:List α}{sz:Nat}{f:Bool}{hi:Int}{k':IntKind}(enc:α->List PC)(h:subI l 0 hi=some r) :
  ZaA (.slice sz false true false) [.p (.sl sz f (l.map enc)),.p (.int k' hi)]=some (.p (.sl sz false (r.map enc))):=by
 obtain ⟨h1,h2,h3,_,h5⟩:=Zn5 enc h
 simp only [ZaA,Ze1,Zc5,Z1,ZR,h2,Zf,ZY,List.isEmpty_nil,ZE]
 rw [Z0 ⟨trivial,by omega,by omega,trivial,trivial,by simp⟩,h5]
 rfl
abbrev iv (x:Int):AV:=.p (.int .i64 x)
abbrev bv (b:Bool):AV:=.p (.bool b)
inductive ZaS where
 | arr (a:AV) (sz:Nat) (frz:Bool) (rows:List (List PC))
 | cel (id:Nat) (cs:List AV)
 | lp (id:Nat) (L:LC) (fr:List (Nat×AV)) (st:LS)
 | fam (id n:Nat) (as:List AV) (sz:Nat) (frz:Bool) (rows:List (List (List PC)))
 | deep (a:AV) (sz:Nat) (u:Bool) (cs:List PC) (rows:List (Int×List (List PC)))
def ZbK (cs:List PC)(rows:List (Int×List (List PC))):List (List PC):=List.zipWith (λc r=>[.int .i64 r.1,c]) cs rows
def Lies (H:List HO):ZaS->Prop
 | .arr a sz frz rows=>(a=.p (.sl sz true [])/\rows=[])∨∃ id ver,a=.osl sz id ver 0 rows.length/\∃ f,(frz=false->f=false)/\H[id]?=some (.arr sz ver f rows)
 | .cel id cs=>H[id]?=some (.cells cs)
 | .lp id L fr st=>H[id]?=some (.lp L fr st)
 | .fam id n as sz frz rows=>H[id]?=some (.cells as)/\as.length=n/\rows.length=n ∧
  (∀ (i:Nat) a r,as[i]?=some a->rows[i]?=some r->(a=.p (.sl sz true [])/\r=[])∨∃ id ver,a=.osl sz id ver 0 r.length/\∃ f,(frz=false->f=false)/\H[id]?=some (.arr sz ver f r)) ∧
  ∀ (i j q s1 v1 o1 l1 s2 v2 o2 l2:Nat),as[i]?=some (.osl s1 q v1 o1 l1)->as[j]?=some (.osl s2 q v2 o2 l2)->i=j
 | .deep a sz u cs rows=>cs.length=rows.length ∧
  ((a=.p (.sl 2 true [])/\rows=[])∨∃ id ver,a=.osl 2 id ver 0 rows.length/\H[id]?=some (.arr 2 ver false (ZbK cs rows))/\∀ s1 v1 l1,.ow s1 id v1 l1 ∉ cs) ∧
  (∀ (i:Nat) c r,cs[i]?=some c->rows[i]?=some r->(c=.sl sz true []/\r.2=[])∨∃ q ver,c=.ow sz q ver r.2.length/\H[q]?=some (.arr sz ver false r.2)) ∧
  (u=true->∀ (i j q s1 v1 l1 s2 v2 l2:Nat),cs[i]?=some (.ow s1 q v1 l1)->cs[j]?=some (.ow s2 q v2 l2)->i=j)
def Occ:ZaS->Nat->Prop
 | .arr a _ _ _,id=>∃ sz ver off len,a=.osl sz id ver off len
 | .cel id' _,id=>id'=id
 | .lp id' _ _ _,id=>id'=id
 | .fam id' _ as _ _ _,id=>id'=id∨∃ sz ver off len,.osl sz id ver off len∈as
 | .deep a _ _ cs _,id=>(∃ sz ver off len,a=.osl sz id ver off len)∨∃ sz ver len,.ow sz id ver len∈cs
def HP (H:List HO):List ZaS->Prop
 | []=>True
 | i::is=>Lies H i/\(∀ id,Occ i id->∀ j∈is,¬ Occ j id)/\HP H is
section
variable {P:Program} {n:Nat} {s s1 s2:St}
def Zgs:Zkr:=λ_ _ _=>none
theorem Zl4:Zg2 P Zgs:=λ_ _ _ _ _ h=>by cases h
def opsD (ops:List IOp)(s:St):St:=(opsF Zgs ops s).getD s
theorem Z4.append {a b:List IOp}:∀ {s:St},Z4 P a s s1->Z4 P b s1 s2->Z4 P (a++b) s s2:=by
 induction a with
 | nil=>intro s h1 h2;simp only [Z4] at h1;subst h1;exact h2
 | cons o os ih =>
  intro s h1 h2
  obtain ⟨s',h3,h4⟩:=h1
  exact ⟨s',h3,ih h4 h2⟩
theorem ZjY {ops:List IOp}(h:(opsF Zgs ops s).isSome=true):Z4 P ops s (opsD ops s):=by
 cases hs:opsF Zgs ops s with
 | none=>rw [hs] at h;cases h
 | some s'=>unfold opsD;rw [hs];exact Zim Zl4 hs
theorem Z4.chunk {ops:List IOp}(m:Nat)(h:(opsF Zgs (ops.take m) s).isSome=true)(rest:Z4 P (ops.drop m) (opsD (ops.take m) s) s2):Z4 P ops s s2:=by
 have:=(ZjY (P:=P) h).append rest
 rwa [List.take_append_drop] at this
theorem Zad {d:Nat}{v:VI}{xs:List IX}{ys:List AV}{r:AV}(hx:xs.map (ev s.fr)=ys:=by kernel_rfl)(h:ZaA v ys=some r):Zaf P (.val d v xs) s ⟨put s.fr d r,s.bx,s.H⟩:=by
 simp only [Zaf,Zar,hx,h,ZT]
theorem Zaa {d:Nat}{v:VI}{xs:List IX}{c b:Bool}(hx:ZaA v (xs.map (ev s.fr))=some (.p (.bool c)):=by kernel_rfl)(h:c=b):Zaf P (.val d v xs) s ⟨put s.fr d (.p (.bool b)),s.bx,s.H⟩:=by
 subst h
 simp only [Zaf,Zar,hx,ZT]
theorem Zas {α:Type}{l:List α}{i:Int}{e:α}{d:Nat}{x:IX}{m sz off:Nat}{isA:Bool}{cs:List PC}{r:AV}(enc:α->List PC)(h:idx l i=some e)
  (hx:ev s.fr x=.ppt sz (l.map enc) i.toNat off:=by kernel_rfl) (hs:sub off m (enc e)=some cs:=by kernel_rfl) (hm:mk isA (cs.map .p)=some r:=by kernel_rfl):Zaf P (.load d x m isA) s ⟨put s.fr d r,s.bx,s.H⟩:=by
 have h2:=(Zf7 enc h).2
 have hok:∀ cs:List PC,Zai (cs.map .p)=true:=λcs=>by
  induction cs with
  | nil=>rfl
  | cons c cs ih=>simp [Zai,Zcx,ih]
 simp only [Zaf,Zar,hx,rd,h2,ZR,hs,ZT,hok,Z1,hm]
theorem Zav {d:Option Nat}{f:Nat}{xs:List IX}{args:List AV}{r:AV}(hx:frzL s.H (xs.map (ev s.fr))=some (args,s.H):=by kernel_rfl)(hc:Zbk P f args r):Zaf P (.call d f xs) s ⟨putO s.fr d r,s.bx,s.H⟩ :=
 ⟨args,s.H,r,s.H,.frz hx,hc.frame _,rfl⟩
theorem Zfy {d:Nat}{f:Nat}{xs:List IX}{args:List AV}{r:AV}(hx:weakVs (xs.map (ev s.fr))=args:=by kernel_rfl)(hc:Zbk P f args r):Zaf P (.callP d f xs) s ⟨put s.fr d r,s.bx,s.H⟩ :=
 ⟨r,hx ▸ hc,rfl⟩
theorem Zbc {a:IC}{Q:Exit->St->Prop}(h:EvX P n (.loop a) s Q):vc P n (.loop a) Q s:=h
theorem ZdN {x:IX}{a b:IC}{Q:Exit->St->Prop}(hx:ev s.fr x=.p (.bool true))(h:vc P n a Q (ZfO x s)):vc P n (.cond x a b) Q s:=by
 simp only [vc,hx,Z1];exact h
theorem ZgQ {x:IX}{a b:IC}{Q:Exit->St->Prop}(hx:ev s.fr x=.p (.bool false))(h:vc P n b Q (ZfO x s)):vc P n (.cond x a b) Q s:=by
 simp only [vc,hx,Zf,ZY];exact h
theorem Zow {x:IX}{a b:IC}{Q:Exit->St->Prop}{c:Bool}{α:Type}{A B:Option α}{r:α}(hx:ev s.fr x=.p (.bool c))(h:(if c=true then A else B)=some r)
  (h1:c=true->A=some r->vc P n a Q (ZfO x s)) (h2:c=false->B=some r->vc P n b Q (ZfO x s)):vc P n (.cond x a b) Q s:=by
 simp only [vc,hx]
 cases c with
 | true=>simp only [Z1] at h ⊢;exact h1 rfl h
 | false=>simp only [Zf,ZY] at h ⊢;exact h2 rfl h
theorem Zat {α:Type}{c:Bool}{A B:Option α}{r:α}(h:(if c=true then A else B)=some r):(c=true/\A=some r)∨(c=false/\B=some r):=by
 cases c with
 | true=>exact .inl ⟨rfl,by simpa using h⟩
 | false=>exact .inr ⟨rfl,by simpa using h⟩
theorem Zby:∀ (ic:IC) {Q Q':Exit->St->Prop} {s:St},(∀ e s,Q e s->Q' e s)->vc P n ic Q s->vc P n ic Q' s
 | .skip,Q,Q',s,hq,h=>hq _ _ h
 | .reg ops keep,Q,Q',s,hq,h=>let ⟨s',h1,h2⟩:=h; ⟨s',h1,hq _ _ h2⟩
 | .regD ops keep,Q,Q',s,hq,h=>let ⟨h0,s',h1,h2⟩:=h; ⟨h0,s',h1,hq _ _ h2⟩
 | .die _,Q,Q',s,hq,h=>hq _ _ h
 | .regF fs ops keep,Q,Q',s,hq,h=>let ⟨s0,h0,h00,s',h1,h2⟩:=h; ⟨s0,h0,h00,s',h1,hq _ _ h2⟩
 | .seq a b,Q,Q',s,hq,h=>Zby a (λe s h=>by
   cases e with
   | normal=>exact Zby b hq h
   | _=>exact hq _ _ h) h
 | .cond x a b,Q,Q',s,hq,h=>by
  simp only [vc] at h ⊢
  split
  ·rename_i t hx
   rw [hx] at h
   simp only at h
   split
   ·rename_i ht;rw [Z0 ht] at h;exact Zby a hq h
   rename_i ht;rw [ZZ ht] at h;exact Zby b hq h
  rename_i hx
  split at h
  ·rename_i t hx';exact absurd hx' (hx t)
  exact h
 | .block id a,Q,Q',s,hq,h=>Zby a (λe s h=>by
   cases e with
   | exit j =>
    simp only [Zdy] at h ⊢
    split
    ·rename_i e;rw [Z0 e] at h;exact hq _ _ h
    rename_i e;rw [ZZ e] at h;exact hq _ _ h
   | _=>exact hq _ _ h) h
 | .loop a,Q,Q',s,hq,h=>EvX.mono h hq
 | .exit id,Q,Q',s,hq,h=>hq _ _ h
 | .rangeF x ps a b,Q,Q',s,hq,h=>EvX.mono h hq
 | .box a,Q,Q',s,hq,h=>EvX.mono h hq
 | .scope a,Q,Q',s,hq,h=>EvX.mono h hq
 | .label l,Q,Q',s,hq,h=>hq _ _ h
 | .goto l,Q,Q',s,hq,h=>hq _ _ h
 | .ret,Q,Q',s,hq,h=>hq _ _ h
 | .kp ks a,Q,Q',s,hq,h=>Zby a hq h
 | .pu fs a,Q,Q',s,hq,h=>Zby a (λe s h=>by
   cases e with
   | normal=>obtain ⟨s2,h3,h4⟩:=h;exact ⟨s2,h3,hq _ _ h4⟩
   | _=>exact hq _ _ h) h
@[reducible] def Zoj (R:St->Prop):Exit->St->Prop:=λe s'=>e=.normal/\R s'
theorem Znq {a b:IC}{Q:Exit->St->Prop}(R:St->Prop)(h1:vc P n a (Zoj R) s)(h2:∀ s',R s'->vc P n b Q s'):vc P n (.seq a b) Q s:=by
 refine Zby a (λe s' h=>?_) h1
 obtain ⟨rfl,h⟩:=h
 exact h2 s' h
theorem Zaz {res:List RV}{r:AV}(h:(resL s res).map Zbr=some r):∃ xs,resL s res=some xs/\Zbr xs=r:=by
 cases hs:resL s res with
 | none=>rw [hs] at h;cases h
 | some xs=>rw [hs] at h;exact ⟨xs,rfl,by simpa using h⟩
@[reducible] def isQ (e:Exit)(s:St):Exit->St->Prop:=λe1 s1=>e1=e/\s1=s
theorem vcd:∀ (ic:IC) {Q:Exit->St->Prop} {s:St},vc P n ic Q s->∃ e s',vc P n ic (isQ e s') s/\Q e s'
 | .skip,Q,s,h=>⟨.normal,s,⟨rfl,rfl⟩,h⟩
 | .reg ops keep,Q,s,h=>let ⟨s',h1,h2⟩:=h; ⟨.normal,_,⟨s',h1,rfl,rfl⟩,h2⟩
 | .regD ops keep,Q,s,h=>let ⟨h0,s',h1,h2⟩:=h; ⟨.normal,_,⟨h0,s',h1,rfl,rfl⟩,h2⟩
 | .die t,Q,s,h=>⟨_,_,⟨rfl,rfl⟩,h⟩
 | .regF fs ops keep,Q,s,h=>let ⟨s0,h0,h00,s',h1,h2⟩:=h; ⟨.normal,_,⟨s0,h0,h00,s',h1,rfl,rfl⟩,h2⟩
 | .seq a b,Q,s,h=>by
  obtain ⟨e1,s1,h1,h2⟩:=vcd a h
  cases e1 with
  | normal =>
   obtain ⟨e,s',h3,h4⟩:=vcd b h2
   exact ⟨e,s',Zby a (λe1 s2 ⟨x,y⟩=>by subst x y;exact h3) h1,h4⟩
  | _=>exact ⟨_,s1,Zby a (λe1 s2 ⟨x,y⟩=>by subst x y;exact ⟨rfl,rfl⟩) h1,h2⟩
 | .cond x a b,Q,s,h=>by
  simp only [vc] at h
  split at h
  ·rename_i t hx
   cases t with
   | true =>
    simp only [Z1] at h
    obtain ⟨e,s',h1,h2⟩:=vcd a h
    exact ⟨e,s',by simp only [vc,hx];exact h1,h2⟩
   | false =>
    simp only [Zf,ZY] at h
    obtain ⟨e,s',h1,h2⟩:=vcd b h
    exact ⟨e,s',by simp only [vc,hx];exact h1,h2⟩
  exact h.elim
 | .block id a,Q,s,h=>by
  obtain ⟨e1,s1,h1,h2⟩:=vcd a (Q:=Zdy id Q) h
  cases e1 with
  | exit j =>
   simp only [Zdy] at h2
   by_cases e:j=id
   ·rw [Z0 e] at h2
    exact ⟨.normal,s1,Zby a (λe1 s2 ⟨x,y⟩=>by subst x y;simp only [Zdy,e,Z1];exact ⟨rfl,rfl⟩) h1,h2⟩
   rw [ZZ e] at h2
   exact ⟨.exit j,s1,Zby a (λe1 s2 ⟨x,y⟩=>by subst x y;simp only [Zdy,e,ZY];exact ⟨rfl,rfl⟩) h1,h2⟩
  | _=>exact ⟨_,s1,Zby a (λe1 s2 ⟨x,y⟩=>by subst x y;exact ⟨rfl,rfl⟩) h1,h2⟩
 | .loop a,Q,s,h=>let ⟨e,s',h1,h2⟩:=h; ⟨e,s',⟨e,s',h1,rfl,rfl⟩,h2⟩
 | .scope a,Q,s,h=>let ⟨e,s',h1,h2⟩:=h; ⟨e,s',⟨e,s',h1,rfl,rfl⟩,h2⟩
 | .rangeF x ps a b,Q,s,h=>let ⟨e,s',h1,h2⟩:=h; ⟨e,s',⟨e,s',h1,rfl,rfl⟩,h2⟩
 | .box a,Q,s,h=>let ⟨e,s',h1,h2⟩:=h; ⟨e,s',⟨e,s',h1,rfl,rfl⟩,h2⟩
 | .exit id,Q,s,h=>⟨_,s,⟨rfl,rfl⟩,h⟩
 | .label l,Q,s,h=>⟨_,s,⟨rfl,rfl⟩,h⟩
 | .goto l,Q,s,h=>⟨_,s,⟨rfl,rfl⟩,h⟩
 | .ret,Q,s,h=>⟨_,s,⟨rfl,rfl⟩,h⟩
 | .kp ks a,Q,s,h=>by
  obtain ⟨e,s',h1,h2⟩:=vcd a (Q:=Q) (s:=ZcP ks s) h
  exact ⟨e,s',h1,h2⟩
 | .pu fs a,Q,s,h=>by
  obtain ⟨e,s',h1,h2⟩:=vcd a (Q:=puQ fs Q) (s:=s) h
  cases e with
  | normal =>
   obtain ⟨s2,h3,h4⟩:=h2
   exact ⟨.normal,s2,Zby a (λe1 s1 ⟨x,y⟩=>by subst x y;exact ⟨s2,h3,rfl,rfl⟩) h1,h4⟩
  | _=>exact ⟨_,s',Zby a (λe1 s1 ⟨x,y⟩=>by subst x y;exact ⟨rfl,rfl⟩) h1,h2⟩
def RunD (P:Program)(n:Nat)(b:IC)(back e:Exit)(sF:St):Nat->St->Prop
 | 0,_=>False
 | m+1,s=>∃ e1 s1,vc P n b (isQ e1 s1) s/\((e1=back/\RunD P n b back e sF m s1)∨(e1≠back/\e1=e/\s1=sF))
theorem RunD.loop {b:IC}{e:Exit}{sF:St}{m:Nat}{s:St}(h:RunD P n b .normal e sF m s):EvI P n (.loop b) s (isQ e sF):=by
 refine EvI.loopR (R:=λ(m:Nat) s=>RunD P n b .normal e sF m s) (λm=>m) (λm s h=>?_) m s h
 cases m with
 | zero=>exact h.elim
 | succ m =>
  obtain ⟨e1,s1,h1,h2⟩:=h
  refine (Zao b _ s h1).mono λe' s' ⟨x,y⟩=>?_
  subst x y
  rcases h2 with ⟨rfl,h2⟩|⟨hne,rfl,rfl⟩
  ·exact ⟨m,h2,by omega⟩
  cases e' with
  | normal=>exact absurd rfl hne
  | _=>exact ⟨rfl,rfl⟩
theorem ZaT {σ ρ:Type}{b:IC}(R:σ->St->Prop)(body:σ->Option (σ⊕ρ))(Qr:ρ->Exit->St->Prop)
  (hb:∀ x o s,body x=some o->R x s->vc P n b (Zfw (λs'=>∃ y,o=.inl y/\R y s') (λe s'=>∃ r,o=.inr r/\Qr r e s')) s) :
  ∀ (N:Nat) (x:σ) (r:ρ) (s:St),Zbf body N x=some r->R x s->EvX P n (.loop b) s (Qr r):=by
 intro N x r s h hR
 have key:∃ m e sF,RunD P n b .normal e sF m s/\Qr r e sF:=by
  induction N generalizing x s with
  | zero=>simp [Zbf] at h
  | succ N ih =>
   rw [Zbf] at h
   cases ho:body x with
   | none=>simp [ho] at h
   | some o =>
    rw [ho] at h
    obtain ⟨e1,s1,h1,h2⟩:=vcd b (hb x o s ho hR)
    cases e1 with
    | normal =>
     obtain ⟨y,rfl,hy⟩:=h2
     obtain ⟨m,e,sF,h3,h4⟩:=ih y s1 h hy
     exact ⟨m+1,e,sF,⟨.normal,s1,h1,.inl ⟨rfl,h3⟩⟩,h4⟩
    | _ =>
     obtain ⟨r',rfl,hr⟩:=h2
     simp only [ZU] at h
     subst h
     exact ⟨1,_,s1,⟨_,s1,h1,.inr ⟨by simp,rfl,rfl⟩⟩,hr⟩
 obtain ⟨m,e,sF,h1,h2⟩:=key
 exact ⟨e,sF,h1.loop,h2⟩
end
end Go.Eng

namespace Go.Eng
open Go
section
variable {H H':List HO} {items:List ZaS}
theorem Lies.same {i:ZaS}(h:Lies H i)(hs:∀ id,Occ i id->H'[id]?=H[id]?):Lies H' i:=by
 cases i with
 | arr a sz frz rows =>
  rcases h with h|⟨id,ver,rfl,f,hf,h⟩
  ·exact .inl h
  exact .inr ⟨id,ver,rfl,f,hf,by rw [hs id ⟨sz,ver,0,rows.length,rfl⟩];exact h⟩
 | cel id cs=>exact (hs id rfl).trans h
 | lp id L fr st=>exact (hs id rfl).trans h
 | fam id n as sz frz rows =>
  obtain ⟨h1,h2,h3,h4,h5⟩:=h
  refine ⟨(hs id (.inl rfl)).trans h1,h2,h3,λi a r ha hr=>?_,h5⟩
  rcases h4 i a r ha hr with h|⟨q,ver,rfl,f,hf,h⟩
  ·exact .inl h
  exact .inr ⟨q,ver,rfl,f,hf,(hs q (.inr ⟨sz,ver,0,r.length,List.mem_of_getElem? ha⟩)).trans h⟩
 | deep a sz u cs rows =>
  obtain ⟨h1,h2,h3,h4⟩:=h
  refine ⟨h1,h2.imp id λ⟨q,ver,e,h,h'⟩=>⟨q,ver,e,(hs q (.inl ⟨2,ver,0,_,e⟩)).trans h,h'⟩,λi c r hc hr=>?_,h4⟩
  rcases h3 i c r hc hr with h|⟨q,ver,rfl,h⟩
  ·exact .inl h
  exact .inr ⟨q,ver,rfl,(hs q (.inr ⟨sz,ver,_,List.mem_of_getElem? hc⟩)).trans h⟩
theorem Lies.lt {i:ZaS}(h:Lies H i):∀ id,Occ i id->id<H.length:=by
 intro id ho
 cases i with
 | arr a sz frz rows =>
  obtain ⟨sz',ver,off,len,rfl⟩:=ho
  rcases h with ⟨h,_⟩|⟨id',ver',e,f,_,h⟩
  ·cases h
  cases e;exact (List.getElem?_eq_some_iff.1 h).1
 | cel id' cs=>cases ho;exact (List.getElem?_eq_some_iff.1 h).1
 | lp id' L fr st=>cases ho;exact (List.getElem?_eq_some_iff.1 h).1
 | fam id' n as sz frz rows =>
  obtain ⟨h1,h2,h3,h4,h5⟩:=h
  rcases ho with rfl|⟨s1,v1,o1,l1,hm⟩
  ·exact (List.getElem?_eq_some_iff.1 h1).1
  obtain ⟨i,hi⟩:=List.getElem?_of_mem hm
  have hlt:=(List.getElem?_eq_some_iff.1 hi).1
  rcases h4 i _ rows[i] hi (Zv (by omega)) with ⟨e,_⟩|⟨q,ver,e,f,_,h⟩
  ·cases e
  cases e;exact (List.getElem?_eq_some_iff.1 h).1
 | deep a sz u cs rows =>
  obtain ⟨h1,h2,h3,h4⟩:=h
  rcases ho with ⟨s1,v1,o1,l1,rfl⟩|⟨s1,v1,l1,hm⟩
  ·rcases h2 with ⟨e,_⟩|⟨q,ver,e,h,_⟩
   ·cases e
   cases e;exact (List.getElem?_eq_some_iff.1 h).1
  obtain ⟨i,hi⟩:=List.getElem?_of_mem hm
  have hlt:=(List.getElem?_eq_some_iff.1 hi).1
  rcases h3 i _ rows[i] hi (Zv (by omega)) with ⟨e,_⟩|⟨q,ver,e,h⟩
  ·cases e
  cases e;exact (List.getElem?_eq_some_iff.1 h).1
theorem HP.lies:∀ {items:List ZaS},HP H items->∀ i∈items,Lies H i
 | [],_,i,hi=>by cases hi
 | j::is,h,i,hi=>by
  rcases List.mem_cons.1 hi with rfl|hi
  ·exact h.1
  exact HP.lies h.2.2 i hi
theorem HP.get (h:HP H items)(k:Nat){i:ZaS}(hk:items[k]?=some i):Lies H i:=h.lies i (List.mem_of_getElem? hk)
theorem HP.same:∀ {items:List ZaS},HP H items->(∀ i∈items,∀ id,Occ i id->H'[id]?=H[id]?)->HP H' items
 | [],_,_=>trivial
 | i::is,h,hs=>⟨h.1.same (hs i (by simp)),h.2.1,HP.same h.2.2 λj hj=>hs j (by simp [hj])⟩
theorem HP.push (h:HP H items)(o:HO):HP (H++[o]) items :=
 h.same λi hi id ho=>by
  have:=(h.lies i hi).lt id ho
  rw [Zq this]
theorem HP.cons (h:HP H items){i:ZaS}(hi:Lies H i)(hn:∀ id,Occ i id->∀ j∈items,¬ Occ j id):HP H (i::items):=⟨hi,hn,h⟩
theorem HP.nilArr (h:HP H items)(sz:Nat)(frz:Bool):HP H (.arr (.p (.sl sz true [])) sz frz []::items):=
 h.cons (.inl ⟨rfl,rfl⟩) (λid ⟨_,_,_,_,e⟩=>by cases e)
theorem HP.replace:∀ {items:List ZaS} {k:Nat} {i i':ZaS},HP H items->items[k]?=some i->Lies H' i'->(∀ id,Occ i' id->Occ i id∨H.length<=id) →
  (∀ id,id<H.length->¬ Occ i id->H'[id]?=H[id]?)->HP H' (items.set k i')
 | [],k,i,i',h,hk,_,_,_=>by simp at hk
 | j::is,0,i,i',h,hk,hl,ho,hs=>by
  simp only [Zt,ZU] at hk
  subst hk
  refine ⟨hl,λid hid x hx hxo=>?_,HP.same h.2.2 λx hx id hxo=>hs id ((HP.lies h.2.2 x hx).lt id hxo) λhj=>h.2.1 id hj x hx hxo⟩
  rcases ho id hid with h1|h1
  ·exact h.2.1 id h1 x hx hxo
  have:=(HP.lies h.2.2 x hx).lt id hxo;omega
 | j::is,k+1,i,i',h,hk,hl,ho,hs=>by
  simp only [Zs] at hk
  have hi:i∈is:=List.mem_of_getElem? hk
  refine ⟨h.1.same λid hid=>hs id (h.1.lt id hid) λhio=>h.2.1 id hid i hi hio,λid hid x hx hxo=>?_,HP.replace h.2.2 hk hl ho hs⟩
  rcases List.mem_or_eq_of_mem_set hx with h1|rfl
  ·exact h.2.1 id hid x h1 hxo
  rcases ho id hxo with h1|h1
  ·exact h.2.1 id hid i hi h1
  have:=h.1.lt id hid;omega
theorem Zlq {a:AV}{sz:Nat}{frz:Bool}{rows:List (List PC)}(h:Lies H (.arr a sz frz rows)):a=.p (.sl sz true [])∨∃ id ver,a=.osl sz id ver 0 rows.length:=by
 rcases h with h|⟨id,ver,h,_⟩
 ·exact .inl h.1
 exact .inr ⟨id,ver,h⟩
inductive OwnF (sz n:Nat):AV->Prop
 | a:OwnF sz n (.p (.sl sz true []))
 | b (id ver:Nat):OwnF sz n (.osl sz id ver 0 n)
theorem ZbB {a:AV}{sz:Nat}{frz:Bool}{rows:List (List PC)}(h:Lies H (.arr a sz frz rows)):OwnF sz rows.length a:=by
 rcases Zlq h with rfl|⟨_,_,rfl⟩
 ·exact .a
 exact .b ..
theorem HP.app {α:Type}{k:Nat}{a:AV}{sz bytes:Nat}{frz:Bool}{l m r:List α}(enc:α->List PC)(hH:HP H items)(hk:items[k]?=some (.arr a sz frz (l.map enc)))(h:appI bytes l m=some r) :
  ∃ a' H',appV H sz bytes a (m.map enc)=some (a',H')/\HP H' (items.set k (.arr a' sz frz (r.map enc))):=by
 unfold appI at h
 split at h
 ·rename_i hb
  cases h
  rcases hH.get k hk with ⟨rfl,hl⟩|⟨id,ver,rfl,f,hf,hid⟩
  ·have hl0:l=[]:=by cases l with
    | nil=>rfl
    | cons x xs=>simp at hl
   subst hl0
   by_cases hm:m=[]
   ·subst hm
    refine ⟨.p (.sl sz true []),H,by simp [appV,ZhE],?_⟩
    exact hH.replace hk (.inl ⟨rfl,rfl⟩) (λid ⟨_,_,_,_,e⟩=>by cases e) (λ_ _ _=>rfl)
   refine ⟨.osl sz H.length 0 0 (0+m.length),H++[.arr sz 0 false ([]++m.map enc)],?_,?_⟩
   ·simp only [List.length_nil,ZQ] at hb
    simp [appV,hb,hm,ZhE]
   refine hH.replace hk (.inr ⟨H.length,0,by simp,false,λ_=>rfl,by simp⟩) (λid ⟨_,_,_,_,e⟩=>by cases e;exact .inr (Nat.le_refl _)) (λid hlt _=>Zq hlt)
  have hlt:=(List.getElem?_eq_some_iff.1 hid).1
  refine ⟨.osl sz id (ver+1) 0 (l.length+m.length),H.set id (.arr sz (ver+1) f (l.map enc++m.map enc)),?_,?_⟩
  ·simp only [appV,hid,ZE]
   rw [Z0 ⟨trivial,trivial,trivial,trivial,hb.1,hb.2,trivial⟩]
  refine hH.replace hk (.inr ⟨id,ver+1,by simp,f,hf,by simp [hlt]⟩) (λid' ⟨_,_,_,_,e⟩=>by cases e;exact .inl ⟨sz,ver,0,_,rfl⟩) (λid' hl' ho=>?_)
  rw [Zz]
  intro e;subst e;exact ho ⟨sz,ver,0,_,rfl⟩
 cases h
theorem HP.make {α:Type}{bytes:Nat}{n c:Int}{z:α}{r:List α}(enc:α->List PC)(hH:HP H items)(h:Zj5 bytes n c z=some r) :
  ∃ a H',a=.osl (enc z).length H.length 0 0 n.toNat/\H'=H++[.arr (enc z).length 0 false (List.replicate n.toNat (enc z))]/\(0<=n/\n<=c/\c*bytes<=140737488355328/\c<=140737488355328)/\HP H' (.arr a (enc z).length false (r.map enc)::items):=by
 unfold Zj5 at h
 split at h
 ·rename_i hb
  cases h
  refine ⟨_,_,rfl,rfl,hb,(hH.push _).cons (.inr ⟨H.length,0,by simp,false,λ_=>rfl,by simp⟩) (λid ⟨_,_,_,_,e⟩ j hj ho=>?_)⟩
  cases e
  have:=(hH.lies j hj).lt _ ho
  omega
 cases h
theorem HP.elem {α:Type}{k:Nat}{a:AV}{sz:Nat}{frz:Bool}{l:List α}{i:Int}{e:α}(enc:α->List PC)(hH:HP H items)(hk:items[k]?=some (.arr a sz frz (l.map enc)))(h:idx l i=some e) :
  ∃ id ver f,(frz=false->f=false)/\H[id]?=some (.arr sz ver f (l.map enc))/\a=.osl sz id ver 0 l.length/\∀ kk:IntKind,ZaA (.iaddrS sz) [a,.p (.int kk i)]=some (.optr sz id ver (0+i.toNat) 0):=by
 have h1:=(Zf7 enc h).1
 rcases hH.get k hk with ⟨_,hl⟩|⟨id,ver,rfl,f,hf,hid⟩
 ·have:l=[]:=by cases l with
   | nil=>rfl
   | cons x xs=>simp at hl
  subst this
  simp at h1;omega
 refine ⟨id,ver,f,hf,hid,by simp,λkk=>?_⟩
 simp only [ZaA]
 rw [Z0 ⟨trivial,h1.1,h1.2⟩]
theorem HP.setRow {α:Type}{k:Nat}{sz id ver:Nat}{l:List α}{i:Int}{e e':α}{off:Nat}{ps:List PC}{cs:List AV}{f:Bool}{a:AV}(enc:α->List PC)(hH:HP H items)(hk:items[k]?=some (.arr a sz false (l.map enc)))
  (ha:a=.osl sz id ver 0 l.length) (hid:H[id]?=some (.arr sz ver f (l.map enc))) (hff:f=false) (h:idx l i=some e) (hu:unP cs=some ps) (hs:Zbd off ps (enc e)=some (enc e')) :
  ∃ H',(∀ bx,wrt bx H cs (.optr sz id ver (0+i.toNat) off)=some ⟨bx,H'⟩)/\HP H' (items.set k (.arr a sz false ((l.set i.toNat e').map enc))):=by
 subst ha hff
 have h2:=(Zf7 enc h).2
 have hlt:=(List.getElem?_eq_some_iff.1 hid).1
 refine ⟨H.set id (.arr sz ver false ((l.map enc).set i.toNat (enc e'))),λbx=>?_,?_⟩
 ·simp only [wrt,hid,ZQ,and_self,Z1,h2,ZR,hu,hs,ZT]
 refine hH.replace hk (.inr ⟨id,ver,by simp,false,λ_=>rfl,by simp [hlt,List.map_set]⟩) (λid' ⟨_,_,_,_,e⟩=>by cases e;exact .inl ⟨sz,ver,0,_,rfl⟩) (λid' hl' ho=>?_)
 rw [Zz]
 intro e;subst e;exact ho ⟨sz,ver,0,_,rfl⟩
theorem HP.len {α:Type}{k:Nat}{a:AV}{sz:Nat}{frz:Bool}{l:List α}(enc:α->List PC)(hH:HP H items)(hk:items[k]?=some (.arr a sz frz (l.map enc))):ZaA .len [a]=some (.p (.int .i64 l.length)):=by
 rcases hH.get k hk with ⟨rfl,hl⟩|⟨id,ver,rfl,f,hf,hid⟩
 ·have:l=[]:=by cases l with
   | nil=>rfl
   | cons x xs=>simp at hl
  subst this;rfl
 simp [ZaA]
theorem HP.pure {α:Type}{k:Nat}{a:AV}{sz:Nat}{frz:Bool}{l:List α}(enc:α->List PC)(hH:HP H items)(hk:items[k]?=some (.arr a sz frz (l.map enc))):ZjO H a=some (.p (.sl sz false (l.map enc)))/\ZdU H a=some (.p (.sl sz false (l.map enc))):=by
 rcases hH.get k hk with ⟨rfl,hl⟩|⟨id,ver,rfl,f,hf,hid⟩
 ·rw [hl];exact ⟨rfl,rfl⟩
 simp only [ZdU,ZjO,hid,and_self,Z1,sub,ZQ,Nat.le_refl,List.drop_zero,List.take_length,ZT]
theorem HP.frz {α:Type}{k:Nat}{a:AV}{sz:Nat}{frz:Bool}{l:List α}(enc:α->List PC)(hH:HP H items)(hk:items[k]?=some (.arr a sz frz (l.map enc))) :
  ∃ H',frz1 H a=some (.p (.sl sz false (l.map enc)),H')/\frzV H a=some (.p (.sl sz false (l.map enc)),H')/\HP H' (items.set k (.arr a sz true (l.map enc))):=by
 rcases hH.get k hk with ⟨rfl,hl⟩|⟨id,ver,rfl,f,hf,hid⟩
 ·refine ⟨H,by rw [hl];rfl,by rw [hl];rfl,?_⟩
  exact hH.replace hk (.inl ⟨rfl,hl⟩) (λid ⟨_,_,_,_,e⟩=>by cases e) (λ_ _ _=>rfl)
 have hlt:=(List.getElem?_eq_some_iff.1 hid).1
 have e1:frz1 H (.osl sz id ver 0 (l.map enc).length)=some (.p (.sl sz false (l.map enc)),H.set id (.arr sz ver true (l.map enc))):=by
  simp only [frz1,hid,and_self,Z1,sub,ZQ,Nat.le_refl,List.drop_zero,List.take_length,ZT]
 refine ⟨H.set id (.arr sz ver true (l.map enc)),e1,e1,?_⟩
 refine hH.replace hk (.inr ⟨id,ver,by simp,true,by simp,by simp [hlt]⟩) (λid' ⟨_,_,_,_,e⟩=>by cases e;exact .inl ⟨sz,ver,0,_,rfl⟩) (λid' hl' ho=>?_)
 rw [Zz]
 intro e;subst e;exact ho ⟨sz,ver,0,_,rfl⟩
theorem HP.newCell (hH:HP H items)(cs:List AV):∃ id H',id=H.length/\H'=H++[.cells cs]/\HP H' (.cel id cs::items):=
 ⟨_,_,rfl,rfl,(hH.push _).cons (by simp [Lies]) (λid e j hj ho=>by
  cases e
  have:=(hH.lies j hj).lt _ ho
  omega)⟩
theorem HP.setCell {k id off:Nat}{cs vs cs':List AV}(hH:HP H items)(hk:items[k]?=some (.cel id cs))(hs:Zbd off vs cs=some cs') :
  ∃ H',(∀ bx,wrt bx H vs (.ptr id off)=some ⟨bx,H'⟩)/\HP H' (items.set k (.cel id cs')):=by
 have hid:H[id]?=some (.cells cs):=hH.get k hk
 have hlt:=(List.getElem?_eq_some_iff.1 hid).1
 refine ⟨H.set id (.cells cs'),λbx=>by simp [wrt,hid,hs],hH.replace hk (by simp [Lies,hlt]) (λid' e=>.inl e) (λid' hl ho=>?_)⟩
 rw [Zz]
 intro e;subst e;exact ho rfl
def Zj2:List Nat->Bool
 | []=>true
 | k::ks => !ks.elem k&&Zj2 ks
theorem HP.apart {items:List ZaS}(h:HP H items){j k:Nat}{x y:ZaS}(hj:items[j]?=some x)(hk:items[k]?=some y)(hne:j≠k){id:Nat}(hx:Occ x id):¬ Occ y id:=by
 induction items generalizing j k with
 | nil=>simp at hj
 | cons i is ih =>
  cases j with
  | zero =>
   cases k with
   | zero=>exact absurd rfl hne
   | succ k =>
    simp only [Zt,ZU] at hj
    simp only [Zs] at hk
    subst hj
    exact h.2.1 id hx y (List.mem_of_getElem? hk)
  | succ j =>
   simp only [Zs] at hj
   cases k with
   | zero =>
    simp only [Zt,ZU] at hk
    subst hk
    exact λhy=>h.2.1 id hy x (List.mem_of_getElem? hj) hx
   | succ k =>
    simp only [Zs] at hk
    exact ih h.2.2 hj hk (by omega)
theorem HP.pick (h:HP H items):∀ (ks:List Nat),Zj2 ks=true->HP H (ks.filterMap λk=>items[k]?)
 | [],_=>trivial
 | k::ks,hn=>by
  simp only [Zj2,Ze,Zg] at hn
  have ih:=HP.pick h ks hn.2
  cases hk:items[k]? with
  | none=>simpa [List.filterMap_cons,hk] using ih
  | some i =>
   simp only [List.filterMap_cons,hk]
   refine ⟨h.get k hk,λid ho j hj hjo=>?_,ih⟩
   obtain ⟨m,hm,hmj⟩:=List.mem_filterMap.1 hj
   have hne:k≠m:=by
    intro e;subst e
    have:List.elem k ks=true:=by simpa using hm
    rw [hn.1] at this;cases this
   exact h.apart hk hmj hne ho hjo
end
section
variable {P:Program} {n:Nat} {s:St}
theorem Zmv {sz n:Nat}{a:AV}(h:OwnF sz n a):Zha a=true:=by cases h<;>rfl
theorem Zep {d:Nat}{x y:IX}{sz bytes:Nat}{a a' b:AV}{new:List (List PC)}{H H':List HO}(hs:s.H=H)(hx:ev s.fr x=a)(hb:ev s.fr y=b)(hy:Zdc H sz b=some new)(h:appV H sz bytes a new=some (a',H'))(hsr:Zha b=true:=by first|rfl|exact ZmO (λ_=>rfl) _|exact Zmv (by assumption)) :
  Zaf P (.app d x y sz bytes) s ⟨put s.fr d a',s.bx,H'⟩:=by
 subst hs hb
 simp only [Zaf,Zar,hx,hsr,Z1,hy,ZR,h,ZT]
theorem Zmt {d:Nat}{x y:IX}{zero:List PC}{bytes:Nat}{m c:Int}{H H':List HO}{a:AV}(hs:s.H=H)(hx:ev s.fr x=.p (.int .i64 m))(hy:ev s.fr y=.p (.int .i64 c))
  (ha:a=.osl zero.length H.length 0 0 m.toNat) (hH:H'=H++[.arr zero.length 0 false (List.replicate m.toNat zero)]) (h:0<=m/\m<=c/\c*bytes<=140737488355328/\c<=140737488355328) :
  Zaf P (.mkSl d x y zero bytes) s ⟨put s.fr d a,s.bx,H'⟩:=by
 subst hs ha hH
 simp only [Zaf,Zar,hx,hy]
 rw [Z0 h]
theorem ZgT {α:Type}{l:List α}{i:Int}{e:α}{d:Nat}{x:IX}{m sz id ver off:Nat}{f isA:Bool}{cs:List PC}{r:AV}{H:List HO}(enc:α->List PC)(h:idx l i=some e)(hid:H[id]?=some (.arr sz ver f (l.map enc)))(hH:s.H=H:=by kernel_rfl)
  (hx:ev s.fr x=.optr sz id ver (0+i.toNat) off:=by kernel_rfl) (hs:sub off m (enc e)=some cs:=by kernel_rfl) (hm:mk isA (cs.map .p)=some r:=by kernel_rfl) (hno:Zia cs=true:=by rfl):Zaf P (.load d x m isA) s ⟨put s.fr d r,s.bx,s.H⟩:=by
 have h2:=(Zf7 enc h).2
 have hok:∀ cs:List PC,Zai (cs.map .p)=true:=λcs=>by
  induction cs with
  | nil=>rfl
  | cons c cs ih=>simp [Zai,Zcx,ih]
 subst hH
 simp only [Zaf,Zar,hx,rd,hid,and_self,Z1,ZQ,h2,ZR,hs,ZT,ZpI hno,hok,hm]
theorem Zc1 {x y:IX}{m:Nat}{v p:AV}{H H':List HO}(hH:s.H=H:=by kernel_rfl)(hx:ev s.fr x=p:=by kernel_rfl)(hy:ev s.fr y=v:=by kernel_rfl)(hok:decide ((cellsOf v).length=m)&&Zai (cellsOf v)=true:=by kernel_rfl)(hw:∀ bx,wrt bx H (cellsOf v) p=some ⟨bx,H'⟩) :
  Zaf P (.store x y m) s ⟨s.fr,s.bx,H'⟩:=by
 subst hH hx hy
 simp only [Ze,ZX] at hok
 simp only [Zaf,Zar,hok,and_self,Z1,hw,ZT]
theorem Zfj {d:Nat}{x:IX}{v:AV}{id:Nat}{H H':List HO}(hs:s.H=H:=by kernel_rfl)(hx:ev s.fr x=v:=by kernel_rfl)(hok:Zai (cellsOf v)=true:=by kernel_rfl)(hid:id=H.length)(hH:H'=H++[.cells (cellsOf v)]) :
  Zaf P (.boxH d x) s ⟨put s.fr d (.ptr id 0),s.bx,H'⟩:=by
 subst hs hx hid hH
 simp only [Zaf,Zar,hok,Z1]
theorem Zn7 {d:Nat}{zero:List AV}{id:Nat}{H H':List HO}(hs:s.H=H)(hid:id=H.length)(hH:H'=H++[.cells zero]) :
  Zaf P (.newH d zero) s ⟨put s.fr d (.ptr id 0),s.bx,H'⟩:=by
 subst hs hid hH
 simp only [Zaf,Zar]
theorem ZaP {d:Nat}{x:IX}{m id off:Nat}{isA:Bool}{cs c:List AV}{r:AV}{H:List HO}(hs:s.H=H:=by kernel_rfl)(hx:ev s.fr x=.ptr id off:=by kernel_rfl)(hl:Lies H (.cel id cs))(hsub:sub off m cs=some c:=by kernel_rfl)(hok:Zai c=true:=by kernel_rfl)(hm:mk isA c=some r:=by kernel_rfl) :
  Zaf P (.load d x m isA) s ⟨put s.fr d r,s.bx,s.H⟩:=by
 subst hs
 have hl':s.H[id]?=some (.cells cs):=hl
 simp only [Zaf,Zar,hx,rd,hl',hsub,ZR,hok,Z1,hm,ZT]
theorem Zlv {H:List HO}:frzL H []=some ([],H):=rfl
theorem ZhK {H H1 H2:List HO}{x x':AV}{xs xs':List AV}(h1:frzV H x=some (x',H1))(h2:frzL H1 xs=some (xs',H2)):frzL H (x::xs)=some (x'::xs',H2):=by
 simp only [frzL,h1,ZR,h2,ZT]
theorem Zle {d:Option Nat}{f:Nat}{xs:List IX}{ys args:List AV}{r:AV}{H H':List HO}(hs:s.H=H)(hy:xs.map (ev s.fr)=ys)(hf:frzL H ys=some (args,H'))(hc:Zbk P f args r):Zaf P (.call d f xs) s ⟨putO s.fr d r,s.bx,H'⟩:=by
 subst hs hy
 exact ⟨args,H',r,H',.frz hf,hc.frame _,rfl⟩
theorem ZdC {d:Option Nat}{f:Nat}{xs:List IX}{ys args:List AV}{r:AV}{H H1 H':List HO}(hs:s.H=H)(hy:xs.map (ev s.fr)=ys)(hf:frzL H ys=some (args,H1))(hc:ZbR P f args H1 r H'):Zaf P (.call d f xs) s ⟨putO s.fr d r,s.bx,H'⟩:=by
 subst hs hy
 exact ⟨args,H1,r,H',.frz hf,hc,rfl⟩
theorem ZcY {d:Nat}{f:Nat}{xs:List IX}{args:List AV}{r b:Bool}(hx:frzL s.H (xs.map (ev s.fr))=some (args,s.H))(hc:Zbk P f args (.p (.bool r)))(e:r=b):Zaf P (.call (some d) f xs) s ⟨put s.fr d (.p (.bool b)),s.bx,s.H⟩ :=
 ⟨args,s.H,.p (.bool r),s.H,.frz hx,hc.frame _,by rw [e];rfl⟩
def Zgo (H:List HO):List AV->Option (List AV)
 | []=>some []
 | y::ys=>(ZdU H y).bind λx=>(Zgo H ys).map (x :: ·)
theorem ZjF:∀ {rs:List RV} {ys:List AV},rawL s rs=some ys->resL s rs=Zgo s.H ys
 | [],ys,h=>by simp only [rawL,ZU] at h;subst h;rfl
 | r::rs,ys,h=>by
  simp only [rawL] at h
  cases h1:rawV s r with
  | none=>simp [h1] at h
  | some y =>
   simp only [h1,ZR] at h
   cases h2:rawL s rs with
   | none=>simp [h2] at h
   | some zs =>
    simp only [h2,ZT,ZU] at h
    subst h
    simp only [resL,Zgo,ZjF h2]
    have:resV s r=ZdU s.H y:=by
     cases r with
     | tmp t=>simp only [rawV,ZU] at h1;subst h1;rfl
     | cell t m b=>simp only [rawV] at h1;simp only [resV,h1,ZR]
    rw [this]
theorem Zhj {res:List RV}{ys xs:List AV}{r:AV}{H:List HO}(hs:s.H=H)(hr:rawL s res=some ys)(hp:Zgo H ys=some xs)(ht:Zbr xs=r):∃ xs,resL s res=some xs/\Zbr xs=r:=by
 subst hs
 exact ⟨xs,by rw [ZjF hr,hp],ht⟩
theorem ZdT {H:List HO}:Zgo H []=some []:=rfl
theorem ZbN {H:List HO}{x x':AV}{xs xs':List AV}(h1:ZdU H x=some x')(h2:Zgo H xs=some xs'):Zgo H (x::xs)=some (x'::xs'):=by
 simp only [Zgo,h1,ZR,h2,ZT]
theorem ZmI {H:List HO}:ZgK H []=some []:=rfl
theorem Zik {H:List HO}{x x':AV}{xs xs':List AV}(h1:ZjO H x=some x')(h2:ZgK H xs=some xs'):ZgK H (x::xs)=some (x'::xs'):=by
 simp only [ZgK,h1,ZR,h2,ZT]
theorem ZmH {H:List HO}{cs cs':List AV}(h:ZgK H cs=some cs'):ZdU H (.agg cs)=some (.agg cs'):=by
 simp only [ZdU,h,ZT]
theorem HP.any (H:List HO):HP H []:=trivial
theorem ZgP {a b:IC}{Q:Exit->St->Prop}(ks:List Nat)(R:St->Prop)(h1:vc P n a (Zoj λs=>R (ZcP ks s)) s)(h2:∀ s',R s'->vc P n b Q s'):vc P n (.seq a (.kp ks b)) Q s:=by
 refine Zby a (λe s' h=>?_) h1
 obtain ⟨rfl,h⟩:=h
 exact h2 _ h
def Unr (P:Program)(n:Nat)(a:IC)(Q:Exit->St->Prop):Nat->St->Prop
 | 0,_=>False
 | m+1,s=>vc P n a (Zfw (Unr P n a Q m) Q) s
theorem Zg5 {a:IC}{Q:Exit->St->Prop}(m:Nat)(h:Unr P n a Q m s):vc P n (.loop a) Q s:=by
 have key:∃ e sF,RunD P n a .normal e sF m s/\Q e sF:=by
  induction m generalizing s with
  | zero=>exact h.elim
  | succ m ih =>
   obtain ⟨e1,s1,h1,h2⟩:=vcd a (show vc P n a (Zfw (Unr P n a Q m) Q) s from h)
   cases e1 with
   | normal =>
    obtain ⟨e,sF,h3,h4⟩:=ih h2
    exact ⟨e,sF,⟨.normal,s1,h1,.inl ⟨rfl,h3⟩⟩,h4⟩
   | _=>exact ⟨_,s1,⟨_,s1,h1,.inr ⟨by simp,rfl,rfl⟩⟩,h2⟩
 obtain ⟨e,sF,h1,h2⟩:=key
 exact ⟨e,sF,h1.loop,h2⟩
theorem Zcz {a:IC}{Q:Exit->St->Prop}{m:Nat}(h:vc P n a (Zfw (Unr P n a Q m) Q) s):Unr P n a Q (m+1) s:=h
end
end Go.Eng

namespace Go.Eng
open Go
inductive CD where
 | int (k:IntKind)
 | bool
 | sl (sz:Nat) (row:List CD)
mutual
def okPC:CD->PC->Prop
 | .int k,.int k' n=>k'=k/\(Lit.int k n).wf=true
 | .bool,.bool _=>True
 | .sl sz row,.sl sz' full rows=>sz'=sz/\full=false/\rows.length<=maxLen/\∀ r∈rows,ZbP row r
 | _,_=>False
def ZbP:List CD->List PC->Prop
 | [],[]=>True
 | d::ds,x::xs=>okPC d x/\ZbP ds xs
 | _,_=>False
end
def ZdH (P:Program):Nat->List Field->Nat->Bool
 | off,[],n=>decide (off=n)
 | off,f::fs,n=>decide (f.offset=off)&&ZdH P (off+P.cellsOf f.type) fs n
mutual
def chkT (P:Program):Nat->TypeId->List CD->Bool
 | 0,_,_=>false
 | n+1,t,D=>match P.underlying t with
  | some .bool=>(match D with
   | [.bool]=>true
   | _=>false)
  | some (.int k)=>(match D with
   | [.int k']=>decide (k'=k)
   | _=>false)
  | some (.slice e)=>(match D with
   | [.sl sz row]=>decide (P.cellsOf e=sz)&&chkT P n e row
   | _=>false)
  | some (.struct fs)=>decide (D.length=P.cellsOf t)&&ZdH P 0 fs.toList (P.cellsOf t)&&Znb P n D fs.toList
  | some (.array m e)=>decide (D.length=P.cellsOf t)&&decide (P.cellsOf t=m*P.cellsOf e)&&Znc P n D e m
  | _=>false
def Znb (P:Program):Nat->List CD->List Field->Bool
 | _,_,[]=>true
 | 0,_,_::_=>false
 | n+1,D,f::fs=>chkT P n f.type ((D.drop f.offset).take (P.cellsOf f.type))&&Znb P n D fs
def Znc (P:Program):Nat->List CD->TypeId->Nat->Bool
 | _,_,_,0=>true
 | 0,_,_,_+1=>false
 | n+1,D,e,m+1=>chkT P n e ((D.drop (m*P.cellsOf e)).take (P.cellsOf e))&&Znc P n D e m
end
def RdL (ok:Addr->Prop)(w:World):List PC->List Value->Prop
 | [],vs=>vs=[]
 | x::xs,vs=>∃ u us,vs=u::us/\PR ok w x u/\RdL ok w xs us
theorem RdL.append {ok:Addr->Prop}{w:World}:∀ {xs ys:List PC} {us vs:List Value},RdL ok w xs us->RdL ok w ys vs->RdL ok w (xs++ys) (us++vs)
 | [],ys,us,vs,h1,h2=>by simp only [RdL] at h1;subst h1;exact h2
 | x::xs,ys,us,vs,h1,h2=>by
  obtain ⟨u,us',rfl,h3,h4⟩:=h1
  exact ⟨u,us'++vs,rfl,h3,h4.append h2⟩
theorem Zex:∀ {D E:List CD} {xs ys:List PC},ZbP D xs->ZbP E ys->ZbP (D++E) (xs++ys)
 | [],E,[],ys,_,h2=>h2
 | d::D,E,x::xs,ys,h1,h2=>by
  simp only [ZbP,Zo] at h1 ⊢
  exact ⟨h1.1,Zex h1.2 h2⟩
 | [],_,_::_,_,h1,_=>by simp [ZbP] at h1
 | _::_,_,[],_,h1,_=>by simp [ZbP] at h1
theorem Zew:∀ {D:List CD} {xs:List PC},ZbP D xs->xs.length=D.length
 | [],[],_=>rfl
 | d::D,x::xs,h=>by
  simp only [ZbP] at h
  simp [Zew h.2]
 | [],_::_,h=>by simp [ZbP] at h
 | _::_,[],h=>by simp [ZbP] at h
theorem Zgf {ok:Addr->Prop}{w:World}:∀ {xs:List PC} {us:List Value},RdL ok w xs us->us.length=xs.length
 | [],us,h=>by simp only [RdL] at h;subst h;rfl
 | x::xs,us,h=>by
  obtain ⟨u,us',rfl,_,h⟩:=h
  simp [Zgf h]
theorem Znk {ok:Addr->Prop}{w:World}:∀ {xs:List PC} {us:List Value},RdL ok w xs us->∀ (j:Nat) x,xs[j]?=some x->∃ u,us[j]?=some u/\PR ok w x u
 | [],us,h,j,x,hj=>by simp at hj
 | y::ys,us,h,j,x,hj=>by
  obtain ⟨u,us',rfl,h1,h2⟩:=h
  cases j with
  | zero=>simp at hj;subst hj;exact ⟨u,rfl,h1⟩
  | succ j=>exact Znk h2 j x (by simpa using hj)
theorem Zek {α β:Type}{f:α->Option β}:∀ {l:List α} {r:List β},l.mapM f=some r->r.length=l.length/\∀ (i:Nat) x,l[i]?=some x->∃ y,f x=some y/\r[i]?=some y
 | [],r,h=>by simp at h;subst h;simp
 | a::l,r,h=>by
  rw [List.mapM_cons] at h
  cases h1:f a with
  | none=>simp [h1] at h
  | some b =>
   cases h2:l.mapM f with
   | none=>simp [h1,h2] at h
   | some r' =>
    simp [h1,h2] at h
    subst h
    obtain ⟨e1,e2⟩:=Zek h2
    refine ⟨by simp [e1],λi x hx=>?_⟩
    cases i with
    | zero=>simp at hx;subst hx;exact ⟨b,h1,rfl⟩
    | succ i=>exact e2 i x (by simpa using hx)
section
variable {P:Program} {w:World} {ok:Addr->Prop}
def ZnX (P:Program)(w:World)(ok:Addr->Prop){H:Type}(enc:TypeId×Value->H)(fuel:Nat)(t:TypeId)(D:List CD):Prop :=
 ∀ (cs:List Value) (d:DataW H) (ps:List MemPlace),DataW.trod enc P w 0 (λ_=>true) true fuel t cs=some (d,ps)->∃ xs,ZbP D xs/\RdL ok w xs cs
theorem ZhM {H:Type}{enc:TypeId×Value->H}{fuel:Nat}:∀ {n:Nat} {fs:List Field} {D:List CD} {cs:List Value} {off N:Nat} {rs:List (DataW H×List MemPlace)},
  (∀ m t D,chkT P m t D=true->ZnX P w ok enc fuel t D)->Znb P n D fs=true->ZdH P off fs N=true->D.length=N->cs.length=N->off<=N →
  (fs.mapM λf=>DataW.trod enc P w 0 (λ_=>true) true fuel f.type ((cs.drop f.offset).take (P.cellsOf f.type)))=some rs →
  ∃ xs,ZbP (D.drop off) xs/\RdL ok w xs (cs.drop off)
 | n,[],D,cs,off,N,rs,_,_,hl,hD,hc,_,_=>by
  simp only [ZdH,ZX] at hl
  subst hl
  exact ⟨[],by rw [List.drop_eq_nil_of_le (by omega)];simp [ZbP],by rw [List.drop_eq_nil_of_le (by omega)];simp [RdL]⟩
 | 0,f::fs,D,cs,off,N,rs,_,hk,_,_,_,_,_=>by simp [Znb] at hk
 | n+1,f::fs,D,cs,off,N,rs,ih,hk,hl,hD,hc,hle,h=>by
  simp only [Znb,Ze] at hk
  simp only [ZdH,Ze,ZX] at hl
  obtain ⟨rfl,hl⟩:=hl
  rw [List.mapM_cons] at h
  cases h1:DataW.trod enc P w 0 (λ_=>true) true fuel f.type ((cs.drop f.offset).take (P.cellsOf f.type)) with
  | none=>simp [h1] at h
  | some r =>
   cases h2:(fs.mapM λf=>DataW.trod enc P w 0 (λ_=>true) true fuel f.type ((cs.drop f.offset).take (P.cellsOf f.type))) with
   | none=>simp [h1,h2] at h
   | some rs' =>
    obtain ⟨d,ps⟩:=r
    obtain ⟨xs,x1,x2⟩:=ih n f.type _ hk.1 _ d ps h1
    have hlen:=Zgf x2
    have hxl:=Zew x1
    have hle2:f.offset+P.cellsOf f.type<=N:=by
     have:∀ (fs:List Field) (off:Nat),ZdH P off fs N=true->off<=N:=by
      intro fs
      induction fs with
      | nil=>intro off h;simp only [ZdH,ZX] at h;omega
      | cons g gs ihg =>
       intro off h
       simp only [ZdH,Ze,ZX] at h
       have:=ihg _ h.2
       omega
     exact this fs _ hl
    obtain ⟨ys,y1,y2⟩:=ZhM ih hk.2 hl hD hc hle2 h2
    refine ⟨xs++ys,?_,?_⟩
    ·have:=Zex x1 y1
     rwa [← List.drop_drop,List.take_append_drop] at this
    have:=x2.append y2
    rwa [← List.drop_drop,List.take_append_drop] at this
theorem Ziw {H:Type}{enc:TypeId×Value->H}{fuel:Nat}{e:TypeId}{D:List CD}{cs:List Value}
  (ih:∀ m t D,chkT P m t D=true->ZnX P w ok enc fuel t D):∀ {m n:Nat},Znc P n D e m=true->m*P.cellsOf e<=D.length->D.length=cs.length →
  (∀ i,i<m->∃ d ps,DataW.trod enc P w 0 (λ_=>true) true fuel e ((cs.drop (i*P.cellsOf e)).take (P.cellsOf e))=some (d,ps)) →
  ∃ xs,ZbP (D.take (m*P.cellsOf e)) xs/\RdL ok w xs (cs.take (m*P.cellsOf e))
 | 0,n,_,_,_,_=>⟨[],by simp [ZbP],by simp [RdL]⟩
 | m+1,0,hk,_,_,_=>by simp [Znc] at hk
 | m+1,n+1,hk,hle,hl,h=>by
  simp only [Znc,Ze] at hk
  have e1:(m+1)*P.cellsOf e=m*P.cellsOf e+P.cellsOf e:=by rw [ZO,Nat.one_mul]
  obtain ⟨xs,x1,x2⟩:=Ziw ih hk.2 (by omega) hl (λi hi=>h i (by omega))
  obtain ⟨d,ps,h1⟩:=h m (by omega)
  obtain ⟨ys,y1,y2⟩:=ih n e _ hk.1 _ d ps h1
  refine ⟨xs++ys,?_,?_⟩
  ·have:=Zex x1 y1
   rwa [e1,List.take_add]
  have:=x2.append y2
  rwa [e1,List.take_add]
theorem Zf6 {β:Type}{f:Nat->Option β}{n:Nat}{r:List β}(h:(List.range n).mapM f=some r):r.length=n/\∀ i,i<n->∃ y,f i=some y/\r[i]?=some y:=by
 obtain ⟨h1,h2⟩:=Zek h
 simp only [List.length_range] at h1
 exact ⟨h1,λi hi=>h2 i i (by simp [hi])⟩
theorem cells?_get {a:Addr}{m:Nat}{cs:List Value}(h:w.cells? 0 a m=some cs):cs.length=m/\∀ j,j<m->∃ u,w.cell? (a.add j)=some u/\cs[j]?=some u:=by
 unfold World.cells? at h
 rw [Z0 (Nat.zero_le _)] at h
 exact Zf6 h
theorem ZhA (hok:∀ a u,w.cell? a=some u->ok a){H:Type}{enc:TypeId×Value->H}:∀ (fuel n:Nat) (t:TypeId) (D:List CD),chkT P n t D=true->ZnX P w ok enc fuel t D
 | 0,n,t,D,_=>λcs d ps h=>by simp [DataW.trod] at h
 | fuel+1,0,t,D,hk=>by simp [chkT] at hk
 | fuel+1,n+1,t,D,hk=>by
  have ih:∀ m t D,chkT P m t D=true->ZnX P w ok enc fuel t D:=λm t D h=>ZhA hok fuel m t D h
  intro cs d ps h
  rw [chkT.eq_def] at hk
  simp only at hk
  rw [DataW.trod.eq_def] at h
  simp only at h
  cases hu:P.underlying t with
  | none=>rw [hu] at hk;cases hk
  | some u =>
   rw [hu] at hk h
   cases u with
   | bool =>
    simp only at hk
    split at hk
    ·rcases cs with _|⟨v,_|⟨v2,rest⟩⟩
     ·simp at h
     ·cases v<;>simp at h
      rename_i b
      exact ⟨[.bool b],by simp [ZbP,okPC],_,[],rfl,by rw [PR],rfl⟩
     simp at h
    cases hk
   | int k =>
    simp only at hk
    split at hk
    ·simp only [ZX] at hk
     subst hk
     rcases cs with _|⟨v,_|⟨v2,rest⟩⟩
     ·simp at h
     ·cases v<;>simp at h
      rename_i k' n'
      obtain ⟨⟨rfl,hw⟩,_⟩:=h
      exact ⟨[.int k' n'],by simp [ZbP,okPC,hw],_,[],rfl,by rw [PR],rfl⟩
     simp at h
    cases hk
   | slice e =>
    simp only at hk
    split at hk
    ·rename_i sz row
     simp only [Ze,ZX] at hk
     obtain ⟨rfl,hk⟩:=hk
     rcases cs with _|⟨v,_|⟨v2,rest⟩⟩
     ·simp at h
     ·cases v with
      | slice A len cap =>
       cases A with
       | none =>
        cases len with
        | zero=>exact ⟨[.sl (P.cellsOf e) false []],by simp [ZbP,okPC],_,[],rfl,by rw [PR];exact ⟨none,cap,rfl,by simp,by simp,by simp⟩,rfl⟩
        | succ len=>simp at h
       | some a =>
        simp only at h
        split at h
        ·rename_i hb
         cases he:(List.range len).mapM λi=>(w.cells? 0 (a.add (i*P.cellsOf e)) (P.cellsOf e)).bind (DataW.trod enc P w 0 (λ_=>true) true fuel e) with
         | none=>rw [he] at h;simp at h
         | some es =>
          obtain ⟨h1,h2⟩:=Zf6 he
          have key:∀ m,m<=len->∃ rows:List (List PC),rows.length=m/\(∀ r∈rows,ZbP row r)/\∀ (i:Nat) r,rows[i]?=some r->r.length=P.cellsOf e/\RowR ok w r (a.add (i*P.cellsOf e)):=by
           intro m
           induction m with
           | zero=>intro _;exact ⟨[],rfl,by simp,by simp⟩
           | succ m ihm =>
            intro hm
            obtain ⟨rows,r1,r2,r3⟩:=ihm (by omega)
            obtain ⟨y,hy,_⟩:=h2 m (by omega)
            cases hc:w.cells? 0 (a.add (m*P.cellsOf e)) (P.cellsOf e) with
            | none=>rw [hc] at hy;simp at hy
            | some cs' =>
             rw [hc] at hy
             simp only [ZR] at hy
             obtain ⟨d',ps'⟩:=y
             obtain ⟨xs,x1,x2⟩:=ih n e row hk cs' d' ps' hy
             obtain ⟨c1,c2⟩:=cells?_get hc
             have hxl:=Zgf x2
             refine ⟨rows++[xs],by simp [r1],?_,λi r hi=>?_⟩
             ·intro r hr
              rcases List.mem_append.1 hr with hr|hr
              ·exact r2 r hr
              simp at hr;subst hr;exact x1
             rw [List.getElem?_append] at hi
             split at hi
             ·exact r3 i r hi
             rename_i hge
             have hi0:i-rows.length=0:=by
              rcases Nat.eq_zero_or_pos (i-rows.length) with h0|h0
              ·exact h0
              rw [Zw (by simp;omega)] at hi;cases hi
             rw [hi0] at hi
             simp at hi
             subst hi
             have:i=m:=by omega
             subst this
             refine ⟨by omega,?_⟩
             rw [Zeg]
             intro j x hj
             obtain ⟨u,hu1,hu2⟩:=Znk x2 j x hj
             have hjl:j<P.cellsOf e:=by
              have:=(List.getElem?_eq_some_iff.1 hu1).1;omega
             obtain ⟨u',hc1,hc2⟩:=c2 j hjl
             rw [hu1] at hc2
             cases hc2
             exact ⟨u,hc1,hok _ _ hc1,hu2⟩
          obtain ⟨rows,r1,r2,r3⟩:=key len (Nat.le_refl _)
          refine ⟨[.sl (P.cellsOf e) false rows],?_,_,[],rfl,?_,rfl⟩
          ·simp only [ZbP,okPC,true_and,ZW]
           exact ⟨by omega,r2⟩
          rw [PR]
          exact ⟨some a,cap,by rw [r1],by omega,by simp,λ_=>⟨a,rfl,by rw [Zc7];exact r3⟩⟩
        cases h
      | _=>simp at h
     simp at h
    cases hk
   | struct fs =>
    simp only [Ze,ZX] at hk
    obtain ⟨⟨hD,hl⟩,hf⟩:=hk
    simp only at h
    split at h
    ·rename_i hcl
     cases hm:(fs.toList.mapM λf=>DataW.trod enc P w 0 (λ_=>true) true fuel f.type ((cs.drop f.offset).take (P.cellsOf f.type))) with
     | none=>rw [hm] at h;simp at h
     | some rs =>
      obtain ⟨xs,x1,x2⟩:=ZhM ih hf hl hD hcl (Nat.zero_le _) hm
      exact ⟨xs,by simpa using x1,by simpa using x2⟩
    cases h
   | array m e =>
    simp only [Ze,ZX] at hk
    obtain ⟨⟨hD,hl⟩,hf⟩:=hk
    simp only at h
    split at h
    ·rename_i hcl
     cases hm:((List.range m).mapM λi=>DataW.trod enc P w 0 (λ_=>true) true fuel e ((cs.drop (i*P.cellsOf e)).take (P.cellsOf e))) with
     | none=>rw [hm] at h;simp at h
     | some rs =>
      obtain ⟨_,h2⟩:=Zf6 hm
      obtain ⟨xs,x1,x2⟩:=Ziw ih hf (by omega) (by omega) (λi hi=>let ⟨y,hy,_⟩:=h2 i hi; ⟨y.1,y.2,hy⟩)
      refine ⟨xs,?_,?_⟩
      ·rwa [List.take_of_length_le (by omega)] at x1
      rwa [List.take_of_length_le (by omega)] at x2
    cases h
   | _=>cases hk
end
end Go.Eng

namespace Go.Eng
open Go Go.RowKit Go.ChangeShapes
def cx0 (w:World):Cx:=cx (k0 (λ_=>True) [] [] w) ⟨[],noB⟩ [] w
theorem ok0 {w:World}(a:Addr):(cx0 w).ok a:=⟨.inl trivial,λt e=>(by cases e),λid e=>by simp at e⟩
theorem ZiG {c:Cx}:∀ {xs:List PC} {us:List Value},RdL c.ok c.w xs us->VRL c (xs.map .p) us
 | [],us,h=>by simp only [RdL] at h;subst h;rw [ZJ,VRL]
 | x::xs,us,h=>by
  obtain ⟨u,us',rfl,h1,h2⟩:=h
  rw [ZI,VRL]
  exact ⟨u,us',rfl,by rw [VR];exact h1,ZiG h2⟩
theorem open_agg {H:Type}{enc:TypeId×Value->H}{P:Program}{W:World}{base n:Nat}{t:TypeId}{v:Value}{d:DataW H}{ps:List MemPlace}{D:List CD}
  (hc:chkT P n t D=true) (hagg:(match P.underlying t with|some (.struct _)=>true|some (.array _ _)=>true|_=>false)=true)
  (hv:Value.okWide P W .any base t v) (h:DataW.Trod enc P W 0 (λ_=>true) true t v d ps):∃ xs,ZbP D xs/\VR (cx0 W) (.agg (xs.map .p)) v:=by
 obtain ⟨fuel,h⟩:=h
 obtain ⟨xs,x1,x2⟩:=ZhA (ok:=(cx0 W).ok) (λa u _=>ok0 a) fuel n t D hc _ d ps h
 refine ⟨xs,x1,?_⟩
 have:∃ cs,v=.agg cs:=by
  unfold Value.okWide at hv
  split at hv
  ·obtain ⟨cs,e,_⟩:=hv;exact ⟨cs,e⟩
  ·obtain ⟨cs,e,_⟩:=hv;exact ⟨cs,e⟩
  rename_i h1 h2
  split at hagg
  ·rename_i hu;exact absurd hu (h1 _)
  ·rename_i hu;exact absurd hu (h2 _ _)
  cases hagg
 obtain ⟨cs,rfl⟩:=this
 rw [VR]
 exact ⟨cs.toList,rfl,ZiG x2⟩
theorem open_cell {H:Type}{enc:TypeId×Value->H}{P:Program}{W:World}{base n:Nat}{t:TypeId}{v:Value}{d:DataW H}{ps:List MemPlace}{c:CD}
  (hc:chkT P n t [c]=true) (hagg:(match P.underlying t with|some (.struct _)=>true|some (.array _ _)=>true|_=>false)=false)
  (hv:Value.okWide P W .any base t v) (h:DataW.Trod enc P W 0 (λ_=>true) true t v d ps):∃ x,okPC c x/\VR (cx0 W) (.p x) v:=by
 obtain ⟨fuel,h⟩:=h
 obtain ⟨xs,x1,x2⟩:=ZhA (ok:=(cx0 W).ok) (λa u _=>ok0 a) fuel n t [c] hc _ d ps h
 have hl:=Zew x1
 match xs,hl with
 | [x],_ =>
  simp only [ZbP,ZW] at x1
  obtain ⟨u,us,e,h1,h2⟩:=x2
  simp only [RdL] at h2
  subst h2
  refine ⟨x,x1,?_⟩
  rw [VR]
  cases v with
  | agg cs =>
   exfalso
   unfold Value.okWide at hv
   split at hv
   ·rename_i hu;rw [hu] at hagg;cases hagg
   ·rename_i hu;rw [hu] at hagg;cases hagg
   unfold Cell.okWide at hv
   split at hv
   any_goals (rename_i he;first|cases he|done)
   all_goals first|(rename_i _ he;cases he;done)|(unfold Cell.ok at hv;split at hv<;>first|exact hv.elim|(rename_i he _;cases he;done)|(rename_i _ he;cases he;done)|(rename_i he;cases he;done))
  | _ =>
   simp only [Value.cells] at e
   have e':[_]=[u]:=e
   cases e'
   exact h1
theorem ZmG {α:Type}{D:List CD}{enc:α->List PC}{R:α->Prop}(h:∀ xs,ZbP D xs->∃ v,xs=enc v/\R v):∀ {rows:List (List PC)},(∀ r∈rows,ZbP D r)->∃ l:List α,rows=l.map enc/\∀ x∈l,R x
 | [],_=>⟨[],rfl,by simp⟩
 | r::rs,hr=>by
  obtain ⟨v,rfl,hv⟩:=h r (hr r (by simp))
  obtain ⟨l,rfl,hl⟩:=ZmG h (rows:=rs) λr hm=>hr r (by simp [hm])
  exact ⟨v::l,rfl,λx hx=>by rcases List.mem_cons.1 hx with rfl|hx;exact hv;exact hl x hx⟩
def InK (k:IntKind)(n:Int):Prop:=(Lit.int k n).wf=true
theorem InK.u8 {n:Int}(h:InK .u8 n):0<=n/\n<=255:=by
 simpa [InK,Lit.wf,IntKind.min,IntKind.max,IntKind.signed,IntKind.bits] using h
theorem okPC_int {k:IntKind}{x:PC}(h:okPC (.int k) x):∃ n,x=.int k n/\InK k n:=by
 cases x with
 | int k' n=>simp only [okPC] at h;obtain ⟨rfl,h⟩:=h;exact ⟨n,rfl,h⟩
 | _=>simp [okPC] at h
theorem Zi2 {sz:Nat}{D:List CD}{x:PC}{α:Type}{enc:α->List PC}{R:α->Prop}(hr:∀ xs,ZbP D xs->∃ v,xs=enc v/\R v)(h:okPC (.sl sz D) x):∃ l:List α,x=.sl sz false (l.map enc)/\l.length<=maxLen/\∀ x∈l,R x:=by
 cases x with
 | sl sz' full rows =>
  simp only [okPC] at h
  obtain ⟨rfl,rfl,h1,h2⟩:=h
  obtain ⟨l,rfl,hl⟩:=ZmG hr h2
  exact ⟨l,rfl,by simpa using h1,hl⟩
 | _=>simp [okPC] at h
theorem Zbg {d:CD}{D:List CD}{xs:List PC}(h:ZbP (d::D) xs):∃ x ys,xs=x::ys/\okPC d x/\ZbP D ys:=by
 cases xs with
 | nil=>simp [ZbP] at h
 | cons x ys=>simp only [ZbP] at h;exact ⟨x,ys,rfl,h.1,h.2⟩
theorem ZdW {xs:List PC}(h:ZbP [] xs):xs=[]:=by
 cases xs with
 | nil=>rfl
 | cons x ys=>simp [ZbP] at h
theorem ZoB {k:IntKind}:∀ xs,ZbP [.int k] xs->∃ v,xs=eI k v/\InK k v:=λxs h=>by
 obtain ⟨x,ys,rfl,h1,h2⟩:=Zbg h
 obtain ⟨n,rfl,hn⟩:=okPC_int h1
 rw [ZdW h2]
 exact ⟨n,rfl,hn⟩
theorem ZnB:∀ xs,ZbP [.int .i64] xs->∃ v,xs=eI64 v/\InK .i64 v:=λxs h=>by
 obtain ⟨x,ys,rfl,h1,h2⟩:=Zbg h
 obtain ⟨n,rfl,hn⟩:=okPC_int h1
 rw [ZdW h2]
 exact ⟨n,rfl,hn⟩
theorem stays {H:Type}{enc:TypeId×Value->H}{P:Program}{t:TypeId}(hl:laidOutB P=true)(hr:P.readableRec t=true)(hrow:t<P.types.size){W W':World}{v:Value}{d:DataW H}{ps:List MemPlace}
  (h:DataW.Trod enc P W 0 (λ_=>true) true t v d ps) (hb:Below W.heap.size W W') (hlt:∀ x∈ps,x.block<W.heap.size) {sp:Nat->Bool} (hsp:∀ x∈ps,sp x.block=true) :
  DataW.Trod enc P W' 0 sp true t v d ps :=
 WideElems.Trod_stays hl hr hrow h (λx hx=>hb.same (hlt x hx)) hsp
theorem Zbk.run_law {P:Program}{f:Nat}{args:List AV}(h:Zbk P f args (.p (.bool true)))(w:World)(vs:List Value)(hv:VRL (cx0 w) args vs) :
  Calls P f vs.toArray w λe w'=>e=.returned (.bool true)/\Below w.heap.size w w':=h.run_bool (λ_=>True) w vs hv
end Go.Eng

namespace Go.Eng
open Go
def FrOK (fr:List (Nat×AV)):List (Nat×AV)->Prop
 | []=>True
 | (t,v)::r=>get fr t=v/\Zaw v=true/\FrOK fr r
theorem FrOK.get {fr:List (Nat×AV)}:∀ {fr0:List (Nat×AV)},FrOK fr fr0->∀ t,Zaw (get fr0 t)=true/\(get fr0 t=.any∨get fr0 t=get fr t)
 | [],_,t=>⟨rfl,.inl rfl⟩
 | (u,v)::r,h,t=>by
  obtain ⟨h1,h2,h3⟩:=h
  simp only [Eng.get]
  by_cases e:u=t
  ·subst e;rw [Z0 rfl];exact ⟨h2,.inr h1.symm⟩
  rw [ZZ e];exact FrOK.get h3 t
def Zgn (fr:List (Nat×AV)):List Nat->List AV->List (Nat×AV)
 | t::ts,v::vs=>Zgn (put fr t v) ts vs
 | _,_=>fr
section
variable {P:Program} {k:K0} {n:Nat} {g:G} {s:St} {a:Act} {w:World}
theorem getElem?_set' {α:Type}{l:List α}{i:Nat}{x y:α}(h:l[i]?=some x)(j:Nat):(l.set i y)[j]?=if i=j then some y else l[j]?:=by
 have hlt:=(List.getElem?_eq_some_iff.1 h).1
 rw [Zy]
 by_cases e:i=j
 ·subst e;simp [hlt]
 simp [e]
theorem Rel.setLp (h:Rel k n g s a w){id l:Nat}{L:LC}{fr:List (Nat×AV)}{st st':LS}{r r':Loop}(hH:s.H[id]?=some (.lp L fr st))(hρ:g.ρ[id]?=some l)(hr:w.heap[l]?=some (.loop r))
  (hs:r'.params=r.params/\r'.assign=r.assign/\r'.body=r.body/\r'.tmps=r.tmps) (hst:StR st' r') :
  Rel k n g ⟨s.fr,s.bx,s.H.set id (.lp L fr st')⟩ a (w.putObj l (.loop r'))/\ZaB (cx k g s.H w) (cx k g (s.H.set id (.lp L fr st')) (w.putObj l (.loop r'))):=by
 have u:Off w (w.putObj l (.loop r')) l:=.put _ (λvs e f h=>by rw [hr] at h;cases h)
 have hget:=getElem?_set' (y:=HO.lp L fr st') hH
 have hlt:l<w.heap.size:=(Array.getElem?_eq_some_iff.1 hr).1
 have hl:ZaB (cx k g s.H w) (cx k g (s.H.set id (.lp L fr st')) (w.putObj l (.loop r'))):=
  {stay:=λa x ho hc=>by
    refine ⟨u.cell hc,ho.1,ho.2.1,λj hj=>?_⟩
    obtain ⟨sz,ver,rows,h1,h2⟩:=ho.2.2 j hj
    refine ⟨sz,ver,rows,?_,h2⟩
    rw [hget,ZZ (λe=>by subst e;rw [hH] at h1;cases h1)]
    exact h1
   arr:=λj sz ver frz rows e=>by
    have e':s.H[j]?=some (.arr sz ver frz rows):=e
    refine ⟨ver,frz,rows,?_,Nat.le_refl _,λ_=>⟨Nat.le_refl _,rfl,λb vs _ hb=>⟨vs,u.blk hb,rfl⟩⟩⟩
    show (s.H.set id _)[j]?=_
    rw [hget,ZZ (λe1=>by subst e1;rw [hH] at e';cases e')];exact e'
   cells:=λj cs e=>by
    have e':s.H[j]?=some (.cells cs):=e
    refine ⟨⟨cs,?_⟩,rfl⟩
    show (s.H.set id _)[j]?=_
    rw [hget,ZZ (λe1=>by subst e1;rw [hH] at e';cases e')];exact e'
   lp:=λj L' fr' st1 e=>by
    have e':s.H[j]?=some (.lp L' fr' st1):=e
    refine ⟨?_,rfl⟩
    by_cases hj:id=j
    ·subst hj
     rw [hH] at e'
     cases e'
     exact ⟨st',by show (s.H.set id _)[id]?=_;rw [hget,Z0 rfl]⟩
    exact ⟨st1,by show (s.H.set id _)[j]?=_;rw [hget,ZZ hj];exact e'⟩ }
 refine ⟨?_,hl⟩
 have hobj:∀ b,b≠l->∀ o,w.heap[b]?=some o->(w.putObj l (.loop r')).heap[b]?=some o:=λb hb o ho=>(u.block b hb).trans ho
 exact
  {defers:=h.defers.mono λD _ hD=>hobj D (λe=>by subst e;rw [hr] at hD;cases hD) _ hD
   rnd:=λl' hl'=>by
    obtain ⟨r1,h1⟩:=h.rnd l' hl'
    by_cases e:l'=l
    ·subst e;exact ⟨r',World.putObj_heap_same hlt⟩
    exact ⟨r1,hobj l' e _ h1⟩
   tsz:=h.tsz
   slots:=λt=>ZaH hl (λ_ _ e=>e) (h.tops t) (h.slots t)
   tops:=h.tops
   boxes:=λt cs e=>let ⟨b,hb,hr'⟩:=h.boxes t cs e; ⟨b,hb,hr'.later hl (hobj b (λe=>by
    subst e;obtain ⟨_,vs,⟨et,hr'⟩,_⟩:=hr';rw [show w.heap[b]?=_ from hr'] at hr;cases hr))⟩
   boxed:=h.boxed
   heap:=λj o e=>by
    simp only [hget] at e
    by_cases hj:id=j
    ·subst hj
     simp only [Z1,ZU] at e
     subst e
     obtain ⟨b,hb,hq⟩:=h.heap id _ hH
     rw [hρ] at hb
     cases hb
     obtain ⟨hm,h0,r1,q1,q2,q3,q5,q6,q7⟩:L.mpk=false/\LpR (cx k g s.H w) l L fr st:=hq.resolve_right λ⟨_,hq⟩=>by
      cases st with
      | mp ka es=>obtain ⟨_,_,ents,clock,hq,_⟩:=hq;rw [show w.heap[l]?=_ from hq] at hr;cases hr
      | mps ka es bs clock=>obtain ⟨_,_,ents,hq,_⟩:=hq;rw [show w.heap[l]?=_ from hq] at hr;cases hr
      | it m since seen last=>obtain ⟨_,_,_,_,_,_,hq⟩:=hq;rw [show w.heap[l]?=_ from hq] at hr;cases hr
      | itd=>obtain ⟨_,_,_,_,hq⟩:=hq;rw [show w.heap[l]?=_ from hq] at hr;cases hr
      | _=>exact hq
     have:r1=r:=by have:=(show w.heap[l]?=_ from q1).symm.trans hr;simpa using this
     subst this
     refine ⟨l,hρ,.inl ⟨hm,h0,r',World.putObj_heap_same hlt,by rw [hs.1];exact q2,by rw [hs.2.1,hs.2.2.1];exact q3,by rw [hs.2.2.2];exact q5,λt=>?_,hst⟩⟩
     rw [hs.2.2.2]
     exact VR.later hl _ _ (h0 t) (q6 t)
    simp only [hj,ZY] at e
    obtain ⟨b,hb,hr'⟩:=h.heap j o e
    exact ⟨b,hb,hr'.later hl (hobj b (λe=>hj (h.inj id j l hρ (by rw [← e];exact hb))))⟩
   len:=by simp [h.len]
   inj:=h.inj
   binj:=h.binj
   apart:=h.apart
   own:=h.own
   keep:=h.keep.off u (h.own id l hρ)
   hist:=h.hist.trans hl }
theorem Rel.lpMk (h:Rel k n g s a w){id:Nat}{L:LC}{fr:List (Nat×AV)}{st:LS}(hH:s.H[id]?=some (.lp L fr st))(hst:∀ ka es,st≠.mp ka es)(hst2:∀ ka es bs c,st≠.mps ka es bs c:=by simp)(hst3:∀ a b c d,st≠.it a b c d:=by simp)(hst4:st≠.itd:=by simp):L.mpk=false:=by
 obtain ⟨l,hl,h0⟩:=h.heap id _ hH
 rcases h0 with ⟨h0,_⟩|⟨_,h0⟩
 ·exact h0
 cases st with
 | mp ka es=>exact absurd rfl (hst ka es)
 | mps ka es bs c=>exact absurd rfl (hst2 ka es bs c)
 | it a b c d=>exact absurd rfl (hst3 a b c d)
 | itd=>exact absurd rfl hst4
 | _=>exact h0.elim
theorem Rel.theLp (h:Rel k n g s a w){id:Nat}{L:LC}{fr:List (Nat×AV)}{st:LS}(hH:s.H[id]?=some (.lp L fr st))(hm:L.mpk=false):∃ l r,g.ρ[id]?=some l/\w.heap[l]?=some (.loop r)/\LpR (cx k g s.H w) l L fr st/\StR st r:=by
 obtain ⟨l,hl,hq⟩:=h.heap id _ hH
 have h0:LpR (cx k g s.H w) l L fr st:=hq.elim (λq=>q.2) (λq=>by rw [hm] at q;cases q.1)
 have h0':=h0
 obtain ⟨_,r,h1,_,_,_,_,h2⟩:=h0'
 exact ⟨l,r,hl,h1,h0,h2⟩
theorem Rel.callL (h:Rel k n g s a w){f:Nat}{args:List AV}{r:AV}{H':List HO}{vs:List Value}(hc:ZbR P f args s.H r H')(hargs:VRL (cx k g s.H w) args vs)(hno:noLocL args=true)
  {R:Ending->World->Prop} (hR:∀ g' v w',Rel k n g' ⟨s.fr,s.bx,H'⟩ a w'->ZaB (cx k g s.H w) (cx k g' H' w')->R (.returned v) w'):Calls P f vs.toArray w R:=by
 obtain ⟨_,hr0,hc⟩:=hc
 refine (hc (okOf k s.H g) g.ρ w vs h.hr (VRL.later h.laterCall args vs hno hargs)).mono ?_
 rintro e w' ⟨v,ρ',rfl,h1,h2,h3⟩
 obtain ⟨h4,h5⟩:=h.back h1 h3
 exact hR _ _ _ h4 ((h.laterCall.trans h3).trans h5)
theorem Rel.mark (h:Rel k n g s a w):Rel k n g s { a with defers:={ target:=.collected w.heap.size,args := #[] }::a.defers } (w.alloc (.deferred (some []))):=by
 have hg:=Grow.alloc w (.deferred (some []))
 have h1:=h.grow hg
 obtain ⟨ms,ms2,e,hn,hm⟩:=h.defers
 refine { h1 with defers:=⟨w.heap.size::ms,ms2,by rw [e];rfl,(show (w.heap.size::(ms++ms2)).Nodup from List.nodup_cons.2 ⟨λhD=>?_,hn⟩),λD hD=>?_⟩ }
 ·have:=(Array.getElem?_eq_some_iff.1 (hm _ hD).2).1
  omega
 rw [Zo] at hD
 rcases List.mem_cons.1 hD with rfl|hD
 ·exact ⟨h.keep.size,World.alloc_heap_new w _⟩
 exact ⟨(hm D hD).1,Zcs hg (hm D hD).2⟩
theorem Rel.enterLoop (h:Rel k n g s a w){fr0:List (Nat×AV)}(hfr:FrOK s.fr fr0)(fn:FuncId)(ps:Array Tmp)(assign body:Code){L:LC}(hL1:L.ps=ps.toList)(hL2:L.n=n)(hL3:L.ok assign body)(hmk:L.mpk=false) :
  ∃ l mark w1 g1,(Instr.enterLoop fn a.tmps ps assign body k.rd).run P w=.ok (l,mark) w1/\g1.ρ[s.H.length]?=some l ∧
   Rel k n g1 ⟨s.fr,s.bx,s.H++[.lp L fr0 .ready]⟩ { a with defers:=mark++a.defers } w1/\ZaB (cx k g s.H w) (cx k g1 (s.H++[.lp L fr0 .ready]) w1):=by
 have key:∀ (w0:World) (a0:Act) (rec:Loop),a0.tmps=a.tmps->rec.params=ps->rec.assign=assign->rec.body=body->rec.tmps=a.tmps->rec.state=.ready->rec.pending=none->Rel k n g s a0 w0 →
   Rel k n ⟨g.ρ++[w0.heap.size],g.β⟩ ⟨s.fr,s.bx,s.H++[.lp L fr0 .ready]⟩ a0 (w0.alloc (.loop rec)) ∧
    ZaB (cx k g s.H w0) (cx k ⟨g.ρ++[w0.heap.size],g.β⟩ (s.H++[.lp L fr0 .ready]) (w0.alloc (.loop rec))):=by
  intro w0 a0 rec e0 e1 e2 e3 e4 e5 e6 h0
  have hl:=h0.laterNewG (o:=.lp L fr0 .ready) (.loop rec)
  refine h0.newObjG (.loop rec) (.inl ⟨hmk,λt=>(hfr.get t).1,rec,World.alloc_heap_new w0 _,by rw [e1,hL1],by rw [e2,e3];exact hL3,by rw [e4,← e0,hL2];exact h0.tsz,λt=>?_,e5,e6⟩)
  rcases (hfr.get t).2 with e|e
  ·rw [e];simp [VR]
  have:=h0.slots t
  rw [e0,← e4,← e] at this
  exact VR.later hl _ _ (hfr.get t).1 this
 cases hrd:k.rd with
 | none =>
  have hm:=h.mark
  obtain ⟨h1,h2⟩:=key (w.alloc (.deferred (some []))) { a with defers:={ target:=.collected w.heap.size,args := #[] }::a.defers } { state:=.ready,pending:=none,fn,tmps:=a.tmps,params:=ps,assign,body,defers:=w.heap.size } rfl rfl rfl rfl rfl rfl rfl hm
  refine ⟨_,_,_,_,run_enterLoop_outer fn a.tmps ps assign body,?_,h1,(Zck (Grow.alloc w _) s.H).trans h2⟩
  show (g.ρ++[_])[s.H.length]?=_
  rw [← h.len]
  simp
 | some l0 =>
  obtain ⟨r0,hr0⟩:=h.rnd l0 hrd
  obtain ⟨h1,h2⟩:=key w a { state:=.ready,pending:=none,fn,tmps:=a.tmps,params:=ps,assign,body,defers:=r0.defers } rfl rfl rfl rfl rfl rfl rfl h
  refine ⟨w.heap.size,[],_,_,?_,?_,h1,h2⟩
  ·unfold Instr.enterLoop
   simp only [Sem.run_bind,run_getLoop hr0,run_newObj_alloc,Result.andThen,Sem.run_pure]
  show (g.ρ++[_])[s.H.length]?=_
  rw [← h.len]
  simp
def outQ (Q:Exit->St->Prop)(s:St):LS->Prop
 | .ready=>Q .normal s
 | .done .ret=>Q .ret s
 | .done (.exit id)=>Q (.exit id) s
 | _=>False
theorem EvI.rangeF {x:IX}{ps:List Nat}{ia ib:IC}{s:St}{Q:Exit->St->Prop}{gf:Nat}{cap:List AV}(fr0:List (Nat×AV))(hfr:FrOK s.fr fr0)(hx:ev s.fr x=.fn gf [] cap)
  {L:LC} (hL:L=⟨ps,n,λa b=>chkC P n a ia=true/\chkC P n b ib=true,false⟩) (hcall:(∀ t∈ps,t<n) →
   ∃ args H1 r H2 st,frzL (s.H++[.lp L fr0 .ready]) (.yl s.H.length::cap)=some (args,H1)/\ZbR P gf args H1 r H2/\H2[s.H.length]?=some (.lp L fr0 st) ∧
    outQ Q ⟨s.fr,s.bx,H2.set s.H.length (.lp L fr0 .dead)⟩ st):EvI P n (.rangeF x ps ia ib) s Q:=by
 intro c hc k g a w hr
 cases c<;>simp only [chkC,Zf,Ze,ZX,Zm] at hc
 rename_i G PS A B
 obtain ⟨⟨⟨⟨hG,hps⟩,hlt⟩,hA⟩,hB⟩:=hc
 obtain ⟨args,H1,r,H2,st,hf,hac,hH2,hQ⟩:=hcall hlt
 refine wpIn_rangeFunc λfn _=>?_
 obtain ⟨l,mark,w1,g1,he,hρ,h1,hl1⟩:=hr.enterLoop (P:=P) hfr fn PS A B (L:=L) (by rw [hL];exact hps.symm) (by rw [hL]) (by rw [hL];exact ⟨hA,hB⟩) (by rw [hL])
 have hvf:=Zbe hr hG
 have htf:=Zf5 hr hG
 rw [hx] at hvf htf
 simp only [top,Zaw,Ze] at htf
 have hvf1:=VR.later hl1 _ _ (by simp only [Zaw,Ze];exact htf) hvf
 rw [VR] at hvf1
 obtain ⟨us1,us2,e,hv1,hv2⟩:=hvf1
 rw [VRL] at hv1
 subst hv1
 have hargs:VRL (cx k g1 (s.H++[.lp L fr0 .ready]) w1) (.yl s.H.length::cap) (.func (.yield l) #[] #[]::us2):=by
  rw [VRL]
  refine ⟨_,us2,rfl,?_,hv2⟩
  rw [VR]
  exact ⟨L,fr0,.ready,l,(by simp [cx]),hρ,rfl⟩
 obtain ⟨r1,l2,v1,n1⟩:=Zf9 (s:=⟨s.fr,s.bx,s.H++[.lp L fr0 .ready]⟩) _ h1 hf (λy hy=>by
  rcases List.mem_cons.1 hy with rfl|hy
  ·rfl
  exact Zaj (Za0.1 htf.2 y hy)) hargs
 refine ⟨l,mark,w1,{ target:=.fn (.func gf) us2.toArray,args := #[.func (.yield l) #[] #[]] },w1,gf,(.func (.yield l) #[] #[]::us2).toArray,w1,he,?_,λ_ _=>trivial,?_,λh=>(by cases h),?_⟩
 ·have hcst:∀ v,a.eval (.const v)=v:=λ_=>rfl
  have e':a.eval G=.func (.func gf) #[] us2.toArray:=e
  simp [resolve,e',Deferred.ofValue,Sem.run_bind,Sem.run_pure,Result.andThen_ok,hcst]
 ·simp only [invoke]
  rw [Zb7 hac.1]
  congr 2
  apply Array.ext'
  simp
 refine ZiA (r1.callL hac v1 n1 ?_)
 intro g' v w' h2 hl3
 have hρ':g'.ρ[s.H.length]?=some l:=by
  have hl4:=l2.trans hl3
  have:=(hl4.lp s.H.length L fr0 .ready (by simp [cx])).2
  exact this.trans hρ
 obtain ⟨l',rr,e1,e2,_,e4⟩:=h2.theLp hH2 (by rw [hL])
 have:l'=l:=by have:=(show g'.ρ[s.H.length]?=_ from e1).symm.trans hρ';simpa using this
 subst this
 have hnb:rr.state≠.busy:=by
  cases st with
  | ready=>rw [e4.1];simp
  | busy=>simp [outQ] at hQ
  | dead=>simp [outQ] at hQ
  | mp=>simp [outQ] at hQ
  | mps=>simp [outQ] at hQ
  | it=>simp [outQ] at hQ
  | itd=>simp [outQ] at hQ
  | done c=>rw [e4.1];simp
 have hend:=run_endLoop (P:=P) e2 hnb
 have h3:=(h2.setLp (st':=.dead) (r':={ rr with state:=.exhausted }) hH2 e1 e2 ⟨rfl,rfl,rfl,rfl⟩ trivial).1
 cases st with
 | ready=>exact ⟨none,_,by rw [← e4.2];exact hend,⟨_,g',h3,hQ⟩⟩
 | busy=>simp [outQ] at hQ
 | dead=>simp [outQ] at hQ
 | mp=>simp [outQ] at hQ
 | mps=>simp [outQ] at hQ
 | it=>simp [outQ] at hQ
 | itd=>simp [outQ] at hQ
 | done c =>
  cases c with
  | ret=>exact ⟨some .ret,_,by rw [← e4.2];exact hend,wpIn_ret ⟨_,g',h3,hQ⟩⟩
  | exit id=>exact ⟨some (.exit id),_,by rw [← e4.2];exact hend,wpIn_exit ⟨_,g',h3,hQ⟩⟩
  | _=>simp [outQ] at hQ
def Zeq (tmps:Array Value):List Nat->List Value->Array Value
 | t::ts,v::vs=>Zeq (tmps.setIfInBounds t v) ts vs
 | _,_=>tmps
theorem ZlM (tmps:Array Value)(ps:List Nat)(vs:List Value):(List.zip ps vs).foldl (λt (p:Nat×Value)=>t.setIfInBounds p.1 p.2) tmps=Zeq tmps ps vs:=by
 induction ps generalizing tmps vs with
 | nil=>rfl
 | cons p ps ih =>
  cases vs with
  | nil=>rfl
  | cons v vs=>simp only [List.zip_cons_cons,List.foldl_cons,Zeq];exact ih _ _
theorem Zkx (tmps:Array Value)(ps:List Nat)(vs:List Value):(Zeq tmps ps vs).size=tmps.size:=by
 induction ps generalizing tmps vs with
 | nil=>cases vs<;>rfl
 | cons p ps ih=>cases vs with
  | nil=>rfl
  | cons v vs=>simp only [Zeq];rw [ih];simp
theorem Zgm {c:Cx}:∀ (ts:List Nat) {fr:List (Nat×AV)} {tmps:Array Value} {args:List AV} {vs:List Value},(∀ t,Zaw (get fr t)=true)->(∀ t,VR c (get fr t) (tmps.getD t undef))->noLocL args=true->VRL c args vs →
  (∀ t∈ts,t<tmps.size)->∀ t,Zaw (get (Zgn fr ts args) t)=true/\VR c (get (Zgn fr ts args) t) ((Zeq tmps ts vs).getD t undef)
 | [],fr,tmps,args,vs,h0,h1,_,_,_,t=>by
  have e1:Zgn fr [] args=fr:=by cases args<;>rfl
  have e2:Zeq tmps [] vs=tmps:=by cases vs<;>rfl
  rw [e1,e2];exact ⟨h0 t,h1 t⟩
 | u::ts,fr,tmps,[],vs,h0,h1,_,hv,_,t=>by
  rw [VRL] at hv
  subst hv
  exact ⟨h0 t,h1 t⟩
 | u::ts,fr,tmps,x::xs,vs,h0,h1,hno,hv,hlt,t=>by
  rw [VRL] at hv
  obtain ⟨v,vs',rfl,hv1,hv2⟩:=hv
  simp only [noLocL,Zaw.noLocL,Ze] at hno
  simp only [Zgn,Zeq]
  refine Zgm ts (λt=>?_) (λt=>?_) hno.2 hv2 (λt ht=>by simpa using hlt t (by simp [ht])) t
  ·rw [ZaM]
   split
   ·exact hno.1
   exact h0 t
  rw [ZaM]
  have hu:=hlt u (by simp)
  by_cases e:u=t
  ·subst e;rw [Z0 rfl];simp [Za,hu];exact hv1
  rw [ZZ e]
  have:=h1 t
  rwa [Za,← Zc (xs:=tmps) (a:=v) e,← Za] at this
def Zlj (id:Nat)(L:LC)(fr0:List (Nat×AV))(b:Bool)(H':List HO):Exit->St->Prop
 | .normal,s=>b=true/\s.H[id]?=some (.lp L fr0 .busy)/\H'=s.H.set id (.lp L fr0 .ready)
 | .ret,s=>b=false/\s.H[id]?=some (.lp L fr0 .busy)/\H'=s.H.set id (.lp L fr0 (.done .ret))
 | .exit j,s=>b=false/\s.H[id]?=some (.lp L fr0 .busy)/\H'=s.H.set id (.lp L fr0 (.done (.exit j)))
 | _,_=>False
theorem HR.rd {k:K0}{x:Option Nat}{ρ:List Nat}{H:List HO}{w:World}(h:HR { k with rd:=x } ρ H w):HR k ρ H w :=
 {heap:=h.heap,len:=h.len,inj:=h.inj,own:=h.own,keep:=h.keep }
theorem Znn {id:Nat}{args:List AV}{H H':List HO}{L:LC}{fr0:List (Nat×AV)}{ia ib:IC}{b:Bool}(hH:H[id]?=some (.lp L fr0 .ready))(hps:args.length=L.ps.length)(hlt:∀ t∈L.ps,t<L.n)(hno:noLocL args=true)
  (hok:∀ a b,L.ok a b->chkC P L.n a ia=true/\chkC P L.n b ib=true)
  (h:EvI P L.n ia ⟨Zgn fr0 L.ps args,[],H⟩ (Zfw (λs1=>s1.H[id]?=some (.lp L fr0 .ready)/\EvI P L.n ib ⟨s1.fr,s1.bx,s1.H.set id (.lp L fr0 .busy)⟩ (Zlj id L fr0 b H')) (λ_ _=>False))) :
  Zk0 P id args H b H':=by
 intro ok0 ρ w vs l hhr hv hρ
 obtain ⟨l',hl',hq⟩:=hhr.heap id _ hH
 obtain ⟨_,h0,r,q1,q2,q3,q5,q6,q7⟩:=hq.resolve_right λ⟨_,q⟩=>q
 obtain ⟨ha,hb⟩:=hok _ _ q3
 rw [hρ] at hl'
 cases hl'
 have hvl:=hv.length
 have hps':vs.toArray.size=r.params.size:=by
  have:r.params.toList.length=L.ps.length:=by rw [q2]
  simp only [Zd] at this
  simp;omega
 refine ⟨r.fn,_,r.assign,r.body,run_yield q1 hps',?_⟩
 refine roundIn_of_wpIn (F:=FR none) trivial ?_
 have hk0:cx ({ k0 ok0 ρ H w with rd:=some l }:K0) ⟨ρ,noB⟩ H w=cx (k0 ok0 ρ H w) ⟨ρ,noB⟩ H w:=rfl
 have htm:(r.params.zip vs.toArray).foldl (λtmps (x:Nat×Value)=>tmps.setIfInBounds x.1 x.2) r.tmps=Zeq r.tmps L.ps vs:=by
  rw [← Array.foldl_toList,Array.toList_zip,q2]
  exact ZlM _ _ _
 have hsl:=Zgm (c:=cx (k0 ok0 ρ H w) ⟨ρ,noB⟩ H w) L.ps h0 q6 hno hv (λt ht=>by rw [q5];exact hlt t ht)
 have hrel:Rel ({ k0 ok0 ρ H w with rd:=some l }:K0) L.n ⟨ρ,noB⟩ ⟨Zgn fr0 L.ps args,[],H⟩ { tmps:=Zeq r.tmps L.ps vs,defers:=[] } w :=
  {defers:=⟨[],[],rfl,List.nodup_nil,λD h=>(by cases h)⟩
   rnd:=λl' e=>by cases e;exact ⟨r,q1⟩
   tsz:=by rw [Zkx];exact q5
   slots:=λt=>(hsl t).2
   tops:=λt=>Zaj (hsl t).1
   boxes:=λt cs e=>by simp [bget] at e
   boxed:=λt b e=>by cases e
   heap:=hhr.heap
   len:=hhr.len
   inj:=hhr.inj
   binj:=λt u b e=>by cases e
   apart:=λt i b e=>by cases e
   own:=hhr.own
   keep:=hhr.keep
   hist:=ZaB.refl _ }
 have htm':(Array.foldl (λtmps (x:Tmp×Value)=>match x with|(t,a)=>tmps.setIfInBounds t a) r.tmps (r.params.zip vs.toArray))=Zeq r.tmps L.ps vs:=htm
 rw [htm']
 refine wpIn_mono (h _ ha ({ k0 ok0 ρ H w with rd:=some l }:K0) ⟨ρ,noB⟩ _ w hrel) ?_
 rintro e a1 w1 ⟨s1,g1,h1,h2⟩
 cases e with
 | normal =>
  obtain ⟨hH1,h2⟩:=h2
  obtain ⟨l1,r1,e1,e2,_,e4⟩:=h1.theLp hH1 (h1.lpMk hH1 (by intro _ _ e;cases e))
  have:l1=l:=by
   have:=(h1.hist.lp id L fr0 .ready hH).2
   have:=(show g1.ρ[id]?=ρ[id]? from this)
   rw [e1,hρ] at this;simpa using this
  subst this
  refine ⟨_,run_beginRound e2 e4.1,?_⟩
  obtain ⟨h3,_⟩:=h1.setLp (st':=.busy) (r':={ r1 with state:=.busy }) hH1 e1 e2 ⟨rfl,rfl,rfl,rfl⟩ rfl
  refine wpIn_mono (h2 _ hb ({ k0 ok0 ρ H w with rd:=some l1 }:K0) g1 a1 _ h3) ?_
  rintro e a2 w2 ⟨s2,g2,h4,h5⟩
  have key:∀ (jump:Option Code) (st:LS),s2.H[id]?=some (.lp L fr0 .busy)->H'=s2.H.set id (.lp L fr0 st)->b=jump.isNone->(∀ r:Loop,StR st { r with state:=if jump.isNone then .ready else .done,pending:=jump }) →
    ∃ v w',(Instr.endRound l1 jump).run P w2=.ok v w'/\∃ ρ',Ending.returned v=.returned (.bool b)/\HR (k0 ok0 ρ H w) ρ' H' w'/\ZaB (cx (k0 ok0 ρ H w) ⟨ρ,noB⟩ H w) (cx (k0 ok0 ρ H w) ⟨ρ',noB⟩ H' w'):=by
   intro jump st g0 gH gb gst
   obtain ⟨l2,r2,f1,f2,_,_⟩:=h4.theLp g0 (h4.lpMk g0 (by intro _ _ e;cases e))
   have:l2=l1:=by
    have:=(h4.hist.lp id L fr0 .ready hH).2
    have:=(show g2.ρ[id]?=ρ[id]? from this)
    rw [f1,hρ] at this;simpa using this
   subst this
   obtain ⟨h6,_⟩:=h4.setLp (st':=st) (r':={ r2 with state:=if jump.isNone then .ready else .done,pending:=jump }) g0 f1 f2 ⟨rfl,rfl,rfl,rfl⟩ (gst r2)
   refine ⟨_,_,run_endRound jump f2,g2.ρ,by rw [gb],?_,?_⟩
   ·rw [gH];exact HR.rd h6.toHR
   rw [gH];exact h6.hist.trans h6.noBoxes
  cases e with
  | normal=>exact key none .ready h5.2.1 h5.2.2 h5.1 (λr=>⟨rfl,rfl⟩)
  | ret=>exact key (some .ret) (.done .ret) h5.2.1 h5.2.2 h5.1 (λr=>⟨rfl,rfl⟩)
  | exit j=>exact key (some (.exit j)) (.done (.exit j)) h5.2.1 h5.2.2 h5.1 (λr=>⟨rfl,rfl⟩)
  | _=>exact h5.elim
 | _=>exact h2.elim
end
end Go.Eng

namespace Go.Eng
open Go
section
variable {H H' H'':List HO}
theorem HP.append:∀ {a b:List ZaS},HP H (a++b)↔HP H a/\HP H b/\∀ i∈a,∀ j∈b,∀ id,Occ i id->¬ Occ j id
 | [],b=>by simp [HP]
 | i::a,b=>by
  rw [Zo,HP,HP,HP.append]
  constructor
  ·rintro ⟨h1,h2,h3,h4,h5⟩
   refine ⟨⟨h1,λid ho j hj=>h2 id ho j (by simp [hj]),h3⟩,h4,λx hx j hj id hxo=>?_⟩
   rcases List.mem_cons.1 hx with rfl|hx
   ·exact h2 id hxo j (by simp [hj])
   exact h5 x hx j hj id hxo
  rintro ⟨⟨h1,h2,h3⟩,h4,h5⟩
  refine ⟨h1,λid ho j hj=>?_,h3,h4,λx hx=>h5 x (by simp [hx])⟩
  rcases List.mem_append.1 hj with hj|hj
  ·exact h2 id ho j hj
  exact h5 i (by simp) j hj id ho
theorem HP.now {items:List ZaS}(h:HP H items):HP H items:=h
structure Fp (H H':List HO) (fp fp':List ZaS):Prop where
 size:H.length<=H'.length
 same:∀ id,id<H.length->(∀ i∈fp,¬ Occ i id)->H'[id]?=H[id]?
 now:HP H' fp'
 occ:∀ i'∈fp',∀ id,Occ i' id->(∃ i∈fp,Occ i id)∨H.length<=id
theorem Fp.refl {fp:List ZaS}(h:HP H fp):Fp H H fp fp:=⟨Nat.le_refl _,λ_ _ _=>rfl,h,λi hi id ho=>.inl ⟨i,hi,ho⟩⟩
theorem Fp.trans {a b c:List ZaS}(h:Fp H H' a b)(h':Fp H' H'' b c):Fp H H'' a c :=
 {size:=Nat.le_trans h.size h'.size
  same:=λid hlt hn=>by
   rw [h'.same id (Nat.lt_of_lt_of_le hlt h.size) (λi hi ho=>?_),h.same id hlt hn]
   rcases h.occ i hi id ho with ⟨j,hj,hjo⟩|hge
   ·exact hn j hj hjo
   omega
  now:=h'.now
  occ:=λi hi id ho=>by
   rcases h'.occ i hi id ho with ⟨j,hj,hjo⟩|hge
   ·exact h.occ j hj id hjo
   right;have:=h.size;omega }
theorem Fp.rest {fp fp' rest:List ZaS}(h:HP H (fp++rest))(hf:Fp H H' fp fp'):HP H' (fp'++rest):=by
 obtain ⟨h1,h2,h3⟩:=HP.append.1 h
 refine HP.append.2 ⟨hf.now,h2.same λj hj id ho=>hf.same id ((h2.lies j hj).lt id ho) (λi hi hio=>h3 i hi j hj id hio ho),λi' hi' j hj id hio hjo=>?_⟩
 rcases hf.occ i' hi' id hio with ⟨i,hi,ho⟩|hge
 ·exact h3 i hi j hj id ho hjo
 have:=(h2.lies j hj).lt id hjo;omega
theorem HP.swap {a b:List ZaS}(h:HP H (a++b)):HP H (b++a):=by
 obtain ⟨h1,h2,h3⟩:=HP.append.1 h
 exact HP.append.2 ⟨h2,h1,λi hi j hj id ho hj'=>h3 j hj i hi id hj' ho⟩
theorem Fp.beside {own fp fp':List ZaS}(h:HP H (own++fp))(hf:Fp H H' fp fp'):HP H' (own++fp'):=(hf.rest h.swap).swap
theorem Fp.more {fp fp' rest:List ZaS}(h:HP H (fp++rest))(hf:Fp H H' fp fp'):Fp H H' (fp++rest) (fp'++rest):=
 {size:=hf.size
  same:=λid hlt hn=>hf.same id hlt λi hi=>hn i (by simp [hi])
  now:=hf.rest h
  occ:=λi hi id ho=>by
   rcases List.mem_append.1 hi with hi|hi
   ·rcases hf.occ i hi id ho with ⟨j,hj,hjo⟩|hge
    ·exact .inl ⟨j,by simp [hj],hjo⟩
    exact .inr hge
   exact .inl ⟨i,by simp [hi],ho⟩ }
end
section
variable {P:Program} {n:Nat} {s:St}
theorem Zd7:∀ {xs:List AV},Zai xs=true->Zai (weakL xs)=true
 | [],_=>rfl
 | x::xs,h=>by
  simp only [Zai,Ze] at h
  simp only [weakL,Zai,Ze]
  refine ⟨?_,Zd7 h.2⟩
  cases x<;>simp_all [weak1,Zcx]
theorem Rel.weakC {k:K0}{g:G}{a:Act}{w:World}(h:Rel k n g s a w){id:Nat}{cs:List AV}(hH:s.H[id]?=some (.cells cs)):Rel k n g ⟨s.fr,s.bx,s.H.set id (.cells (weakL cs))⟩ a w:=by
 have hget:=getElem?_set' (y:=HO.cells (weakL cs)) hH
 have hl:ZaB (cx k g s.H w) (cx k g (s.H.set id (.cells (weakL cs))) w):=
  {stay:=λa x ho hc=>by
    refine ⟨hc,ho.1,ho.2.1,λj hj=>?_⟩
    obtain ⟨sz,ver,rows,h1,h2⟩:=ho.2.2 j hj
    refine ⟨sz,ver,rows,?_,h2⟩
    rw [hget,ZZ (λe=>by subst e;rw [hH] at h1;cases h1)]
    exact h1
   arr:=λj sz ver frz rows e=>by
    have e':s.H[j]?=some (.arr sz ver frz rows):=e
    refine ⟨ver,frz,rows,?_,Nat.le_refl _,λ_=>⟨Nat.le_refl _,rfl,λb vs _ hb=>⟨vs,hb,rfl⟩⟩⟩
    show (s.H.set id _)[j]?=_
    rw [hget,ZZ (λe1=>by subst e1;rw [hH] at e';cases e')];exact e'
   cells:=λj cs' e=>by
    have e':s.H[j]?=some (.cells cs'):=e
    refine ⟨?_,rfl⟩
    by_cases hj:id=j
    ·exact ⟨weakL cs,by show (s.H.set id _)[j]?=_;rw [hget,Z0 hj]⟩
    exact ⟨cs',by show (s.H.set id _)[j]?=_;rw [hget,ZZ hj];exact e'⟩
   lp:=λj L fr st e=>by
    have e':s.H[j]?=some (.lp L fr st):=e
    refine ⟨⟨st,?_⟩,rfl⟩
    show (s.H.set id _)[j]?=_
    rw [hget,ZZ (λe1=>by subst e1;rw [hH] at e';cases e')];exact e' }
 exact
  {h with
   slots:=λt=>ZaH hl (λ_ _ e=>e) (h.tops t) (h.slots t)
   boxes:=λt cs e=>let ⟨b,hb,hr⟩:=h.boxes t cs e; ⟨b,hb,hr.later hl λ_ hb=>hb⟩
   heap:=λj o e=>by
    simp only [hget] at e
    by_cases hj:id=j
    ·subst hj
     simp only [Z1,ZU] at e
     subst e
     obtain ⟨b,hb,h1,vs,h2,h3⟩:=h.heap id _ hH
     exact ⟨b,hb,Zd7 h1,vs,h2,VRL.later hl _ _ (Zak (Zd7 h1)) h3.weakL⟩
    simp only [hj,ZY] at e
    obtain ⟨b,hb,hr⟩:=h.heap j o e
    exact ⟨b,hb,hr.later hl λ_ hb=>hb⟩
   len:=by simp [h.len]
   hist:=h.hist.trans hl }
theorem ZfU {f:Nat}{F:IFn}(hk:chkF P f F=true){args:List AV}{H:List HO}{r:AV}(K:List HO->Prop)(hl:args.length=F.nargs)(hno:noLocL args=true)(hr:Zaw r=true)
  (h:vc P F.nt F.body (endQ λs'=>∃ xs,rawL s' F.res=some xs/\Zbr xs=r/\K s'.H) ⟨Zdd args 0,[],H⟩):∃ H',ZbR P f args H r H'/\K H':=by
 obtain ⟨e,s',h1,h2⟩:=vcd _ h
 have key:(∃ xs,rawL s' F.res=some xs/\Zbr xs=r/\K s'.H)->(e=.normal∨e=.ret)->∃ H',ZbR P f args H r H'/\K H':=by
  rintro ⟨xs,x1,x2,x3⟩ he
  refine ⟨s'.H,ZgZ hk hl hno hr (Zao _ _ _ (Zby _ (λe1 s1 q=>?_) h1)),x3⟩
  obtain ⟨q1,q2⟩:=q
  subst q1 q2
  rcases he with rfl|rfl
  ·exact ⟨xs,x1,x2,rfl⟩
  exact ⟨xs,x1,x2,rfl⟩
 cases e with
 | normal=>exact key h2 (.inl rfl)
 | ret=>exact key h2 (.inr rfl)
 | _=>exact h2.elim
theorem Zmf {f:Nat}{F:IFn}(hk:chkF P f F=true){args:List AV}{H:List HO}(K:AV->List HO->Prop)(hK:∀ r H,K r H->Zaw r=true)(hl:args.length=F.nargs)(hno:noLocL args=true)
  (h:vc P F.nt F.body (endQ λs'=>∃ xs,rawL s' F.res=some xs/\K (Zbr xs) s'.H) ⟨Zdd args 0,[],H⟩):∃ r H',ZbR P f args H r H'/\K r H':=by
 obtain ⟨e,s',h1,h2⟩:=vcd _ h
 have key:(∃ xs,rawL s' F.res=some xs/\K (Zbr xs) s'.H)->(e=.normal∨e=.ret)->∃ r H',ZbR P f args H r H'/\K r H':=by
  rintro ⟨xs,x1,x3⟩ he
  refine ⟨Zbr xs,s'.H,ZgZ hk hl hno (hK _ _ x3) (Zao _ _ _ (Zby _ (λe1 s1 q=>?_) h1)),x3⟩
  obtain ⟨q1,q2⟩:=q
  subst q1 q2
  rcases he with rfl|rfl
  ·exact ⟨xs,x1,rfl,rfl⟩
  exact ⟨xs,x1,rfl,rfl⟩
 cases e with
 | normal=>exact key h2 (.inl rfl)
 | ret=>exact key h2 (.inr rfl)
 | _=>exact h2.elim
def Zmi (H:List HO)(id:Nat):List HO:=match H[id]? with
 | some (.cells cs)=>H.set id (.cells (weakL cs))
 | _=>H
def weakH (ids:List Nat)(H:List HO):List HO:=ids.foldl Zmi H
def wS (ids:List Nat)(s:St):St:=⟨s.fr,s.bx,weakH ids s.H⟩
theorem Rel.weakH {k:K0}{g:G}{a:Act}{w:World}:∀ (ids:List Nat) {s:St},Rel k n g s a w->Rel k n g (wS ids s) a w
 | [],s,h=>h
 | id::ids,s,h=>by
  have h1:Rel k n g ⟨s.fr,s.bx,Zmi s.H id⟩ a w:=by
   unfold Zmi
   split
   ·rename_i cs hH;exact h.weakC hH
   exact h
  exact Rel.weakH ids h1
theorem EvI.weak {ic:IC}{Q:Exit->St->Prop}(ids:List Nat)(h:EvI P n ic s (λe s'=>Q e (wS ids s'))):EvI P n ic s Q:=λc hc k g a w hr =>
 wpIn_mono (h c hc k g a w hr) λe a' w' ⟨s',g',h1,h2⟩=>⟨wS ids s',g',h1.weakH ids,h2⟩
theorem Zoh {Q:Exit->St->Prop}{S:St}{st:LS}(h:outQ Q S st):∃ e,outQ (isQ e S) S st/\Q e S:=by
 cases st with
 | ready=>exact ⟨.normal,⟨rfl,rfl⟩,h⟩
 | busy=>exact h.elim
 | dead=>exact h.elim
 | mp=>exact h.elim
 | mps=>exact h.elim
 | it=>exact h.elim
 | itd=>exact h.elim
 | done c =>
  cases c with
  | ret=>exact ⟨.ret,⟨rfl,rfl⟩,h⟩
  | exit id=>exact ⟨.exit id,⟨rfl,rfl⟩,h⟩
  | _=>exact h.elim
def lcOf (P:Program)(n:Nat)(ps:List Nat)(ia ib:IC):LC:=⟨ps,n,λa b=>chkC P n a ia=true/\chkC P n b ib=true,false⟩
theorem Zmn {x:IX}{ps:List Nat}{ia ib:IC}{Q:Exit->St->Prop}{gf:Nat}{cap:List AV}(fr0:List (Nat×AV))(hfr:FrOK s.fr fr0)(hx:ev s.fr x=.fn gf [] cap)
  (hcall:∃ args H1 r H2 st,frzL (s.H++[.lp (lcOf P n ps ia ib) fr0 .ready]) (.yl s.H.length::cap)=some (args,H1)/\ZbR P gf args H1 r H2/\H2[s.H.length]?=some (.lp (lcOf P n ps ia ib) fr0 st) ∧
    outQ Q ⟨s.fr,s.bx,H2.set s.H.length (.lp (lcOf P n ps ia ib) fr0 .dead)⟩ st):vc P n (.rangeF x ps ia ib) Q s:=by
 obtain ⟨args,H1,r,H2,st,h1,h2,h3,h4⟩:=hcall
 obtain ⟨e,h5,h6⟩:=Zoh h4
 exact ⟨e,_,EvI.rangeF fr0 hfr hx (L:=lcOf P n ps ia ib) rfl (λ_=>⟨args,H1,r,H2,st,h1,h2,h3,h5⟩),h6⟩
theorem Zmh {id:Nat}{args:List AV}{H:List HO}{ps:List Nat}{fr0:List (Nat×AV)}{ia ib:IC}(b:Bool)(K:List HO->Prop)(hH:H[id]?=some (.lp (lcOf P n ps ia ib) fr0 .ready))(hps:args.length=ps.length)(hlt:∀ t∈ps,t<n)
  (hno:noLocL args=true)
  (h:vc P n ia (Zoj λs1=>s1.H[id]?=some (.lp (lcOf P n ps ia ib) fr0 .ready)/\vc P n ib (λe s2=>∃ H',Zlj id (lcOf P n ps ia ib) fr0 b H' e s2/\K H') ⟨s1.fr,s1.bx,s1.H.set id (.lp (lcOf P n ps ia ib) fr0 .busy)⟩) ⟨Zgn fr0 ps args,[],H⟩) :
  ∃ H',Zk0 P id args H b H'/\K H':=by
 obtain ⟨e1,s1,h1,rfl,hH1,h2⟩:=vcd _ h
 obtain ⟨e2,s2,h3,H',h4,h5⟩:=vcd _ h2
 refine ⟨H',Znn (L:=lcOf P n ps ia ib) hH hps hlt hno (λa b h=>h) (ia:=ia) (ib:=ib) ?_,h5⟩
 refine (Zao _ _ _ h1).mono λe s ⟨x,y⟩=>?_
 subst x y
 refine ⟨hH1,(Zao _ _ _ h3).mono λe s ⟨x,y⟩=>?_⟩
 subst x y
 exact h4
theorem Znv {d:Option Nat}{fx:IX}{xs:List IX}{id:Nat}{ys args:List AV}{b:Bool}{H H1 H':List HO}(hs:s.H=H)(hf:ev s.fr fx=.yl id)(hy:xs.map (ev s.fr)=ys)(hz:frzL H ys=some (args,H1))(hc:Zk0 P id args H1 b H') :
  Zaf P (.callY d fx xs) s ⟨putO s.fr d (.p (.bool b)),s.bx,H'⟩:=by
 subst hs hy
 exact ⟨id,args,H1,b,H',hf,hz,hc,rfl⟩
end
end Go.Eng

namespace Go.Eng
open Go
section
variable {H0 H H':List HO} {f0 items:List ZaS}
theorem Fp.step {k:Nat}{i i':ZaS}(h:Fp H0 H f0 items)(hk:items[k]?=some i)(hl:Lies H' i')(ho:∀ id,Occ i' id->Occ i id∨H.length<=id)
  (hs:∀ id,id<H.length->¬ Occ i id->H'[id]?=H[id]?) (hn:H.length<=H'.length):Fp H0 H' f0 (items.set k i'):=
 h.trans
  {size:=hn
   same:=λid hlt hno=>hs id hlt (hno i (List.mem_of_getElem? hk))
   now:=h.now.replace hk hl ho hs
   occ:=λx hx id hxo=>by
    rcases List.mem_or_eq_of_mem_set hx with hx|rfl
    ·exact .inl ⟨x,hx,hxo⟩
    rcases ho id hxo with h1|h1
    ·exact .inl ⟨i,List.mem_of_getElem? hk,h1⟩
    exact .inr h1 }
theorem Fp.new {i:ZaS}{o:HO}(h:Fp H0 H f0 items)(hl:Lies (H++[o]) i)(ho:∀ id,Occ i id->id=H.length):Fp H0 (H++[o]) f0 (i::items):=
 h.trans
  {size:=by simp
   same:=λid hlt _=>Zq hlt
   now:=(h.now.push o).cons hl (λid hi j hj hjo=>by
    have:=(h.now.lies j hj).lt id hjo
    have:=ho id hi
    omega)
   occ:=λx hx id hxo=>by
    rcases List.mem_cons.1 hx with rfl|hx
    ·exact .inr (by rw [ho id hxo];exact Nat.le_refl _)
    exact .inl ⟨x,hx,hxo⟩ }
theorem Fp.nilArr (h:Fp H0 H f0 items)(sz:Nat)(frz:Bool):Fp H0 H f0 (.arr (.p (.sl sz true [])) sz frz []::items):=
 h.trans
  {size:=Nat.le_refl _
   same:=λ_ _ _=>rfl
   now:=h.now.nilArr sz frz
   occ:=λx hx id hxo=>by
    rcases List.mem_cons.1 hx with rfl|hx
    ·obtain ⟨_,_,_,_,e⟩:=hxo;cases e
    exact .inl ⟨x,hx,hxo⟩ }
theorem Fp.pick (h:Fp H0 H f0 items)(ks:List Nat)(hn:Zj2 ks=true):Fp H0 H f0 (ks.filterMap λk=>items[k]?):=
 h.trans
  {size:=Nat.le_refl _
   same:=λ_ _ _=>rfl
   now:=h.now.pick ks hn
   occ:=λx hx id hxo=>by
    obtain ⟨m,_,hm⟩:=List.mem_filterMap.1 hx
    exact .inl ⟨x,List.mem_of_getElem? hm,hxo⟩ }
theorem Fp.get (h:Fp H0 H f0 items)(k:Nat){i:ZaS}(hk:items[k]?=some i):Lies H i:=h.now.get k hk
theorem Fp.app {α:Type}{k:Nat}{a:AV}{sz bytes:Nat}{frz:Bool}{l m r:List α}(enc:α->List PC)(hF:Fp H0 H f0 items)(hk:items[k]?=some (.arr a sz frz (l.map enc)))(h:appI bytes l m=some r) :
  ∃ a' H',appV H sz bytes a (m.map enc)=some (a',H')/\Fp H0 H' f0 (items.set k (.arr a' sz frz (r.map enc))):=by
 unfold appI at h
 split at h
 ·rename_i hb
  cases h
  rcases hF.get k hk with ⟨rfl,hl⟩|⟨id,ver,rfl,f,hf,hid⟩
  ·have hl0:l=[]:=by cases l with
    | nil=>rfl
    | cons x xs=>simp at hl
   subst hl0
   by_cases hm:m=[]
   ·subst hm
    refine ⟨.p (.sl sz true []),H,by simp [appV,ZhE],?_⟩
    exact hF.step hk (.inl ⟨rfl,rfl⟩) (λid ⟨_,_,_,_,e⟩=>by cases e) (λ_ _ _=>rfl) (Nat.le_refl _)
   refine ⟨.osl sz H.length 0 0 (0+m.length),H++[.arr sz 0 false ([]++m.map enc)],?_,?_⟩
   ·simp only [List.length_nil,ZQ] at hb
    simp [appV,hb,hm,ZhE]
   exact hF.step hk (.inr ⟨H.length,0,by simp,false,λ_=>rfl,by simp⟩) (λid ⟨_,_,_,_,e⟩=>by cases e;exact .inr (Nat.le_refl _)) (λid hlt _=>Zq hlt) (by simp)
  have hlt:=(List.getElem?_eq_some_iff.1 hid).1
  refine ⟨.osl sz id (ver+1) 0 (l.length+m.length),H.set id (.arr sz (ver+1) f (l.map enc++m.map enc)),?_,?_⟩
  ·simp only [appV,hid,ZE]
   rw [Z0 ⟨trivial,trivial,trivial,trivial,hb.1,hb.2,trivial⟩]
  refine hF.step hk (.inr ⟨id,ver+1,by simp,f,hf,by simp [hlt]⟩) (λid' ⟨_,_,_,_,e⟩=>by cases e;exact .inl ⟨sz,ver,0,_,rfl⟩) (λid' hl' ho=>?_) (by simp)
  rw [Zz]
  intro e;subst e;exact ho ⟨sz,ver,0,_,rfl⟩
 cases h
theorem Fp.setRow {α:Type}{k:Nat}{sz id ver:Nat}{l:List α}{i:Int}{e e':α}{off:Nat}{ps:List PC}{cs:List AV}{f:Bool}{a:AV}(enc:α->List PC)(hF:Fp H0 H f0 items)(hk:items[k]?=some (.arr a sz false (l.map enc)))
  (ha:a=.osl sz id ver 0 l.length) (hid:H[id]?=some (.arr sz ver f (l.map enc))) (hff:f=false) (h:idx l i=some e) (hu:unP cs=some ps) (hs:Zbd off ps (enc e)=some (enc e')) :
  ∃ H',(∀ bx,wrt bx H cs (.optr sz id ver (0+i.toNat) off)=some ⟨bx,H'⟩)/\Fp H0 H' f0 (items.set k (.arr a sz false ((l.set i.toNat e').map enc))):=by
 subst ha hff
 have h2:=(Zf7 enc h).2
 have hlt:=(List.getElem?_eq_some_iff.1 hid).1
 refine ⟨H.set id (.arr sz ver false ((l.map enc).set i.toNat (enc e'))),λbx=>?_,?_⟩
 ·simp only [wrt,hid,ZQ,and_self,Z1,h2,ZR,hu,hs,ZT]
 refine hF.step hk (.inr ⟨id,ver,by simp,false,λ_=>rfl,by simp [hlt,List.map_set]⟩) (λid' ⟨_,_,_,_,e⟩=>by cases e;exact .inl ⟨sz,ver,0,_,rfl⟩) (λid' hl' ho=>?_) (by simp)
 rw [Zz]
 intro e;subst e;exact ho ⟨sz,ver,0,_,rfl⟩
theorem Fp.frz {α:Type}{k:Nat}{a:AV}{sz:Nat}{frz:Bool}{l:List α}(enc:α->List PC)(hF:Fp H0 H f0 items)(hk:items[k]?=some (.arr a sz frz (l.map enc))) :
  ∃ H',frz1 H a=some (.p (.sl sz false (l.map enc)),H')/\frzV H a=some (.p (.sl sz false (l.map enc)),H')/\Fp H0 H' f0 (items.set k (.arr a sz true (l.map enc))):=by
 rcases hF.get k hk with ⟨rfl,hl⟩|⟨id,ver,rfl,f,hf,hid⟩
 ·refine ⟨H,by rw [hl];rfl,by rw [hl];rfl,?_⟩
  exact hF.step hk (.inl ⟨rfl,hl⟩) (λid ⟨_,_,_,_,e⟩=>by cases e) (λ_ _ _=>rfl) (Nat.le_refl _)
 have hlt:=(List.getElem?_eq_some_iff.1 hid).1
 have e1:frz1 H (.osl sz id ver 0 (l.map enc).length)=some (.p (.sl sz false (l.map enc)),H.set id (.arr sz ver true (l.map enc))):=by
  simp only [frz1,hid,and_self,Z1,sub,ZQ,Nat.le_refl,List.drop_zero,List.take_length,ZT]
 refine ⟨H.set id (.arr sz ver true (l.map enc)),e1,e1,?_⟩
 refine hF.step hk (.inr ⟨id,ver,by simp,true,by simp,by simp [hlt]⟩) (λid' ⟨_,_,_,_,e⟩=>by cases e;exact .inl ⟨sz,ver,0,_,rfl⟩) (λid' hl' ho=>?_) (by simp)
 rw [Zz]
 intro e;subst e;exact ho ⟨sz,ver,0,_,rfl⟩
theorem Fp.newCell (hF:Fp H0 H f0 items)(cs:List AV):∃ id H',id=H.length/\H'=H++[.cells cs]/\Fp H0 H' f0 (.cel id cs::items):=
 ⟨_,_,rfl,rfl,hF.new (by simp [Lies]) (λid e=>by cases e;rfl)⟩
theorem Fp.setCell {k id off:Nat}{cs vs cs':List AV}(hF:Fp H0 H f0 items)(hk:items[k]?=some (.cel id cs))(hs:Zbd off vs cs=some cs') :
  ∃ H',(∀ bx,wrt bx H vs (.ptr id off)=some ⟨bx,H'⟩)/\Fp H0 H' f0 (items.set k (.cel id cs')):=by
 have hid:H[id]?=some (.cells cs):=hF.get k hk
 have hlt:=(List.getElem?_eq_some_iff.1 hid).1
 refine ⟨H.set id (.cells cs'),λbx=>by simp [wrt,hid,hs],hF.step hk (by simp [Lies,hlt]) (λid' e=>.inl e) (λid' hl ho=>?_) (by simp)⟩
 rw [Zz]
 intro e;subst e;exact ho rfl
theorem ZnT {α:Type}{sz bytes:Nat}{m r:List α}(enc:α->List PC)(hF:Fp H0 H f0 items)(h:appI bytes ([]:List α) m=some r) :
  ∃ a' H',appV H sz bytes (.p (.sl sz true [])) (m.map enc)=some (a',H')/\Fp H0 H' f0 (.arr a' sz false (r.map enc)::items):=
 Fp.app (k:=0) (items:=.arr (.p (.sl sz true [])) sz false []::items) (l:=[]) enc (hF.nilArr sz false) rfl h
theorem Fp.elem {α:Type}{k:Nat}{a:AV}{sz:Nat}{frz:Bool}{l:List α}{i:Int}{e:α}(enc:α->List PC)(hF:Fp H0 H f0 items)(hk:items[k]?=some (.arr a sz frz (l.map enc)))(h:idx l i=some e) :
  ∃ id ver f,(frz=false->f=false)/\H[id]?=some (.arr sz ver f (l.map enc))/\a=.osl sz id ver 0 l.length/\∀ kk:IntKind,ZaA (.iaddrS sz) [a,.p (.int kk i)]=some (.optr sz id ver (0+i.toNat) 0):=hF.now.elem enc hk h
theorem Fp.len {α:Type}{k:Nat}{a:AV}{sz:Nat}{frz:Bool}{l:List α}(enc:α->List PC)(hF:Fp H0 H f0 items)(hk:items[k]?=some (.arr a sz frz (l.map enc))):ZaA .len [a]=some (.p (.int .i64 l.length)):=hF.now.len enc hk
theorem HP.callee {fp fp' rest:List ZaS}(h:HP H (fp++rest))(hf:Fp H H' fp fp'):HP H' (fp'++rest):=hf.rest h
theorem Fp.callee {fp fp' rest:List ZaS}(h:Fp H0 H f0 (fp++rest))(hf:Fp H H' fp fp'):Fp H0 H' f0 (fp'++rest):=h.trans (hf.more h.now)
end
end Go.Eng

namespace Go.Eng
open Go
def stAt (l:List LS)(e:Nat):LS:=l.getD e .dead
def Zg4 {V:Type}(body:V->Option (V×Nat))(s:V×Nat):Option ((V×Nat)×Bool):=
 if s.2=0 then (body s.1).map (λr=>(r,r.2==0)) else none
theorem Zks {V:Type}{body:V->Option (V×Nat)}{s:V×Nat}{r:(V×Nat)×Bool}(h:Zg4 body s=some r):s.2=0/\∃ q,body s.1=some q/\r=(q,q.2==0):=by
 unfold Zg4 at h
 split at h
 ·rename_i h0
  refine ⟨h0,?_⟩
  cases hb:body s.1 with
  | none=>rw [hb] at h;cases h
  | some q=>rw [hb] at h;exact ⟨q,rfl,by simpa using h.symm⟩
 cases h
section
variable {H0 H H':List HO} {f0 items own its its':List ZaS}
theorem Fp.tail (h:Fp H0 H f0 (own++its)):HP H its:=(HP.append.1 h.now).2.1
theorem Fp.callT (h:Fp H0 H f0 (own++its))(hf:Fp H H' its its'):Fp H0 H' f0 (own++its'):=by
 refine h.trans ?_
 exact
  {size:=hf.size
   same:=λid hlt hn=>hf.same id hlt λi hi=>hn i (by simp [hi])
   now:=hf.beside h.now
   occ:=λi hi id ho=>by
    rcases List.mem_append.1 hi with hi|hi
    ·exact .inl ⟨i,by simp [hi],ho⟩
    rcases hf.occ i hi id ho with ⟨j,hj,hjo⟩|hge
    ·exact .inl ⟨j,by simp [hj],hjo⟩
    exact .inr hge }
theorem HP.after {a b:List ZaS}(h:HP H a)(hf:Fp H H' a b):HP H' b:=hf.now
theorem Fp.setLp {k id:Nat}{L:LC}{fr:List (Nat×AV)}{st:LS}(hF:Fp H0 H f0 items)(hk:items[k]?=some (.lp id L fr st))(st':LS):Fp H0 (H.set id (.lp L fr st')) f0 (items.set k (.lp id L fr st')):=by
 have hid:H[id]?=some (.lp L fr st):=hF.get k hk
 have hlt:=(List.getElem?_eq_some_iff.1 hid).1
 refine hF.step hk (by simp [Lies,hlt]) (λid' e=>.inl e) (λid' hl ho=>?_) (by simp)
 rw [Zz]
 intro e;subst e;exact ho rfl
end
section
variable {P:Program} {n:Nat} {s:St} {H0:List HO} {f0 items:List ZaS}
theorem Zon {ib:IC}{Q:Exit->St->Prop}{k id:Nat}{L:LC}{fr0:List (Nat×AV)}(hF:Fp H0 s.H f0 items)(hk:items[k]?=some (.lp id L fr0 .ready))
  (h:∀ H6,Fp H0 H6 f0 (items.set k (.lp id L fr0 .busy))->vc P n ib Q ⟨s.fr,s.bx,H6⟩) :
  Exit.normal=.normal/\s.H[id]?=some (.lp L fr0 .ready)/\vc P n ib Q ⟨s.fr,s.bx,s.H.set id (.lp L fr0 .busy)⟩ :=
 ⟨rfl,hF.get k hk,h _ (hF.setLp hk .busy)⟩
def Zjd:Exit->Option (Bool×LS)
 | .normal=>some (true,.ready)
 | .ret=>some (false,.done .ret)
 | .exit j=>some (false,.done (.exit j))
 | _=>none
theorem Zof {K:List HO->Prop}{k id:Nat}{L:LC}{fr0:List (Nat×AV)}{e:Exit}{b:Bool}(st:LS)(hF:Fp H0 s.H f0 items)(hk:items[k]?=some (.lp id L fr0 .busy))(he:Zjd e=some (b,st))
  (h:∀ H6,Fp H0 H6 f0 (items.set k (.lp id L fr0 st))->K H6):∃ H',Zlj id L fr0 b H' e s/\K H':=by
 refine ⟨_,?_,h _ (hF.setLp hk st)⟩
 have hg:s.H[id]?=some (.lp L fr0 .busy):=hF.get k hk
 cases e with
 | normal=>simp only [Zjd,ZU,ZV] at he;obtain ⟨rfl,rfl⟩:=he;exact ⟨rfl,hg,rfl⟩
 | ret=>simp only [Zjd,ZU,ZV] at he;obtain ⟨rfl,rfl⟩:=he;exact ⟨rfl,hg,rfl⟩
 | exit j=>simp only [Zjd,ZU,ZV] at he;obtain ⟨rfl,rfl⟩:=he;exact ⟨rfl,hg,rfl⟩
 | _=>cases he
theorem ZmJ {Q:Exit->St->Prop}{S:St}{sts:List LS}{x k:Nat}{e:Exit}(hx:(x==k)=true)(he:(Zjd e).map (·.2)=some (stAt sts k))(h:Q e S):outQ Q S (stAt sts x):=by
 obtain rfl:=eq_of_beq hx
 cases e with
 | normal=>simp only [Zjd,ZT,ZU] at he;rw [← he];exact h
 | ret=>simp only [Zjd,ZT,ZU] at he;rw [← he];exact h
 | exit j=>simp only [Zjd,ZT,ZU] at he;rw [← he];exact h
 | _=>cases he
theorem Znp {x:IX}{ps:List Nat}{ia ib:IC}{Q:Exit->St->Prop}{gf:Nat}{cap:List AV}(fr0:List (Nat×AV))(hfr:FrOK s.fr fr0)(hx:ev s.fr x=.fn gf [] cap)
  (hfz:∀ H,frzL H (.yl s.H.length::cap)=some (.yl s.H.length::cap,H)) {capT cells0 rest:List ZaS} (hp:HP s.H (capT++(cells0++rest)))
  {σ:Type} (T:σ->List ZaS->Prop) (s0 s1:σ) (hT0:T s0 (cells0++[.lp s.H.length (lcOf P n ps ia ib) fr0 .ready]))
  (hit:∀ H its,T s0 its->HP H (capT++its)->∃ H' its',ZbR P gf (.yl s.H.length::cap) H (.tup []) H'/\T s1 its'/\Fp H H' (capT++its) (capT++its'))
  (hend:∀ its',T s1 its'->∃ cells' st,its'=cells'++[.lp s.H.length (lcOf P n ps ia ib) fr0 st]/\∀ H2,Fp s.H H2 (capT++(cells0++rest)) (capT++(cells'++rest))->outQ Q ⟨s.fr,s.bx,H2⟩ st) :
  vc P n (.rangeF x ps ia ib) Q s:=by
 have h1:Fp s.H (s.H++[.lp (lcOf P n ps ia ib) fr0 .ready]) (capT++(cells0++rest)) (.lp s.H.length (lcOf P n ps ia ib) fr0 .ready::(capT++(cells0++rest))):=
  (Fp.refl hp).new (by simp [Lies]) (λid e=>by cases e;rfl)
 have hperm:∀ {H:List HO} {a:ZaS} {u v w:List ZaS},HP H (a::(u++(v++w)))->HP H ((u++(v++[a]))++w):=by
  intro H a u v w h
  have h':HP H ([a]++(u++(v++w))):=h
  obtain ⟨ha,huvw,hd1⟩:=HP.append.1 h'
  obtain ⟨hu,hvw,hd2⟩:=HP.append.1 huvw
  obtain ⟨hv,hw,hd3⟩:=HP.append.1 hvw
  refine HP.append.2 ⟨HP.append.2 ⟨hu,HP.append.2 ⟨hv,ha,λi hi j hj id ho hjo=>?_⟩,λi hi j hj id ho hjo=>?_⟩,hw,λi hi j hj id ho hjo=>?_⟩
  ·exact hd1 j hj i (by simp [hi]) id hjo ho
  ·rcases List.mem_append.1 hj with hj|hj
   ·exact hd2 i hi j (by simp [hj]) id ho hjo
   exact hd1 j hj i (by simp [hi]) id hjo ho
  rcases List.mem_append.1 hi with hi|hi
  ·exact hd2 i hi j (by simp [hj]) id ho hjo
  rcases List.mem_append.1 hi with hi|hi
  ·exact hd3 i hi j hj id ho hjo
  exact hd1 i hi j (by simp [hj]) id ho hjo
 have h2:=hperm h1.now
 obtain ⟨H',its',hc,hT',hf⟩:=hit _ _ hT0 (HP.append.1 h2).1
 obtain ⟨cells',st,rfl,hq⟩:=hend its' hT'
 have h3:=hf.more h2
 have h4:HP H' ((capT++(cells'++[.lp s.H.length (lcOf P n ps ia ib) fr0 st]))++rest):=h3.now
 have hl:H'[s.H.length]?=some (.lp (lcOf P n ps ia ib) fr0 st):=h4.lies (.lp s.H.length (lcOf P n ps ia ib) fr0 st) (by simp)
 have hlt:=(List.getElem?_eq_some_iff.1 hl).1
 refine Zmn fr0 hfr hx ⟨_,_,_,H',st,hfz _,hc,hl,hq _ ?_⟩
 have hother:∀ i,i∈capT++(cells'++rest)->∀ id,Occ i id->id≠s.H.length:=by
  intro i hi id ho e
  subst e
  obtain ⟨ha,hb,hd⟩:=HP.append.1 h4
  obtain ⟨hc1,hc2,hd2⟩:=HP.append.1 ha
  obtain ⟨he1,he2,hd3⟩:=HP.append.1 hc2
  have hlo:Occ (.lp s.H.length (lcOf P n ps ia ib) fr0 st) s.H.length:=rfl
  rcases List.mem_append.1 hi with hi|hi
  ·exact hd2 i hi (.lp s.H.length (lcOf P n ps ia ib) fr0 st) (by simp) _ ho hlo
  rcases List.mem_append.1 hi with hi|hi
  ·exact hd3 i hi (.lp s.H.length (lcOf P n ps ia ib) fr0 st) (by simp) _ ho hlo
  exact hd (.lp s.H.length (lcOf P n ps ia ib) fr0 st) (by simp) i hi _ hlo ho
 have hbig:HP H' (capT++(cells'++rest)):=by
  obtain ⟨ha,hb,hd⟩:=HP.append.1 h4
  obtain ⟨hc1,hc2,hd2⟩:=HP.append.1 ha
  obtain ⟨he1,he2,hd3⟩:=HP.append.1 hc2
  refine HP.append.2 ⟨hc1,HP.append.2 ⟨he1,hb,λi hi j hj=>hd i (by simp [hi]) j hj⟩,λi hi j hj=>?_⟩
  rcases List.mem_append.1 hj with hj|hj
  ·exact hd2 i hi j (by simp [hj])
  exact hd i (by simp [hi]) j hj
 have hsz:s.H.length<H'.length:=hlt
 exact
  {size:=by simp;omega
   same:=λid hid hn=>by
    rw [Zz (by omega),h3.same id (by simp;omega) (λi hi ho=>?_),Zq hid]
    rcases List.mem_append.1 hi with hi|hi
    ·rcases List.mem_append.1 hi with hi|hi
     ·exact hn i (by simp [hi]) ho
     rcases List.mem_append.1 hi with hi|hi
     ·exact hn i (by simp [hi]) ho
     simp only [ZK] at hi;subst hi;have:s.H.length=id:=ho;omega
    exact hn i (by simp [hi]) ho
   now:=hbig.same λi hi id ho=>Zz (λe=>hother i hi id ho e.symm)
   occ:=λi hi id ho=>by
    by_cases hge:s.H.length<=id
    ·exact .inr hge
    have hmem:i∈(capT++(cells'++[.lp s.H.length (lcOf P n ps ia ib) fr0 st]))++rest:=by
     rcases List.mem_append.1 hi with hi|hi
     ·simp [hi]
     rcases List.mem_append.1 hi with hi|hi<;>simp [hi]
    rcases h3.occ i hmem id ho with ⟨j,hj,hjo⟩|h5
    ·refine .inl ⟨j,?_,hjo⟩
     rcases List.mem_append.1 hj with hj|hj
     ·rcases List.mem_append.1 hj with hj|hj
      ·simp [hj]
      rcases List.mem_append.1 hj with hj|hj
      ·simp [hj]
      simp only [ZK] at hj;subst hj;have:s.H.length=id:=hjo;omega
     simp [hj]
    simp at h5;omega }
theorem FrOK.nil {fr:List (Nat×AV)}:FrOK fr []:=trivial
theorem FrOK.cons {fr r:List (Nat×AV)}{t:Nat}{v:AV}(h1:Eng.get fr t=v)(h2:Zaw v=true)(h3:FrOK fr r):FrOK fr ((t,v)::r):=⟨h1,h2,h3⟩
theorem Zlo:rawL s []=some []:=rfl
theorem Zln {r:RV}{rs:List RV}{v:AV}{ys:List AV}(h:rawV s r=some v)(h2:rawL s rs=some ys):rawL s (r::rs)=some (v::ys):=by simp [rawL,h,h2]
theorem Zlm {t m id off:Nat}{isA:Bool}{cs c:List AV}{v:AV}(hp:get s.fr t=.ptr id off)(hl:Lies s.H (.cel id cs))(hs:sub off m cs=some c)(hm:mk isA c=some v):rawV s (.cell t m isA)=some v:=by
 have hl':s.H[id]?=some (.cells cs):=hl
 simp [rawV,hp,rd,hl',hs,hm]
theorem Zbs {x y:IX}{m:Nat}{v p:AV}{cs:List AV}{H H':List HO}(hcs:cellsOf v=cs)(hH:s.H=H)(hx:ev s.fr x=p)(hy:ev s.fr y=v)(hok:decide (cs.length=m)&&Zai cs=true)(hw:∀ bx,wrt bx H cs p=some ⟨bx,H'⟩) :
  Zaf P (.store x y m) s ⟨s.fr,s.bx,H'⟩:=by
 subst hcs
 exact Zc1 hH hx hy hok hw
end
end Go.Eng

namespace Go.Eng
open Go
theorem Zoi {α:Type}(n:Nat)(z:α)(l:List α)(h:l.length=n){m:List α}(e:m=(List.range n).map λi=>l.getD i z):m=l:=by
 subst e
 apply List.ext_getElem?
 intro i
 rw [Zx]
 by_cases hi:i<n
 ·rw [List.getElem?_range hi,Zv (by omega)]
  simp [Zp,Zv (show i<l.length by omega)]
 rw [Zw (l:=List.range n) (by simp;omega),Zw (by omega)];rfl
section
variable {P:Program} {n:Nat} {s:St}
theorem Zlb {x y:IX}{m:Nat}{s':St}(h:Zaf P (.store x y m) s s')(hl:Zi9 (ev s.fr x)=false):Zaf P (.storeH x y m) s s':=by
 simp only [Zaf,Zar] at h ⊢
 split at h
 ·rename_i hc;rw [Z0 ⟨hl,hc⟩];exact h
 cases h
end
end Go.Eng

namespace Go.Eng
open Go
theorem passC_nil' {fl:List Bool}{H:List HO}:ZfH fl H []=some ([],H):=rfl
theorem Zdi {b:Bool}{fl:List Bool}{H H1 H2:List HO}{x x':AV}{xs xs':List AV}(h1:Zhz b H x=some (x',H1))(h2:ZfH fl H1 xs=some (xs',H2)):ZfH (b::fl) H (x::xs)=some (x'::xs',H2):=by
 simp only [ZfH,List.headD_cons,List.tail_cons,h1,ZR,h2,ZT]
theorem ZfI {H:List HO}{c:AV}(h:Zaw c=true):Zhz true H c=some (c,H):=by simp [Zhz,h]
theorem ZjV {H H1:List HO}{c x:AV}(h:frz1 H c=some (x,H1)):Zhz false H c=some (x,H1):=by simpa [Zhz] using h
theorem ZjS {fl:List Bool}{H H':List HO}{cs cs':List AV}(h:ZfH fl H cs=some (cs',H')):Zh7 fl H (.agg cs)=some (.agg cs',H'):=by simp only [Zh7,h,ZT]
theorem ZdV {H H':List HO}{x x':AV}(h:frzV H x=some (x',H')):Zh7 [] H x=some (x',H'):=by rw [ZjR];exact h
theorem passL_nil' {fl:List (List Bool)}{H:List HO}:Zf4 fl H []=some ([],H):=rfl
theorem Zcw {b:List Bool}{fl:List (List Bool)}{H H1 H2:List HO}{x x':AV}{xs xs':List AV}(h1:Zh7 b H x=some (x',H1))(h2:Zf4 fl H1 xs=some (xs',H2)):Zf4 (b::fl) H (x::xs)=some (x'::xs',H2):=by
 simp only [Zf4,List.headD_cons,List.tail_cons,h1,ZR,h2,ZT]
theorem ZjW {H:List HO}{a:AV}{sz:Nat}{frz:Bool}{rows:List (List PC)}(h:Lies H (.arr a sz frz rows)):Zaw a=true:=by
 rcases Zlq h with rfl|⟨_,_,rfl⟩<;>rfl
section
variable {P:Program} {n:Nat} {s:St}
theorem Zld {d:Option Nat}{f:Nat}{xs:List IX}{ys args:List AV}{r:AV}{H H1 H':List HO}(hs:s.H=H)(hy:xs.map (ev s.fr)=ys)(fl:List (List Bool))(hf:Zf4 fl H ys=some (args,H1))(hc:ZbR P f args H1 r H'):Zaf P (.call d f xs) s ⟨putO s.fr d r,s.bx,H'⟩:=by
 subst hs hy
 exact ⟨args,H1,r,H',⟨fl,hf⟩,hc,rfl⟩
theorem ZkY {f:Nat}{F:IFn}(hk:chkF P f F=true){args:List AV}{H:List HO}(ids:List Nat)(K:AV->List HO->Prop)(hK:∀ r H,K r H->Zaw r=true)(hl:args.length=F.nargs)(hno:noLocL args=true)
  (h:vc P F.nt F.body (endQ λs'=>∃ xs,rawL (wS ids s') F.res=some xs/\K (Zbr xs) (weakH ids s'.H)) ⟨Zdd args 0,[],H⟩):∃ r H',ZbR P f args H r H'/\K r H':=by
 obtain ⟨e,s',h1,h2⟩:=vcd _ h
 have key:(∃ xs,rawL (wS ids s') F.res=some xs/\K (Zbr xs) (weakH ids s'.H))->(e=.normal∨e=.ret)->∃ r H',ZbR P f args H r H'/\K r H':=by
  rintro ⟨xs,x1,x3⟩ he
  refine ⟨Zbr xs,weakH ids s'.H,ZgZ hk hl hno (hK _ _ x3) (EvI.weak ids (Zao _ _ _ (Zby _ (λe1 s1 q=>?_) h1))),x3⟩
  obtain ⟨q1,q2⟩:=q
  subst q1 q2
  rcases he with rfl|rfl
  ·exact ⟨xs,x1,rfl,rfl⟩
  exact ⟨xs,x1,rfl,rfl⟩
 cases e with
 | normal=>exact key h2 (.inl rfl)
 | ret=>exact key h2 (.inr rfl)
 | _=>exact h2.elim
end
end Go.Eng
namespace Go.Eng
open Go
section
variable {P:Program} {s:St}
end
end Go.Eng

namespace Go.Eng
open Go Go.MapKept
abbrev Ent:=List (List Int×AV)
def ZhG (es:Ent)(ks:List Int):Option AV:=(es.find? (λp=>decide (p.1=ks))).map (·.2)
def mset (es:Ent)(ks:List Int)(v:AV):Ent:=match es with
 | []=>[(ks,v)]
 | p::r=>if p.1=ks then (ks,v)::r else p::mset r ks v
def keyA (kn:Nat)(ks:List Int):AV:=if kn=0 then .p (.int .i64 (ks.headD 0)) else .agg (ks.map λn=>.p (.int .i64 n))
def fEnt:Ent->List MapEntry->List Int->Nat->Option (Nat×Value)
 | p::es,e::ents,ks,i=>if p.1=ks then some (i,e.val) else fEnt es ents ks (i+1)
 | _,_,_,_=>none
theorem ZmZ {c:Cx}{kn:Nat}{ks:List Int}{v:Value}(h:VR c (keyA kn ks) v):v=keyV kn ks:=by
 unfold keyA at h
 unfold keyV
 split at h
 ·rename_i e;rw [Z0 e];exact ZbC h
 rename_i e
 rw [ZZ e]
 rw [VR] at h
 obtain ⟨vs,rfl,h⟩:=h
 congr 1
 have:vs=ks.map (Value.int .i64):=by
  clear e
  induction ks generalizing vs with
  | nil=>rw [ZJ,VRL] at h;exact h
  | cons x xs ih =>
   rw [ZI,VRL] at h
   obtain ⟨u,us,rfl,h1,h2⟩:=h
   rw [ZbC h1,ih us h2];rfl
 rw [this]
theorem Zjp {c:Cx}:∀ (ks:List Int),VRL c (ks.map λn=>.p (.int .i64 n)) (ks.map (Value.int .i64))
 | []=>by simp [VRL]
 | x::xs=>by rw [ZI,ZI,VRL];exact ⟨_,_,rfl,Zcc _ _,Zjp xs⟩
theorem Zgx:∀ (as bs:List Int),as.length=bs.length->∀ ks:List Bool,ks=as.map (λ_=>true) →
  Zbi ks (as.map λn=>.p (.int .i64 n)) (bs.map λn=>.p (.int .i64 n))=some (decide (as=bs))
 | [],[],_,ks,e=>by subst e;rfl
 | a::as,b::bs,h,ks,e=>by
  subst e
  have:=Zgx as bs (by simpa using h) _ rfl
  simp only [ZI,Zbi,Z1,this,ZT]
  congr 1
  by_cases h1:a=b<;>by_cases h2:as=bs<;>simp [h1,h2]
 | [],_::_,h,_,_=>by simp at h
 | _::_,[],h,_,_=>by simp at h
section
variable {P:Program}
theorem Zgv {w:World}{kk:IntKind}:∀ (es:Ent) (ents:List MapEntry) (ks:List Int) (i:Nat),ents.map (·.key)=es.map (λp=>keyV 0 p.1)->(∀ p∈es,p.1.length=1)->ks.length=1 →
  Instr.findNow (.int kk) (keyV 0 ks) ents i=some (fEnt es ents ks i)
 | [],[],ks,i,_,_,_=>rfl
 | p::es,e::ents,ks,i,h,hl,hk=>by
  simp only [ZI,Zn] at h
  obtain ⟨x,hx⟩:=List.length_eq_one_iff.1 hk
  obtain ⟨y,hy⟩:=List.length_eq_one_iff.1 (hl p (by simp))
  have ih:=Zgv (w:=w) (kk:=kk) es ents ks (i+1) h.2 (λq hq=>hl q (by simp [hq])) hk
  unfold Instr.findNow fEnt
  rw [h.1]
  subst hx
  rw [hy]
  simp only [keyV,Z1,List.headD_cons,Instr.sameNow]
  by_cases e1:y=x
  ·subst e1;simp
  have e2:(x==y)=false:=by simp [Ne.symm e1]
  have e3:¬ ([y]=[x]):=by simp [e1]
  rw [ZZ e3,e2]
  exact ih
 | [],_::_,_,_,h,_,_=>by simp at h
 | _::_,[],_,_,h,_,_=>by simp at h
theorem ZdK {w:World}{kt:TypeId}{kn:Nat}(h0:kn≠0){ks0:List Bool}(hq:eqOK P kt ks0=true)(hks:ks0.length=kn)(ht:∀ b∈ks0,b=true) :
  ∀ (es:Ent) (ents:List MapEntry) (ks:List Int) (i:Nat),ents.map (·.key)=es.map (λp=>keyV kn p.1)->(∀ p∈es,p.1.length=kn)->ks.length=kn →
  (Instr.findAsking kt (keyV kn ks) ents i).run P w=.ok (fEnt es ents ks i) w
 | [],[],ks,i,_,_,_=>rfl
 | p::es,e::ents,ks,i,h,hl,hk=>by
  simp only [ZI,Zn] at h
  have ih:=ZdK (w:=w) h0 hq hks ht es ents ks (i+1) h.2 (λq hq=>hl q (by simp [hq])) hk
  have hp:=hl p (by simp)
  have hks0:ks0=ks.map (λ_=>true):=by
   refine List.ext_getElem (by simp [hks,hk]) λj h1 h2=>?_
   simp [ht _ (List.getElem_mem h1)]
  have hrun:(Op.equal kt (keyV kn ks) (keyV kn p.1)).run P w=.ok (decide (ks=p.1)) w:=by
   simp only [keyV,ZZ h0]
   exact Ze3 (c:=⟨λ_=>True,w,[],[],noB⟩) hq (Zgx ks p.1 (by rw [hk,hp]) ks0 hks0) (Zjp ks) (Zjp p.1)
  unfold Instr.findAsking fEnt
  rw [h.1]
  simp only [Sem.run_bind,hrun,Result.andThen_ok]
  by_cases e1:p.1=ks
  ·rw [Z0 e1];simp [e1]
  have e2:¬ ks=p.1:=λe=>e1 e.symm
  rw [ZZ e1];simp only [e2,decide_false,Zf,ZY];exact ih
 | [],_::_,_,_,h,_,_=>by simp at h
 | _::_,[],_,_,h,_,_=>by simp at h
theorem ZhH {kt:TypeId}{kn:Nat}(h:ZkM P kt kn=true):(kn=0/\∃ kk,P.underlying kt=some (.int kk)) ∨
  (kn≠0/\∃ fs ks0,P.underlying kt=some (.struct fs)/\eqOK P kt ks0=true/\ks0.length=kn/\(∀ b∈ks0,b=true)/\Zb4 P 0 fs.toList ks0=true):=by
 unfold ZkM at h
 split at h
 ·rename_i kk hu;exact .inl ⟨by simpa using h,kk,hu⟩
 ·rename_i fs hu
  simp only [Ze,ZX] at h
  obtain ⟨⟨⟨h1,h2⟩,_⟩,h3⟩:=h
  refine .inr ⟨h2,fs,_,hu,h3,by simp [h1],by simp,?_⟩
  simp only [eqOK,Ze,hu] at h3
  exact h3.1.1
 cases h
theorem Zh0 {fs:Array Field}{a b:Value}:Instr.sameNow (.struct fs) a b=none:=by
 unfold Instr.sameNow;rfl
theorem Ze2 {w:World}{kt:TypeId}{kn:Nat}(h:ZkM P kt kn=true){es:Ent}{ents:List MapEntry}{ks:List Int}(he:ents.map (·.key)=es.map (λp=>keyV kn p.1))(hl:∀ p∈es,p.1.length=klen kn)(hk:ks.length=klen kn) :
  (Instr.findKey kt (keyV kn ks) ents).run P w=.ok (fEnt es ents ks 0) w:=by
 rcases ZhH h with ⟨rfl,kk,hu⟩|⟨h0,fs,ks0,hu,hq,hks,ht,_⟩
 ·unfold Instr.findKey
  simp only [Sem.run_bind,run_underlying hu,Result.andThen_ok,Zgv (w:=w) es ents ks 0 he hl hk]
  rfl
 have hkl:klen kn=kn:=by simp [klen,h0]
 rw [hkl] at hl hk
 have hask:=ZdK (w:=w) h0 hq hks ht es ents ks 0 he hl hk
 unfold Instr.findKey
 simp only [Sem.run_bind,run_underlying hu,Result.andThen_ok]
 cases ents with
 | nil =>
  cases es with
  | nil=>rfl
  | cons=>simp at he
 | cons e ents =>
  unfold Instr.findNow
  rw [Zh0]
  exact hask
theorem ZhS {w:World}{m:Nat}{b0:Bool}:∀ (fs:List Field) (ks0:List Bool) (off:Nat) (cs:Array Value) (ks:List Int),Zb4 P off fs ks0=true->(∀ b∈ks0,b=true)->cs.toList.drop off=ks.map (Value.int .i64)->ks.length=ks0.length →
  (forIn fs PUnit.unit λf (_:PUnit)=>(do
    if f.name ≠ "_" then
     let x ← part f.type cs f.offset
     Instr.checkKey b0 (m+1) f.type x
     pure (ForInStep.yield PUnit.unit)
    else pure (ForInStep.yield PUnit.unit):Sem _)).run P w=.ok PUnit.unit w
 | [],ks0,off,cs,ks,_,_,_,_=>rfl
 | f::fs,k::ks0,off,cs,x::ks,hf,ht,hc,hl=>by
  simp only [Zb4,Ze,Zg,ZX,beq_eq_false_iff_ne] at hf
  obtain ⟨⟨⟨hn,ho⟩,hk⟩,hf⟩:=hf
  obtain rfl:k=true:=ht k (by simp)
  have hxo:cs[f.offset]?=some (.int .i64 x):=by
   have:=congrArg (·[0]?) hc
   simpa [ho] using this
  have hx':cs.toList.drop (off+1)=ks.map (Value.int .i64):=by
   have:=congrArg List.tail hc
   simpa using this
  have ih:=ZhS (w:=w) (m:=m) (b0:=b0) fs ks0 (off+1) cs ks hf (λb hb=>ht b (by simp [hb])) hx' (by simpa using hl)
  cases hty:P.underlying f.type with
  | none=>simp [hty] at hk
  | some T =>
   cases T<;>simp [hty] at hk
   rename_i kk
   have hpl:P.plainKey f.type=true:=by simp [Program.plainKey,hty]
   have h1:=run_part_plain (P:=P) w hpl hxo
   simp only [List.forIn_cons,Sem.run_bind,hn,ne_eq,not_false_eq_true,Z1,h1,Result.andThen_ok,Instr.checkKey,run_underlying hty,Sem.run_pure]
   exact ih
 | _::_,[],_,_,_,hf,_,_,_=>by simp [Zb4] at hf
 | _::_,_::_,_,_,[],_,_,_,hl=>by simp at hl
theorem Zer {w:World}{kt:TypeId}{kn:Nat}(h:ZkM P kt kn=true){ks:List Int}(hk:ks.length=klen kn)(b:Bool)(m:Nat) :
  (Instr.checkKey b (m+2) kt (keyV kn ks)).run P w=.ok () w:=by
 rcases ZhH h with ⟨rfl,kk,hu⟩|⟨h0,fs,ks0,hu,hq,hks,ht,hfl⟩
 ·simp [Instr.checkKey,run_underlying hu,keyV]
 have hkl:ks.length=ks0.length:=by rw [hk,hks];simp [klen,h0]
 have:=ZhS (w:=w) (m:=m) (b0:=b) fs.toList ks0 0 (ks.map (Value.int .i64)).toArray ks hfl ht (by simp) hkl
 unfold Instr.checkKey
 simp only [Sem.run_bind,run_underlying hu,Result.andThen_ok,keyV,ZZ h0]
 rw [← Array.forIn_toList]
 simp only [ne_eq,ite_not,bind_pure_comp] at this ⊢
 rw [this]
 rfl
theorem ZnN {kn:Nat}{a b:List Int}(ha:a.length=klen kn)(hb:b.length=klen kn)(h:keyV kn a=keyV kn b):a=b:=by
 unfold keyV klen at *
 split at h
 ·rename_i e
  rw [Z0 e] at ha hb
  obtain ⟨x,rfl⟩:=List.length_eq_one_iff.1 ha
  obtain ⟨y,rfl⟩:=List.length_eq_one_iff.1 hb
  simpa using h
 simp only [Value.agg.injEq] at h
 have h2:=congrArg Array.toList h
 simp only [List.toList_toArray] at h2
 refine List.map_inj_right (λx y e=>?_) |>.1 h2
 simpa using e
theorem ZfA:∀ (ks:List Int) (n:Nat),((ks.map (Value.int .i64)).zip (ks.map (Value.int .i64))).all (λ(x,y)=>Instr.sameBits n x y)=true
 | [],_=>rfl
 | x::xs,n=>by
  simp only [ZI,List.zip_cons_cons,List.all_cons,Ze]
  exact ⟨by simp [Instr.sameBits],ZfA xs n⟩
theorem ZjB (kn:Nat)(ks:List Int)(n:Nat):Instr.sameBits (n+1) (keyV kn ks) (keyV kn ks)=true:=by
 unfold keyV
 split
 ·simp [Instr.sameBits]
 have:=ZfA ks n
 simp only [Instr.sameBits,beq_self_eq_true,Zi,List.toList_toArray]
 exact this
theorem ZjC {w:World}(kn:Nat)(ks:List Int):(Instr.keyThatStays (keyV kn ks) (keyV kn ks)).run P w=.ok (keyV kn ks) w:=by
 simp [Instr.keyThatStays,ZjB kn ks 9999]
theorem ZhO {c:Cx}:∀ {es:Ent} {ents:List MapEntry} {ks:List Int} {i:Nat},es.length=ents.length->fEnt es ents ks i=none->ZhG es ks=none/\(∀ p∈es,p.1≠ks)/\∀ v,mset es ks v=es++[(ks,v)]
 | [],[],ks,i,_,_=>⟨rfl,by simp,λ_=>rfl⟩
 | p::es,e::ents,ks,i,hl,h=>by
  unfold fEnt at h
  split at h
  ·cases h
  rename_i hne
  obtain ⟨h1,h2,h3⟩:=ZhO (c:=c) (es:=es) (ents:=ents) (by simpa using hl) h
  refine ⟨?_,?_,λv=>?_⟩
  ·simp only [ZhG,List.find?_cons,hne,decide_false] at h1 ⊢;exact h1
  ·intro q hq
   rcases List.mem_cons.1 hq with rfl|hq
   ·exact hne
   exact h2 q hq
  simp only [mset,ZZ hne,h3 v,Zo]
 | [],_::_,_,_,hl,_=>by simp at hl
 | _::_,[],_,_,hl,_=>by simp at hl
theorem ZhN {c:Cx}:∀ {es:Ent} {ents:List MapEntry} {ks:List Int} {i j:Nat} {u:Value},VRL c (es.map (·.2)) (ents.map (·.val))->fEnt es ents ks i=some (j,u) →
  ∃ x q e,ZhG es ks=some x/\VR c x u/\j=i+q/\es[q]?=some (ks,x)/\ents[q]?=some e/\∀ v,mset es ks v=es.set q (ks,v)
 | p::es,e::ents,ks,i,j,u,hv,h=>by
  simp only [ZI] at hv
  rw [VRL] at hv
  obtain ⟨u0,us,e1,hv1,hv2⟩:=hv
  simp only [Zn] at e1
  obtain ⟨rfl,rfl⟩:=e1
  unfold fEnt at h
  split at h
  ·rename_i hp
   simp only [ZU,ZV] at h
   obtain ⟨rfl,rfl⟩:=h
   refine ⟨p.2,0,e,?_,hv1,rfl,?_,rfl,λv=>?_⟩
   ·simp [ZhG,List.find?_cons,hp]
   ·simp [← hp]
   simp [mset,hp]
  rename_i hp
  obtain ⟨x,q,e',h1,h2,h3,h4,h5,h6⟩:=ZhN (es:=es) (ents:=ents) hv2 h
  refine ⟨x,q+1,e',?_,h2,by omega,by simpa using h4,by simpa using h5,λv=>?_⟩
  ·simp only [ZhG,List.find?_cons,hp,decide_false] at h1 ⊢;exact h1
  simp [mset,hp,h6 v]
 | [],_,_,_,_,_,_,h=>by simp [fEnt] at h
 | _::_,[],_,_,_,_,_,h=>by simp [fEnt] at h
theorem ZnG {kn:Nat}{es:Ent}{ks:List Int}{v:AV}(h:∀ p∈es,p.1.length=klen kn)(hk:ks.length=klen kn):∀ p∈mset es ks v,p.1.length=klen kn:=by
 induction es with
 | nil=>simpa [mset] using hk
 | cons p r ih =>
  unfold mset
  intro q hq
  split at hq
  ·rcases List.mem_cons.1 hq with rfl|hq
   ·exact hk
   exact h q (by simp [hq])
  rcases List.mem_cons.1 hq with rfl|hq
  ·exact h _ (by simp)
  exact ih (λp hp=>h p (by simp [hp])) q hq
theorem Zom {es:Ent}{ks:List Int}{v:AV}(h:Zai (es.map (·.2))=true)(hv:Zcx v=true):Zai ((mset es ks v).map (·.2))=true:=by
 induction es with
 | nil=>simp [mset,Zai,hv]
 | cons p r ih =>
  simp only [ZI,Zai,Ze] at h
  unfold mset
  split
  ·simp only [ZI,Zai,hv,h.2,Bool.and_self]
  simp only [ZI,Zai,h.1,ih h.2,Bool.and_self]
def mapL:LC:=⟨[],0,λ_ _=>True,true⟩
end
section
variable {P:Program} {k:K0} {n:Nat} {g:G} {s:St} {a:Act} {w:World}
theorem Rel.setMp (h:Rel k n g s a w){id l:Nat}{L:LC}{fr:List (Nat×AV)}{st st':LS}{es:Array MapEntry}{m:Nat}{o':Obj}(hH:s.H[id]?=some (.lp L fr st))(hρ:g.ρ[id]?=some l)(hr:w.heap[l]?=some (.map es m))
  (ho:ZaB (cx k g s.H w) (cx k g (s.H.set id (.lp L fr st')) (w.putObj l o'))->HoR (cx k g (s.H.set id (.lp L fr st')) (w.putObj l o')) l (.lp L fr st')) :
  Rel k n g ⟨s.fr,s.bx,s.H.set id (.lp L fr st')⟩ a (w.putObj l o'):=by
 have u:Off w (w.putObj l o') l:=.put _ (λvs e f h=>by rw [hr] at h;cases h)
 have hget:=getElem?_set' (y:=HO.lp L fr st') hH
 have hlt:l<w.heap.size:=(Array.getElem?_eq_some_iff.1 hr).1
 have hl:ZaB (cx k g s.H w) (cx k g (s.H.set id (.lp L fr st')) (w.putObj l o')):=
  {stay:=λa x ho hc=>by
    refine ⟨u.cell hc,ho.1,ho.2.1,λj hj=>?_⟩
    obtain ⟨sz,ver,rows,h1,h2⟩:=ho.2.2 j hj
    refine ⟨sz,ver,rows,?_,h2⟩
    rw [hget,ZZ (λe=>by subst e;rw [hH] at h1;cases h1)]
    exact h1
   arr:=λj sz ver frz rows e=>by
    have e':s.H[j]?=some (.arr sz ver frz rows):=e
    refine ⟨ver,frz,rows,?_,Nat.le_refl _,λ_=>⟨Nat.le_refl _,rfl,λb vs _ hb=>⟨vs,u.blk hb,rfl⟩⟩⟩
    show (s.H.set id _)[j]?=_
    rw [hget,ZZ (λe1=>by subst e1;rw [hH] at e';cases e')];exact e'
   cells:=λj cs e=>by
    have e':s.H[j]?=some (.cells cs):=e
    refine ⟨⟨cs,?_⟩,rfl⟩
    show (s.H.set id _)[j]?=_
    rw [hget,ZZ (λe1=>by subst e1;rw [hH] at e';cases e')];exact e'
   lp:=λj L' fr' st1 e=>by
    have e':s.H[j]?=some (.lp L' fr' st1):=e
    refine ⟨?_,rfl⟩
    by_cases hj:id=j
    ·subst hj
     rw [hH] at e'
     cases e'
     exact ⟨st',by show (s.H.set id _)[id]?=_;rw [hget,Z0 rfl]⟩
    exact ⟨st1,by show (s.H.set id _)[j]?=_;rw [hget,ZZ hj];exact e'⟩ }
 have hobj:∀ b,b≠l->∀ o,w.heap[b]?=some o->(w.putObj l o').heap[b]?=some o:=λb hb o ho=>(u.block b hb).trans ho
 exact
  {defers:=h.defers.mono λD _ hD=>hobj D (λe=>by subst e;rw [hr] at hD;cases hD) _ hD
   rnd:=λl' hl'=>by
    obtain ⟨r1,h1⟩:=h.rnd l' hl'
    exact ⟨r1,hobj l' (λe=>by subst e;rw [hr] at h1;cases h1) _ h1⟩
   tsz:=h.tsz
   slots:=λt=>ZaH hl (λ_ _ e=>e) (h.tops t) (h.slots t)
   tops:=h.tops
   boxes:=λt cs e=>let ⟨b,hb,hr'⟩:=h.boxes t cs e; ⟨b,hb,hr'.later hl (hobj b (λe=>by
    subst e;obtain ⟨_,vs,⟨et,hr'⟩,_⟩:=hr';rw [show w.heap[b]?=_ from hr'] at hr;cases hr))⟩
   boxed:=h.boxed
   heap:=λj o e=>by
    simp only [hget] at e
    by_cases hj:id=j
    ·subst hj
     simp only [Z1,ZU] at e
     subst e
     exact ⟨l,hρ,ho hl⟩
    simp only [hj,ZY] at e
    obtain ⟨b,hb,hr'⟩:=h.heap j o e
    exact ⟨b,hb,hr'.later hl (hobj b (λe=>hj (h.inj id j l hρ (by rw [← e];exact hb))))⟩
   len:=by simp [h.len]
   inj:=h.inj
   binj:=h.binj
   apart:=h.apart
   own:=h.own
   keep:=h.keep.off u (h.own id l hρ)
   hist:=h.hist.trans hl }
theorem Zmw {q:SpK}{s s':St}{d:Option Nat}{xs:List IX}{v:AV}{H':List HO}(hv:Zaw v=true)
  (h:∀ (k:K0) (n:Nat) (g:G) (t:St) (a:Act) (w:World) (o:Oper) (d:Option Nat) (ys:List IX),ys.map (ev t.fr)=xs.map (ev s.fr)->t.H=s.H->Rel k n g t a w->Zjh P n o d q ys=true->Did P k n ⟨Eng.putO t.fr d v,t.bx,H'⟩ a w o)
  (hs:s'=⟨Eng.putO s.fr d v,s.bx,H'⟩):Zaf P (.sp d q xs) s s':=⟨v,H',⟨hv,h⟩,hs⟩
theorem ZmM (h:Rel k n g s a w){X:List Operand}{xs:List IX}{ys:List AV}(hm:Zay X xs=true)(he:xs.map (ev s.fr)=ys):VRL (cx k g s.H w) ys (X.map a.eval):=by
 rw [← he];exact Zam h hm
theorem Znt {s s':St}{d:Option Nat}(kn:Nat)(hs:s'=⟨Eng.putO s.fr d (.map s.H.length),s.bx,s.H++[.lp mapL [] (.mp kn [])]⟩):Zaf P (.sp d .mkMap []) s s':=by
 refine Zmw rfl ?_ hs
 intro k n g t a w o d ys _ hH h hc
 rw [← hH]
 simp only [Zjh,Ze,ZX] at hc
 obtain ⟨⟨hd,hdn⟩,hc⟩:=hc
 split at hc
 ·rename_i ty hop
  have ho:HoR (cx k ⟨g.ρ++[w.heap.size],g.β⟩ (t.H++[.lp mapL [] (.mp kn [])]) (w.alloc (.map #[] 0))) w.heap.size (.lp mapL [] (.mp kn [])):=
   .inr ⟨rfl,rfl,(by simp),#[],0,World.alloc_heap_new w _,stamped_empty 0,rfl,(by simp [VRL])⟩
  obtain ⟨h1,hl⟩:=h.newObjG (o:=.lp mapL [] (.mp kn [])) (.map #[] 0) ho
  refine ⟨.map (some w.heap.size),w.alloc (.map #[] 0),⟨g.ρ++[w.heap.size],g.β⟩,.inl ?_,?_⟩
  ·simp [execOp,hop,Instr.makeMap]
  rw [hd]
  refine h1.putO hdn ?_ rfl
  rw [VR]
  refine ⟨mapL,[],.mp kn [],w.heap.size,?_,rfl,?_,rfl⟩
  ·show (t.H++[_])[t.H.length]?=_;simp
  show (g.ρ++[_])[t.H.length]?=_;rw [← h.len];simp
 cases hc
def mres (ok:Bool)(es:Ent)(ks:List Int)(zero:AV):AV:=if ok then .tup [(ZhG es ks).getD zero,.p (.bool (ZhG es ks).isSome)] else (ZhG es ks).getD zero
theorem Rel.theMp (h:Rel k n g s a w){id:Nat}{L:LC}{fr:List (Nat×AV)}{kn:Nat}{es:Ent}(hH:s.H[id]?=some (.lp L fr (.mp kn es))){v:Value}(hv:VR (cx k g s.H w) (.map id) v)(hn:L.n=0) :
  L.mpk=true/\∃ b,g.ρ[id]?=some b/\v=.map (some b)/\MpR (cx k g s.H w) b (.mp kn es):=by
 rw [VR] at hv
 obtain ⟨L',fr',st',b,h1,h2,h3,h4⟩:=hv
 have h1':s.H[id]?=some (.lp L' fr' st'):=h1
 rw [hH] at h1'
 cases h1'
 obtain ⟨b',hb',hq⟩:=h.heap id _ hH
 have h3':g.ρ[id]?=some b:=h3
 rw [h3'] at hb'
 cases hb'
 rcases hq with ⟨q,_⟩|⟨_,q⟩
 ·rw [h2] at q;cases q
 exact ⟨h2,b,h3',by rw [h4,mapV,Z0 hn],q⟩
theorem Zms {s s':St}{d:Option Nat}{xs:List IX}{id kn:Nat}{L:LC}{fr:List (Nat×AV)}{es:Ent}{ks:List Int}{ok:Bool}{zero r:AV}(hy:xs.map (ev s.fr)=[.map id,keyA kn ks])
  (hH:s.H[id]?=some (.lp L fr (.mp kn es))) (hk:ks.length=klen kn) (hr:r=mres ok es ks zero) (hno:Zaw r=true) (hs:s'=⟨Eng.putO s.fr d r,s.bx,s.H⟩) (hn:L.n=0:=by rfl):Zaf P (.sp d (.mapGet kn ok zero) xs) s s':=by
 refine Zmw hno ?_ hs
 intro k n g t a w o d ys hys hHt h hc
 rw [hy] at hys
 rw [← hHt] at hH ⊢
 simp only [Zjh,Ze,ZX] at hc
 obtain ⟨⟨hd,hdn⟩,hc⟩:=hc
 split at hc
 ·rename_i ty X Y ok' hop
  simp only [Ze,ZX] at hc
  obtain ⟨⟨rfl,hty⟩,hm⟩:=hc
  split at hty
  ·rename_i kt et hu
   simp only [Ze] at hty
   obtain ⟨hkey,hz⟩:=hty
   obtain ⟨u1,u2,e,v1,v2⟩:=Zdb (ZmM h hm hys)
   simp only [ZI,ZJ,Zn,ZW] at e
   have e2:=ZmZ v2
   obtain ⟨_,b,hb,e1,hok,hlen,ents,clock,q1,q2,q3,q4⟩:=h.theMp hH v1 hn
   have hz':∃ z,(zeroValue et).run P w=.ok z w/\VR (cx k g t.H w) zero z:=by
    split at hz
    ·rename_i i hi
     split at hz
     ·rename_i z hz0
      exact ⟨z,by simp [zeroValue,typeInfo,hi,hz0],(ZeV hz).1⟩
     cases hz
    cases hz
   obtain ⟨z,hz1,hz2⟩:=hz'
   have hgo:(getObj b).run P w=.ok (.map ents clock) w:=MapKept.run_getObj_map (w:=w) q1
   have hck:=Zer (w:=w) hkey hk ents.isEmpty 9998
   have hfk:=Ze2 (w:=w) hkey q3 hlen hk
   have hrun:∀ u:Value,u=(match fEnt es ents.toList ks 0 with
     | some (_,v)=>if ok then Value.tuple #[v,.bool true] else v
     | none=>if ok then Value.tuple #[z,.bool false] else z)->(execOp a.eval o).run P w=.ok (.value u) w:=by
    intro u hu'
    simp only [execOp,hop,e.1,e.2,e1,e2,Instr.lookup,Sem.run_bind,run_underlying hu,Result.andThen_ok,hgo,hck,hfk,Sem.run_pure]
    subst hu'
    cases hf:fEnt es ents.toList ks 0 with
    | none=>cases ok<;>simp [hz1]
    | some p=>cases ok<;>simp
   have hlen2:es.length=ents.toList.length:=by
    have:=congrArg List.length q3
    simpa using this.symm
   refine ⟨_,w,g,.inl (hrun _ rfl),?_⟩
   rw [hd]
   refine h.putO hdn ?_ (Zaj hno)
   subst hr
   cases hf:fEnt es ents.toList ks 0 with
   | none =>
    obtain ⟨m1,_,_⟩:=ZhO (c:=cx k g t.H w) hlen2 hf
    unfold mres
    rw [m1]
    cases ok
    ·exact hz2
    simp only [Z1]
    rw [VR]
    exact ⟨[z,.bool false],rfl,by rw [VRL];exact ⟨_,_,rfl,hz2,by rw [VRL];exact ⟨_,_,rfl,Zcm _,by rw [VRL]⟩⟩⟩
   | some p =>
    obtain ⟨j,u⟩:=p
    obtain ⟨x,q,e',m1,m2,_⟩:=ZhN q4 hf
    unfold mres
    rw [m1]
    cases ok
    ·exact m2
    simp only [Z1]
    rw [VR]
    exact ⟨[u,.bool true],rfl,by rw [VRL];exact ⟨_,_,rfl,m2,by rw [VRL];exact ⟨_,_,rfl,Zcm _,by rw [VRL]⟩⟩⟩
  cases hty
 cases hc
theorem Zni {c:Cx}:∀ {xs:List AV} {us:List Value} (q:Nat) {x:AV} {u:Value},VRL c xs us->VR c x u->VRL c (xs.set q x) (us.set q u)
 | [],us,q,x,u,h,_=>by rw [VRL] at h;subst h;simp [VRL]
 | y::ys,us,q,x,u,h,hx=>by
  rw [VRL] at h
  obtain ⟨v,vs,rfl,h1,h2⟩:=h
  cases q with
  | zero=>rw [List.set_cons_zero,List.set_cons_zero,VRL];exact ⟨_,_,rfl,hx,h2⟩
  | succ q=>rw [List.set_cons_succ,List.set_cons_succ,VRL];exact ⟨_,_,rfl,h1,Zni q h2 hx⟩
theorem Zi6 {α:Type}(f:α->α)(y:α)(es:Array α)(q:Nat)(hq:∀ e,es[q]?=some e->f e=y):(es.modify q f).toList=es.toList.set q y:=by
 apply List.ext_getElem?
 intro j
 rw [Zy,Array.getElem?_toList,Array.getElem?_modify,Array.getElem?_toList]
 by_cases e:q=j
 ·subst e
  simp only [Z1]
  by_cases hlt:q<es.size
  ·have:=hq es[q] (Zb hlt)
   simp [hlt,this]
  simp [hlt]
 simp [e]
theorem Zmq {s s':St}{xs:List IX}{id kn:Nat}{L:LC}{fr:List (Nat×AV)}{es:Ent}{ks:List Int}{v:AV}(hy:xs.map (ev s.fr)=[.map id,keyA kn ks,v])
  (hH:s.H[id]?=some (.lp L fr (.mp kn es))) (hk:ks.length=klen kn) (hok:Zcx v=true) (hs:s'=⟨s.fr,s.bx,s.H.set id (.lp L fr (.mp kn (mset es ks v)))⟩) (hn:L.n=0:=by rfl):Zaf P (.sp none (.mapSet kn) xs) s s':=by
 refine Zmw (v:=.any) (d:=none) rfl ?_ hs
 intro k n g t a w o d ys hys hHt h hc
 rw [hy] at hys
 rw [← hHt] at hH ⊢
 simp only [Zjh,Ze,ZX] at hc
 obtain ⟨⟨hd,hdn⟩,hc⟩:=hc
 have main:∀ (ty:TypeId) (X Y Z:Operand),((execOp a.eval o)=(do Instr.mapUpdate ty (a.eval X) (a.eval Y) (a.eval Z);pure .skip)) →
   ((match P.underlying ty with|some (.map kt _)=>ZkM P kt kn|_=>false)&&Zay [X,Y,Z] ys)=true->Did P k n ⟨Eng.putO t.fr d .any,t.bx,t.H.set id (.lp L fr (.mp kn (mset es ks v)))⟩ a w o:=by
  intro ty X Y Z hop hc
  simp only [Ze] at hc
  obtain ⟨hty,hm⟩:=hc
  split at hty
  ·rename_i kt et hu
   obtain ⟨u1,u2,u3,e,v1,v2,v3⟩:=ZfX (ZmM h hm hys)
   simp only [ZI,ZJ,Zn,ZW] at e
   have e2:=ZmZ v2
   obtain ⟨hmk,b,hb,e1,hokc,hlen,ents,clock,q1,q2,q3,q4⟩:=h.theMp hH v1 hn
   have q1':w.heap[b]?=some (.map ents clock):=q1
   have hgo:(getObj b).run P w=.ok (.map ents clock) w:=MapKept.run_getObj_map (w:=w) q1
   have hck:=Zer (w:=w) hty hk false 9998
   have hfk:=Ze2 (w:=w) hty q3 hlen hk
   have hlen2:es.length=ents.toList.length:=by
    have:=congrArg List.length q3
    simpa using this.symm
   have hlt:b<w.heap.size:=(Array.getElem?_eq_some_iff.1 q1').1
   have fin:∀ (ents':Array MapEntry) (clock':Nat),(execOp a.eval o).run P w=.ok .skip (w.putObj b (.map ents' clock'))->Stamped ents' clock'->ents'.toList.map (·.key)=(mset es ks v).map (λp=>keyV kn p.1) →
     VRL (cx k g t.H w) ((mset es ks v).map (·.2)) (ents'.toList.map (·.val))->Did P k n ⟨Eng.putO t.fr d .any,t.bx,t.H.set id (.lp L fr (.mp kn (mset es ks v)))⟩ a w o:=by
    intro ents' clock' hrun hst hkeys hvals
    have hokm:=Zom (ks:=ks) hokc hok
    have h1:=h.setMp (o':=.map ents' clock') (st':=.mp kn (mset es ks v)) hH hb q1' (λhl=>.inr ⟨hmk,hokm,ZnG hlen hk,ents',clock',World.putObj_heap_same hlt,hst,hkeys,VRL.later hl _ _ (Zak hokm) hvals⟩)
    refine ⟨undef,_,g,.inr ⟨hrun,rfl⟩,?_⟩
    rw [hd]
    exact h1.putO hdn (by simp [VR]) rfl
   cases hf:fEnt es ents.toList ks 0 with
   | none =>
    obtain ⟨_,m2,m3⟩:=ZhO (c:=cx k g t.H w) hlen2 hf
    refine fin (ents.push { key:=keyV kn ks,val:=u3,born:=clock }) (clock+1) ?_ (stamped_push q2 λx hx e3=>?_) ?_ ?_
    ·rw [hop]
     simp only [e.1,e.2.1,e.2.2,e1,e2,Instr.mapUpdate,Sem.run_bind,run_underlying hu,Result.andThen_ok,hgo,hck,hfk,hf,run_setObj_map _ q1',Sem.run_pure]
     rfl
    ·obtain ⟨i,hi,e4⟩:=List.getElem_of_mem hx
     have e5:(ents.toList.map (·.key))[i]?=some (keyV kn ks):=by rw [Zx,Zv hi,ZT,e4,e3]
     rw [q3,Zx] at e5
     cases e6:es[i]? with
     | none=>rw [e6] at e5;cases e5
     | some p =>
      rw [e6,ZT,ZU] at e5
      have hp:=List.mem_of_getElem? e6
      exact m2 p hp (ZnN (hlen p hp) hk e5)
    ·rw [m3];simp [q3]
    rw [m3]
    simp only [List.map_append,ZI,ZJ,Array.toList_push]
    exact Zd1 q4 (by rw [VRL];exact ⟨_,_,rfl,v3,by rw [VRL]⟩)
   | some p =>
    obtain ⟨j,u⟩:=p
    obtain ⟨x,q,e',m1,m2,m3,m4,m5,m6⟩:=ZhN q4 hf
    have hj:j=q:=by omega
    subst hj
    have m5':ents[j]?=some e':=by rw [← Array.getElem?_toList];exact m5
    have hkey:e'.key=keyV kn ks:=by
     have e5:(ents.toList.map (·.key))[j]?=some e'.key:=by rw [Zx,m5,ZT]
     rw [q3,Zx,m4,ZT,ZU] at e5
     exact e5.symm
    have hmod:(ents.modify j λe=>{ e with key:=keyV kn ks,val:=u3 }).toList=ents.toList.set j { e' with key:=keyV kn ks,val:=u3 } :=
     Zi6 _ _ _ _ (λe0 he0=>by rw [m5'] at he0;cases he0;rfl)
    refine fin (ents.modify j λe=>{ e with key:=keyV kn ks,val:=u3 }) clock ?_ (stamped_modify q2 _ _ (λ_ _=>rfl) (λe0 _ he0=>by rw [m5'] at he0;cases he0;exact hkey.symm)) ?_ ?_
    ·rw [hop]
     simp only [e.1,e.2.1,e.2.2,e1,e2,Instr.mapUpdate,Sem.run_bind,run_underlying hu,Result.andThen_ok,hgo,hck,hfk,hf,m5',ZT,Option.getD_some,hkey,ZjC,run_setObj_map _ q1',Sem.run_pure]
     rfl
    ·rw [hmod,m6,List.map_set,List.map_set,q3]
    rw [hmod,m6,List.map_set,List.map_set]
    exact Zni j q4 v3
  cases hty
 split at hc
 ·rename_i ty X Y Z hop
  exact main ty X Y Z (by simp [execOp,hop]) hc
 ·rename_i ty X Y Z hop
  exact main ty X Y Z (by simp [execOp,hop]) hc
 cases hc
end
end Go.Eng

namespace Go.Eng
open Go Go.MapKept
section
variable {P:Program} {k:K0} {n:Nat} {g:G} {s:St} {a:Act} {w:World}
def Zd8 {κ υ:Type}[DecidableEq κ](l:List (κ×υ))(x:κ):Option υ:=(l.find? (λp=>decide (p.1=x))).map (·.2)
def ZkH {κ υ:Type}[DecidableEq κ](l:List (κ×υ))(x:κ)(z:υ):υ:=(Zd8 l x).getD z
def mhas {κ υ:Type}[DecidableEq κ](l:List (κ×υ))(x:κ):Bool:=(Zd8 l x).isSome
def ZfL {κ υ:Type}[DecidableEq κ](l:List (κ×υ))(x:κ)(v:υ):List (κ×υ):=match l with
 | []=>[(x,v)]
 | p::r=>if p.1=x then (x,v)::r else p::ZfL r x v
def encE {κ υ:Type}(ke:κ->List Int)(ve:υ->AV)(l:List (κ×υ)):Ent:=l.map λp=>(ke p.1,ve p.2)
class KeyE (κ:Type) (kn:Nat) (ke:κ->List Int):Prop where
 len:∀ x,(ke x).length=klen kn
 inj:∀ x y,ke x=ke y->x=y
def ke1 (x:Int):List Int:=[x]
instance:KeyE Int 0 ke1:=⟨λ_=>rfl,λx y h=>by simpa [ke1] using h⟩
theorem ZmT {κ υ:Type}[DecidableEq κ]{kn:Nat}{ke:κ->List Int}(hk:KeyE κ kn ke)(ve:υ->AV)(l:List (κ×υ))(x:κ):ZhG (encE ke ve l) (ke x)=(Zd8 l x).map ve:=by
 induction l with
 | nil=>rfl
 | cons p r ih =>
  by_cases e:p.1=x
  ·simp [ZhG,Zd8,encE,e]
  have e2:¬ ke p.1=ke x:=λh=>e (hk.inj _ _ h)
  simp only [ZhG,Zd8,encE,ZI,List.find?_cons,e,e2,decide_false] at ih ⊢
  exact ih
theorem ZnH {κ υ:Type}[DecidableEq κ]{kn:Nat}{ke:κ->List Int}(hk:KeyE κ kn ke)(ve:υ->AV)(l:List (κ×υ))(x:κ)(v:υ):mset (encE ke ve l) (ke x) (ve v)=encE ke ve (ZfL l x v):=by
 induction l with
 | nil=>rfl
 | cons p r ih =>
  by_cases e:p.1=x
  ·simp [mset,ZfL,encE,e]
  have e2:¬ ke p.1=ke x:=λh=>e (hk.inj _ _ h)
  simp only [encE] at ih
  simp only [mset,ZfL,encE,ZI,e,e2,ZY,ih]
abbrev mpT (id kn:Nat) (es:Ent):ZaS:=.lp id mapL [] (.mp kn es)
theorem st_mkMap' {d:Nat}(kn:Nat){id:Nat}{H H':List HO}(hs:s.H=H)(hid:id=H.length)(hH:H'=H++[.lp mapL [] (.mp kn [])]) :
  Zaf P (.sp (some d) .mkMap []) s ⟨put s.fr d (.map id),s.bx,H'⟩:=by
 subst hs hid hH
 exact Znt kn rfl
theorem Zmr {κ υ:Type}[DecidableEq κ]{d:Nat}{xs:List IX}{id kn:Nat}{ke:κ->List Int}[hk:KeyE κ kn ke]{ve:υ->AV}{l:List (κ×υ)}{x:κ}{z:υ}{zero:AV}{H:List HO}{r:AV}(hs:s.H=H)(hy:xs.map (ev s.fr)=[.map id,keyA kn (ke x)])
  (hl:Lies H (mpT id kn (encE ke ve l))) (hz:zero=ve z) (hr:r=.tup [ve (ZkH l x z),.p (.bool (mhas l x))]) (hno:∀ v,Zaw (ve v)=true) :
  Zaf P (.sp (some d) (.mapGet kn true zero) xs) s ⟨put s.fr d r,s.bx,s.H⟩:=by
 subst hs
 refine Zms hy hl (hk.len x) (by rw [mres,ZmT hk];simp only [Z1];rw [hr,hz,ZkH,mhas];cases Zd8 l x<;>rfl) (by rw [hr];simp [Zaw,Zaw.noLocL,hno]) rfl
theorem Zn8 {κ υ:Type}[DecidableEq κ]{xs:List IX}{id kn:Nat}{ke:κ->List Int}[hk:KeyE κ kn ke]{ve:υ->AV}{l:List (κ×υ)}{x:κ}{v:υ}{y:AV}{H H':List HO}(hs:s.H=H)(hy:xs.map (ev s.fr)=[.map id,keyA kn (ke x),y])
  (hl:Lies H (mpT id kn (encE ke ve l))) (hv:y=ve v) (hok:Zcx y=true) (hH:H'=H.set id (.lp mapL [] (.mp kn (encE ke ve (ZfL l x v))))) :
  Zaf P (.sp none (.mapSet kn) xs) s ⟨s.fr,s.bx,H'⟩:=by
 subst hs hH
 refine Zmq hy hl (hk.len x) hok (by rw [hv,ZnH hk])
end
section
variable {H H0:List HO} {f0 items:List ZaS}
theorem Fp.newMp (hF:Fp H0 H f0 items)(kn:Nat):∃ id H',id=H.length/\H'=H++[.lp mapL [] (.mp kn [])]/\Fp H0 H' f0 (mpT id kn []::items):=
 ⟨_,_,rfl,rfl,hF.new (by simp [Lies]) (λid e=>by cases e;rfl)⟩
theorem ZlQ {s s0:St}(t:Nat){ts:List Nat}{a x:AV}{H1:List HO}(ht:t<1000000)(hs:s.H=H)(hb:get s.fr t=a)(hf:frzV H a=some (x,H1))
  (h:ZiX ts ⟨put s.fr t x,s.bx,H1⟩=some s0):ZiX (t::ts) s=some s0:=by
 subst hs hb
 simp only [ZiX,Z0 ht,hf,ZR,h]
theorem Fp.setMp (hF:Fp H0 H f0 items){k id kn:Nat}{es:Ent}(hk:items[k]?=some (mpT id kn es))(es':Ent) :
  ∃ H',H'=H.set id (.lp mapL [] (.mp kn es'))/\Fp H0 H' f0 (items.set k (mpT id kn es')):=by
 have hid:H[id]?=some (.lp mapL [] (.mp kn es)):=hF.get k hk
 have hlt:=(List.getElem?_eq_some_iff.1 hid).1
 refine ⟨_,rfl,hF.step hk (by simp [Lies,hlt]) (λid' e=>.inl e) (λid' hl ho=>?_) (by simp)⟩
 rw [Zz]
 intro e;subst e;exact ho rfl
end
theorem ZpP {P:Program}{n:Nat}{s:St}{fs:List Nat}{a:IC}{Q:Exit->St->Prop}(h:vc P n a (puQ fs Q) s):vc P n (.pu fs a) Q s:=h
end Go.Eng

namespace Go.Eng
open Go
def opAt (ops:List IOp)(m:Nat):Ins:=match ops[m]? with
 | some o=>o.i
 | none=>.newH 0 []
def okAt (ops:List IOp)(m:Nat)(s:St):Bool:=match ops[m]? with
 | some o=>bnOK o s.fr&&(match o.g with
  | none=>true
  | some (t,b)=>match get s.fr t with
   | .p (.bool b')=>b==b'
   | _=>false)
 | none=>false
def preB (ops:List IOp)(m:Nat)(s:St):Bool:=(opsF Zgs (ops.take m) s).isSome&&okAt ops m (opsD (ops.take m) s)
section
variable {P:Program} {n:Nat} {s s1 s2:St} {ops:List IOp} {keep:List Nat} {Q:Exit->St->Prop} {K:St->Prop}
theorem Z4.o0 (m:Nat)(hs:Zaf P (opAt ops m) (opsD (ops.take m) s) s1)(rest:Z4 P (ops.drop (m+1)) s1 s2)(hm:preB ops m s=true:=by kernel_rfl):Z4 P ops s s2:=by
 simp only [preB,Ze] at hm
 obtain ⟨h1,h2⟩:=hm
 refine Z4.chunk m h1 ?_
 unfold okAt at h2
 unfold opAt at hs
 cases ho:ops[m]? with
 | none=>rw [ho] at h2;cases h2
 | some o =>
  rw [ho] at h2 hs
  simp only [Ze] at h2 hs
  have hd:ops.drop m=o::ops.drop (m+1):=by
   obtain ⟨hlt,e⟩:=List.getElem?_eq_some_iff.1 ho
   rw [List.drop_eq_getElem_cons hlt,e]
  rw [hd]
  refine ⟨s1,?_,rest⟩
  have hbn:bnOK o (opsD (ops.take m) s).fr=true:=h2.1
  unfold AOp
  cases hg:o.g with
  | none=>exact ⟨hbn,hs⟩
  | some p =>
   obtain ⟨t,b⟩:=p
   rw [hg] at h2
   simp only at h2 ⊢
   have hx:∃ b',get (opsD (ops.take m) s).fr t=.p (.bool b')/\(b==b')=true:=by
    have h3:=h2.2
    split at h3
    ·rename_i b' hv;exact ⟨b',hv,h3⟩
    cases h3
   obtain ⟨b',hv,h3⟩:=hx
   rw [hv]
   have:=eq_of_beq h3
   subst this
   simp only [Z1]
   exact ⟨hbn,hs⟩
def AK (P:Program)(ops:List IOp)(k:Nat)(s s1:St):Prop:=Z4 P (ops.drop k) s s1
def segO (ops:List IOp)(k m:Nat):List IOp:=(ops.drop k).take m
def preK (ops:List IOp)(k m:Nat)(s:St):Bool:=preB (ops.drop k) m s
theorem Z4.o {k:Nat}(m:Nat)(hs:Zaf P (opAt ops (k+m)) (opsD (segO ops k m) s) s1)(rest:AK P ops (k+m+1) s1 s2)(hm:preK ops k m s=true:=by kernel_rfl):AK P ops k s s2:=by
 refine Z4.o0 (s1:=s1) m ?_ ?_ hm
 ·have:opAt (ops.drop k) m=opAt ops (k+m):=by unfold opAt;rw [Zu]
  rw [this];exact hs
 rw [List.drop_drop,← ZN];exact rest
def upd (s:St)(d:Nat)(r:AV):St:=⟨put s.fr d r,s.bx,s.H⟩
def updH (s:St)(d:Nat)(r:AV)(H:List HO):St:=⟨put s.fr d r,s.bx,H⟩
def updO (s:St)(d:Option Nat)(r:AV)(H:List HO):St:=⟨putO s.fr d r,s.bx,H⟩
theorem Z4.u {k d:Nat}{r:AV}(m:Nat)(hs:Zaf P (opAt ops (k+m)) (opsD (segO ops k m) s) ⟨put (opsD (segO ops k m) s).fr d r,(opsD (segO ops k m) s).bx,(opsD (segO ops k m) s).H⟩)(rest:AK P ops (k+m+1) (upd (opsD (segO ops k m) s) d r) s2)(hm:preK ops k m s=true:=by kernel_rfl):AK P ops k s s2:=Z4.o m hs rest hm
theorem Z4.h {k d:Nat}{r:AV}{H:List HO}(m:Nat)(hs:Zaf P (opAt ops (k+m)) (opsD (segO ops k m) s) ⟨put (opsD (segO ops k m) s).fr d r,(opsD (segO ops k m) s).bx,H⟩)(rest:AK P ops (k+m+1) (updH (opsD (segO ops k m) s) d r H) s2)(hm:preK ops k m s=true:=by kernel_rfl):AK P ops k s s2:=Z4.o m hs rest hm
theorem Z4.v {k:Nat}{d:Option Nat}{r:AV}{H:List HO}(m:Nat)(hs:Zaf P (opAt ops (k+m)) (opsD (segO ops k m) s) ⟨putO (opsD (segO ops k m) s).fr d r,(opsD (segO ops k m) s).bx,H⟩)(rest:AK P ops (k+m+1) (updO (opsD (segO ops k m) s) d r H) s2)(hm:preK ops k m s=true:=by kernel_rfl):AK P ops k s s2:=Z4.o m hs rest hm
theorem Z4.f {k:Nat}(h:(opsF Zgs (ops.drop k) s).isSome=true:=by kernel_rfl):AK P ops k s (opsD (ops.drop k) s):=ZjY h
theorem AK.z (h:AK P ops 0 s s1):Z4 P ops s s1:=h
def EP (P:Program)(ops:List IOp)(k:Nat)(s:St)(K:St->Prop):Prop:=∃ s1,AK P ops k s s1/\K s1
theorem EP.o {k:Nat}(m:Nat)(hs:Zaf P (opAt ops (k+m)) (opsD (segO ops k m) s) s1)(rest:EP P ops (k+m+1) s1 K)(hm:preK ops k m s=true:=by kernel_rfl):EP P ops k s K :=
 let ⟨s2,h1,h2⟩:=rest; ⟨s2,.o m hs h1 hm,h2⟩
theorem EP.u {k d:Nat}{r:AV}(m:Nat)(hs:Zaf P (opAt ops (k+m)) (opsD (segO ops k m) s) ⟨put (opsD (segO ops k m) s).fr d r,(opsD (segO ops k m) s).bx,(opsD (segO ops k m) s).H⟩)(rest:EP P ops (k+m+1) (upd (opsD (segO ops k m) s) d r) K)(hm:preK ops k m s=true:=by kernel_rfl):EP P ops k s K:=EP.o m hs rest hm
theorem EP.h {k d:Nat}{r:AV}{H:List HO}(m:Nat)(hs:Zaf P (opAt ops (k+m)) (opsD (segO ops k m) s) ⟨put (opsD (segO ops k m) s).fr d r,(opsD (segO ops k m) s).bx,H⟩)(rest:EP P ops (k+m+1) (updH (opsD (segO ops k m) s) d r H) K)(hm:preK ops k m s=true:=by kernel_rfl):EP P ops k s K:=EP.o m hs rest hm
theorem EP.v {k:Nat}{d:Option Nat}{r:AV}{H:List HO}(m:Nat)(hs:Zaf P (opAt ops (k+m)) (opsD (segO ops k m) s) ⟨putO (opsD (segO ops k m) s).fr d r,(opsD (segO ops k m) s).bx,H⟩)(rest:EP P ops (k+m+1) (updO (opsD (segO ops k m) s) d r H) K)(hm:preK ops k m s=true:=by kernel_rfl):EP P ops k s K:=EP.o m hs rest hm
theorem EP.f {k:Nat}(hk:K (opsD (ops.drop k) s))(h:(opsF Zgs (ops.drop k) s).isSome=true:=by kernel_rfl):EP P ops k s K:=⟨_,Z4.f h,hk⟩
theorem ZaY {d:Nat}{x:IX}{m:Nat}{isA:Bool}(h:Zaf P (.load d x m isA) s s1)(hl:Zi9 (ev s.fr x)=false:=by kernel_rfl):Zaf P (.loadH d x m isA) s s1:=by
 simp only [Zaf,Zar] at h ⊢
 rw [ZZ (by rw [hl];decide)]
 have:rd s.bx s.H m (ev s.fr x)=rd [] s.H m (ev s.fr x):=by
  cases he:ev s.fr x with
  | loc t o=>rw [he] at hl;simp [Zi9] at hl
  | _=>rfl
 rw [← this];exact h
theorem rg (h:AK P ops 0 s s1)(hq:Q .normal (ZcP keep s1)):vc P n (.reg ops keep) Q s:=⟨s1,h,hq⟩
theorem rq (h:AK P ops 0 s s1)(hq:Q .normal (ZcP keep s1))(hs:Zg9 s.fr ops=true:=by kernel_rfl):vc P n (.regD ops keep) Q s:=⟨hs,s1,h,hq⟩
theorem rgS (S:St)(h:AK P ops 0 s s1)(hk:ZcP keep s1=S)(hq:Q .normal S):vc P n (.reg ops keep) Q s:=⟨s1,h,hk ▸ hq⟩
theorem rqS (S:St)(h:AK P ops 0 s s1)(hk:ZcP keep s1=S)(hq:Q .normal S)(hs:Zg9 s.fr ops=true:=by kernel_rfl):vc P n (.regD ops keep) Q s:=⟨hs,s1,h,hk ▸ hq⟩
theorem rgX (S:St)(h:EP P ops 0 s (λs1=>ZcP keep s1=S))(hq:Q .normal S):vc P n (.reg ops keep) Q s:=let ⟨s1,h1,h2⟩:=h; ⟨s1,h1,h2 ▸ hq⟩
theorem rqX (S:St)(h:EP P ops 0 s (λs1=>ZcP keep s1=S))(hq:Q .normal S)(hs:Zg9 s.fr ops=true:=by kernel_rfl):vc P n (.regD ops keep) Q s:=let ⟨s1,h1,h2⟩:=h; ⟨hs,s1,h1,h2 ▸ hq⟩
theorem rgR (R:St->Prop)(h:EP P ops 0 s (λs1=>R (ZcP keep s1)))(hq:∀ S,R S->Q .normal S):vc P n (.reg ops keep) Q s:=let ⟨s1,h1,h2⟩:=h; ⟨s1,h1,hq _ h2⟩
theorem rqR (R:St->Prop)(h:EP P ops 0 s (λs1=>R (ZcP keep s1)))(hq:∀ S,R S->Q .normal S)(hs:Zg9 s.fr ops=true:=by kernel_rfl):vc P n (.regD ops keep) Q s:=let ⟨s1,h1,h2⟩:=h; ⟨hs,s1,h1,hq _ h2⟩
theorem sq {a b:IC}(h:vc P n a (Zfw (vc P n b Q) Q) s):vc P n (.seq a b) Q s:=h
theorem bk {id:Nat}{a:IC}(h:vc P n a (Zdy id Q) s):vc P n (.block id a) Q s:=h
theorem kq {ks:List Nat}{a:IC}(h:vc P n a Q (ZcP ks s)):vc P n (.kp ks a) Q s:=h
theorem sk (h:Q .normal s):vc P n .skip Q s:=h
theorem rt (h:Q .ret s):vc P n .ret Q s:=h
theorem xq {id:Nat}(h:Q (.exit id) s):vc P n (.exit id) Q s:=h
theorem tq {next:St->Prop}(h:next s):Zfw next Q .normal s:=h
theorem tr {next:St->Prop}(h:Q .ret s):Zfw next Q .ret s:=h
theorem tx {next:St->Prop}{j:Nat}(h:Q (.exit j) s):Zfw next Q (.exit j) s:=h
theorem tg {next:St->Prop}{j:Nat}(h:Q (.goto j) s):Zfw next Q (.goto j) s:=h
theorem bn {id:Nat}(h:Q .normal s):Zdy id Q .normal s:=h
theorem br {id:Nat}(h:Q .ret s):Zdy id Q .ret s:=h
theorem bx {id:Nat}(h:Q .normal s):Zdy id Q (.exit id) s:=by simp only [Zdy,Z1];exact h
theorem bo {id j:Nat}(h:Q (.exit j) s)(hj:(j==id)=false:=by kernel_rfl):Zdy id Q (.exit j) s:=by
 have:¬ j=id:=by simpa using hj
 simp only [Zdy,ZZ this];exact h
theorem hp0:HP ([]:List HO) []:=trivial
theorem kr {α:Sort _}{a b:α}(h:a=b:=by kernel_rfl):a=b:=h
theorem nx {j:Nat}(h:Q (.exit j) s):Zok Q (.exit j) s:=h
theorem it {x:IX}{a b:IC}{c:Bool}{α:Type}{A B:Option α}{r:α}(h:(if c=true then A else B)=some r)
  (h1:c=true->A=some r->vc P n a Q (ZfO x s)) (h2:c=false->B=some r->vc P n b Q (ZfO x s)) (hx:ev s.fr x=.p (.bool c):=by kernel_rfl):vc P n (.cond x a b) Q s:=Zow hx h h1 h2
theorem bs {α β:Type}{x:Option α}{f:α->Option β}{r:β}(h:x.bind f=some r):∃ a,x=some a/\f a=some r:=bind_some h
theorem rbd {K:List HO->Prop}{k id:Nat}{L:LC}{fr0:List (Nat×AV)}{e:Exit}{b:Bool}{H0 H1:List HO}{f0 items:List ZaS}(st:LS)(hF:Fp H0 H1 f0 items)(hk:items[k]?=some (.lp id L fr0 .busy))(he:Zjd e=some (b,st))
  (h:∀ H6,Fp H0 H6 f0 (items.set k (.lp id L fr0 st))->K H6) (hs:s.H=H1:=by kernel_rfl):∃ H',Zlj id L fr0 b H' e s/\K H':=Zof st (hs.symm ▸ hF) hk he h
theorem Fp.pk {H0 H H':List HO}{f0 items L:List ZaS}(h:Fp H0 H f0 items)(ks:List Nat)(hn:Zj2 ks=true)(hL:(ks.filterMap λk=>items[k]?)=L:=by kernel_rfl)(hH:H=H':=by kernel_rfl):Fp H0 H' f0 L:=by
 subst hL hH;exact h.pick ks hn
theorem Fp.at {H0 H H':List HO}{f0 items L:List ZaS}(h:Fp H0 H f0 items)(hL:items=L:=by kernel_rfl)(hH:H=H':=by kernel_rfl):Fp H0 H' f0 L:=by
 subst hL hH;exact h
end
end Go.Eng

namespace Go.Eng
open Go
theorem Zox {f:IX->AV}{a b:AV}{l:List IX}(h:l.map f=[a,b]):∃ x y,l=[x,y]/\f x=a/\f y=b:=by
 cases l with
 | nil=>cases h
 | cons x l=>cases l with
  | nil=>simp at h
  | cons y l=>cases l with
   | nil=>simp only [ZI,ZJ,Zn,ZW] at h;exact ⟨x,y,rfl,h.1,h.2⟩
   | cons z l=>simp at h
section
variable {P:Program} {s:St}
end
section
variable {H0 H H':List HO} {f0 items:List ZaS} {α:Type} {k id n sz:Nat} {as:List AV} {frz:Bool}
theorem HP.replaceX:∀ {items:List ZaS} {k:Nat} {i i':ZaS},HP H items->items[k]?=some i->Lies H' i'->(∀ id,Occ i' id->Occ i id∨∀ (m:Nat) x,m≠k->items[m]?=some x->¬ Occ x id) →
  (∀ id,id<H.length->¬ Occ i id->H'[id]?=H[id]?)->HP H' (items.set k i')
 | [],k,i,i',h,hk,_,_,_=>by simp at hk
 | j::is,0,i,i',h,hk,hl,ho,hs=>by
  simp only [Zt,ZU] at hk
  subst hk
  refine ⟨hl,λid hid x hx hxo=>?_,HP.same h.2.2 λx hx id hxo=>hs id ((HP.lies h.2.2 x hx).lt id hxo) λhj=>h.2.1 id hj x hx hxo⟩
  rcases ho id hid with h1|h1
  ·exact h.2.1 id h1 x hx hxo
  obtain ⟨m,hm⟩:=List.getElem?_of_mem hx
  exact h1 (m+1) x (by omega) (by simpa using hm) hxo
 | j::is,k+1,i,i',h,hk,hl,ho,hs=>by
  simp only [Zs] at hk
  have hi:i∈is:=List.mem_of_getElem? hk
  refine ⟨h.1.same λid hid=>hs id (h.1.lt id hid) λhio=>h.2.1 id hid i hi hio,λid hid x hx hxo=>?_,HP.replaceX h.2.2 hk hl (λid hid=>?_) hs⟩
  ·rcases List.mem_or_eq_of_mem_set hx with h1|rfl
   ·exact h.2.1 id hid x h1 hxo
   rcases ho id hxo with h1|h1
   ·exact h.2.1 id hid i hi h1
   exact h1 0 j (by omega) rfl hid
  rcases ho id hid with h1|h1
  ·exact .inl h1
  exact .inr λm x hm hx=>h1 (m+1) x (by omega) (by simpa using hx)
end
end Go.Eng

namespace Go.Eng
open Go
section
variable {P:Program} {k:K0} {n:Nat} {g:G} {s:St} {a:Act} {w:World}
theorem Rel.pop (h:Rel k n g s a w){id sz ver m:Nat}{rows:List (List PC)}(hH:s.H[id]?=some (.arr sz ver false rows))(hm:m<=rows.length) :
  Rel k n g ⟨s.fr,s.bx,s.H.set id (.arr sz (ver+1) false (rows.take m))⟩ a w/\ZaB (cx k g s.H w) (cx k g (s.H.set id (.arr sz (ver+1) false (rows.take m))) w):=by
 have hid:id<s.H.length:=(List.getElem?_eq_some_iff.1 hH).1
 have hget:∀ (j:Nat),(s.H.set id (.arr sz (ver+1) false (rows.take m)))[j]?=if id=j then some (.arr sz (ver+1) false (rows.take m)) else s.H[j]?:=λj=>by
  rw [Zy]
  by_cases e:id=j
  ·subst e;simp [hid]
  simp [e]
 have hl:ZaB (cx k g s.H w) (cx k g (s.H.set id (.arr sz (ver+1) false (rows.take m))) w):=
  {stay:=λa x ho hc=>by
    refine ⟨hc,ho.1,ho.2.1,λj hj=>?_⟩
    obtain ⟨sz1,ver1,rows1,h1,h2⟩:=ho.2.2 j hj
    by_cases he:id=j
    ·subst he
     rw [hH] at h1
     cases h1
    exact ⟨sz1,ver1,rows1,by rw [hget,ZZ he];exact h1,h2⟩
   arr:=λj sz1 ver1 frz1 rows1 e=>by
    by_cases he:id=j
    ·subst he
     have e':s.H[id]?=some (.arr sz1 ver1 frz1 rows1):=e
     rw [hH] at e'
     cases e'
     exact ⟨ver+1,false,rows.take m,by show (s.H.set _ _)[_]?=_;rw [hget,Z0 rfl],Nat.le_succ _,λe=>absurd e (by omega)⟩
    exact ⟨ver1,frz1,rows1,by show (s.H.set _ _)[_]?=_;rw [hget,ZZ he];exact e,Nat.le_refl _,λ_=>⟨Nat.le_refl _,rfl,λb vs _ hb=>⟨vs,hb,rfl⟩⟩⟩
   cells:=λj cs e=>by
    refine ⟨⟨cs,?_⟩,rfl⟩
    show (s.H.set _ _)[_]?=_
    rw [hget,ZZ (λhe=>by subst he;have e':s.H[id]?=some (.cells cs):=e;rw [hH] at e';cases e')]
    exact e
   lp:=λj L fr st e=>by
    refine ⟨⟨st,?_⟩,rfl⟩
    show (s.H.set _ _)[_]?=_
    rw [hget,ZZ (λhe=>by subst he;have e':s.H[id]?=some (.lp L fr st):=e;rw [hH] at e';cases e')]
    exact e }
 refine ⟨?_,hl⟩
 exact
  {h with
   slots:=λt=>ZaH hl (λ_ _ e=>e) (h.tops t) (h.slots t)
   boxes:=λt cs e=>let ⟨b,hb,hr⟩:=h.boxes t cs e; ⟨b,hb,hr.later hl λ_ hb=>hb⟩
   heap:=λj x e=>by
    simp only [hget] at e
    by_cases he:id=j
    ·subst he
     simp only [Z1,ZU] at e
     subst e
     obtain ⟨b,hb,hr⟩:=h.heap id _ hH
     obtain ⟨vs,h1,h2,h3⟩:=ArrR.later hl (λ_ hb=>hb) hr
     refine ⟨b,hb,vs,h1,Nat.le_trans (Nat.mul_le_mul_right _ (by rw [ZH];omega)) h2,λi r hi=>h3 i r ?_⟩
     rw [ZA] at hi
     split at hi
     ·exact hi
     cases hi
    simp only [he,ZY] at e
    obtain ⟨b,hb,hr⟩:=h.heap j x e
    exact ⟨b,hb,hr.later hl λ_ hb=>hb⟩
   len:=by simp [h.len]
   hist:=h.hist.trans hl }
theorem Zoz {s:St}{d:Nat}{x y:IX}{sz id ver:Nat}{m:Int}{av:AV}{rows:List (List PC)}{H H':List HO}(hs:s.H=H)(hx0:ev s.fr x=av)(hy:ev s.fr y=.p (.int .i64 m))(ha:av=.osl sz id ver 0 rows.length)
  (hH0:H[id]?=some (.arr sz ver false rows)) (hm:0<=m/\m<=rows.length) (hH:H'=H.set id (.arr sz (ver+1) false (rows.take m.toNat))) :
  Zaf P (.sp (some d) (.pop sz) [x,y]) s ⟨put s.fr d (.osl sz id (ver+1) 0 m.toNat),s.bx,H'⟩:=by
 have hx:ev s.fr x=.osl sz id ver 0 rows.length:=by rw [hx0,ha]
 subst hs hH
 refine Zmw rfl ?_ rfl
 intro k n g t a w o d ys he hH h hc
 rw [← hH] at hH0 ⊢
 obtain ⟨x',y',rfl,hx',hy'⟩:=Zox (f:=ev t.fr) (a:=.osl sz id ver 0 rows.length) (b:=.p (.int .i64 m)) (by rw [he];simp only [ZI,ZJ];rw [hx,hy])
 simp only [Zjh,Ze,ZX] at hc
 obtain ⟨⟨hd,hdn⟩,hc⟩:=hc
 split at hc
 ·rename_i d' x1 y1 e1
  simp only [Zn,ZW] at e1
  obtain ⟨rfl,rfl⟩:=e1
  have hv:ZaA (.slice sz false true false) ([x',y'].map (ev t.fr))=some (.osl sz id ver 0 m.toNat):=by
   simp only [ZI,ZJ,hx',hy',ZaA,Ze1,Zc5,Zf,ZY,Z1,ZR,hm.1]
   rw [Z0 (by refine ⟨rfl,trivial,by omega,by omega,.inl trivial,trivial⟩)]
   simp
  obtain ⟨u,hu,hvr,_⟩:=ZnY h hc hv
  obtain ⟨r1,_⟩:=h.pop hH0 (m:=m.toNat) (by omega)
  refine ⟨u,w,g,.inl hu,?_⟩
  rw [hd]
  refine r1.putO hdn ?_ rfl
  rw [VR] at hvr ⊢
  obtain ⟨ver0,frz0,rows0,b,cap,h1,_,e1,hcap,hcur⟩:=hvr
  have e0:t.H[id]?=some (HO.arr sz ver0 frz0 rows0):=h1
  rw [hH0] at e0
  simp only [ZU,HO.arr.injEq] at e0
  obtain ⟨_,e2,_,e3⟩:=e0
  obtain ⟨vs,hρ,_,hblk,hcb⟩:=hcur e2
  refine ⟨ver+1,false,rows.take m.toNat,b,cap,?_,Nat.le_refl _,e1,hcap,λ_=>⟨vs,hρ,by rw [ZH];omega,hblk,hcb⟩⟩
  show (t.H.set id _)[id]?=_
  simp [(List.getElem?_eq_some_iff.1 hH0).1]
 cases hc
theorem Zn6 {s:St}{d:Nat}{x y:IX}{sz id ver:Nat}{m:Int}{av a2:AV}{rows:List (List PC)}{H H':List HO}(hs:s.H=H)(hx0:ev s.fr x=av)(hy:ev s.fr y=.p (.int .i64 m))(ha:av=.osl sz id ver 0 rows.length)
  (hH0:H[id]?=some (.arr sz ver false rows)) (hm:0<=m/\m<=rows.length) (hH:H'=H.set id (.arr sz (ver+1) false (rows.take m.toNat))) (h2:a2=.osl sz id (ver+1) 0 m.toNat) :
  Zaf P (.sp (some d) (.pop sz) [x,y]) s ⟨put s.fr d a2,s.bx,H'⟩:=by
 rw [h2];exact Zoz hs hx0 hy ha hH0 hm hH
end
theorem pur {fs:List Nat}{Q:Exit->St->Prop}{s:St}(h:Q .ret s):puQ fs Q .ret s:=h
def popI {α:Type}(l:List α)(m:Int):Option (List α):=if 0<=m/\m<=(l.length:Int)/\0<l.length then some (l.take m.toNat) else none
section
variable {H0 H:List HO} {f0 items:List ZaS} {α:Type} {k sz:Nat} {a:AV}
theorem Fp.pop {l r:List α}{m:Int}(enc:α->List PC)(hF:Fp H0 H f0 items)(hk:items[k]?=some (.arr a sz false (l.map enc)))(h:popI l m=some r) :
  ∃ id ver a2 H',a=.osl sz id ver 0 (l.map enc).length/\H[id]?=some (.arr sz ver false (l.map enc))/\(0<=m/\m<=((l.map enc).length:Int))/\H'=H.set id (.arr sz (ver+1) false ((l.map enc).take m.toNat))/\a2=.osl sz id (ver+1) 0 m.toNat ∧
   Fp H0 H' f0 (items.set k (.arr a2 sz false (r.map enc))):=by
 unfold popI at h
 split at h
 ·rename_i hb
  obtain ⟨h0,h1,h2⟩:=hb
  cases h
  rcases hF.get k hk with ⟨_,hl⟩|⟨id,ver,rfl,f,hf,hid⟩
  ·rw [List.map_eq_nil_iff] at hl
   subst hl
   simp at h2
  have hff:=hf rfl
  subst hff
  have hlt:=(List.getElem?_eq_some_iff.1 hid).1
  refine ⟨id,ver,_,_,rfl,hid,⟨h0,by rw [ZE];exact h1⟩,rfl,rfl,?_⟩
  refine hF.step hk (.inr ⟨id,ver+1,by rw [ZE,ZH];congr 1;omega,false,λ_=>rfl,by simp [hlt,List.map_take]⟩) (λid' ⟨_,_,_,_,e⟩=>by cases e;exact .inl ⟨sz,ver,0,_,rfl⟩) (λid' _ ho=>?_) (by simp)
  rw [Zz]
  intro e;subst e;exact ho ⟨sz,ver,0,_,rfl⟩
 cases h
end
end Go.Eng

namespace Go.Eng
open Go
section
variable {P:Program} {k:K0} {n:Nat} {g:G} {s:St} {a:Act} {w:World}
theorem Rel.reRows (h:Rel k n g s a w){id sz ver:Nat}{frz:Bool}{R R':List (List PC)}(hH:s.H[id]?=some (.arr sz ver frz R))(hlen:R'.length=R.length)(hA:∀ b,g.ρ[id]?=some b->ArrR (cx k g s.H w) b sz R') :
  Rel k n g ⟨s.fr,s.bx,s.H.set id (.arr sz ver frz R')⟩ a w/\ZaB (cx k g s.H w) (cx k g (s.H.set id (.arr sz ver frz R')) w):=by
 have hid:id<s.H.length:=(List.getElem?_eq_some_iff.1 hH).1
 have hget:=Zcy (.arr sz ver frz R') hH
 have hl:ZaB (cx k g s.H w) (cx k g (s.H.set id (.arr sz ver frz R')) w):=
  {stay:=λa x ho hc=>by
    refine ⟨hc,ho.1,ho.2.1,λj hj=>?_⟩
    obtain ⟨sz1,ver1,rows1,h1,h2⟩:=ho.2.2 j hj
    by_cases he:id=j
    ·subst he
     rw [hH] at h1
     cases h1
     exact ⟨sz,ver,R',by rw [hget,Z0 rfl],by rw [hlen];exact h2⟩
    exact ⟨sz1,ver1,rows1,by rw [hget,ZZ he];exact h1,h2⟩
   arr:=λj sz1 ver1 frz1 rows1 e=>by
    by_cases he:id=j
    ·subst he
     have e':s.H[id]?=some (.arr sz1 ver1 frz1 rows1):=e
     rw [hH] at e'
     cases e'
     exact ⟨ver,frz,R',by show (s.H.set _ _)[_]?=_;rw [hget,Z0 rfl],Nat.le_refl _,λ_=>⟨by rw [hlen];exact Nat.le_refl _,rfl,λb vs _ hb=>⟨vs,hb,rfl⟩⟩⟩
    exact ⟨ver1,frz1,rows1,by show (s.H.set _ _)[_]?=_;rw [hget,ZZ he];exact e,Nat.le_refl _,λ_=>⟨Nat.le_refl _,rfl,λb vs _ hb=>⟨vs,hb,rfl⟩⟩⟩
   cells:=λj cs e=>by
    refine ⟨⟨cs,?_⟩,rfl⟩
    show (s.H.set _ _)[_]?=_
    rw [hget,ZZ (λhe=>by subst he;have e':s.H[id]?=some (.cells cs):=e;rw [hH] at e';cases e')]
    exact e
   lp:=λj L fr st e=>by
    refine ⟨⟨st,?_⟩,rfl⟩
    show (s.H.set _ _)[_]?=_
    rw [hget,ZZ (λhe=>by subst he;have e':s.H[id]?=some (.lp L fr st):=e;rw [hH] at e';cases e')]
    exact e }
 refine ⟨?_,hl⟩
 exact
  {h with
   slots:=λt=>ZaH hl (λ_ _ e=>e) (h.tops t) (h.slots t)
   boxes:=λt cs e=>let ⟨b,hb,hr⟩:=h.boxes t cs e; ⟨b,hb,hr.later hl λ_ hb=>hb⟩
   heap:=λj x e=>by
    simp only [hget] at e
    by_cases he:id=j
    ·subst he
     simp only [Z1,ZU] at e
     subst e
     obtain ⟨b,hb,hr⟩:=h.heap id _ hH
     exact ⟨b,hb,ArrR.later hl (λ_ hb=>hb) (hA b hb)⟩
    simp only [he,ZY] at e
    obtain ⟨b,hb,hr⟩:=h.heap j x e
    exact ⟨b,hb,hr.later hl λ_ hb=>hb⟩
   len:=by simp [h.len]
   hist:=h.hist.trans hl }
theorem Zn9 {d sz:Nat}{xs:List IX}{ys:List AV}{rows:List (List PC)}{H H':List HO}{v:AV}(hs:s.H=H)(hy:xs.map (ev s.fr)=ys)(hr:Zdn unF sz ys=some rows)(hH:H'=H++[.arr sz 0 false rows])(hv:v=.osl sz H.length 0 0 rows.length) :
  Zaf P (.sp (some d) (.litO sz) xs) s ⟨put s.fr d v,s.bx,H'⟩:=by
 subst hs hy hH hv
 refine Zmw rfl ?_ rfl
 intro k n g t a w o d' ys he hH h hc
 simp only [Zjh,Ze,ZX] at hc
 obtain ⟨⟨hd,hdn⟩,hc⟩:=hc
 split at hc
 ·rename_i d2
  have:=Zip h (un:=unF) (λ_ _=>Zmo) hc (rows:=rows) (by rw [he];exact hr)
  rw [hH] at this
  exact this
 cases hc
theorem Znu {d:Nat}{x:IX}{m:Nat}{isA:Bool}{cs:List AV}{r p:AV}{H:List HO}(hs:s.H=H)(hx:ev s.fr x=p)(hl:∀ bx,rd bx H m p=some cs)(hok:Zai cs=true)(hm:mk isA cs=some r) :
  Zaf P (.load d x m isA) s ⟨put s.fr d r,s.bx,s.H⟩:=by
 subst hs
 simp only [Zaf,Zar,hx,hl,ZR,hok,Z1,hm,ZT]
theorem Rel.sealCell (h:Rel k n g s a w){id sz0 ver:Nat}{frz:Bool}{sz i j:Nat}{x y:PC}{H1:List HO}{R:List (List PC)}{r:List PC}(hH:s.H[id]?=some (.arr sz0 ver frz R))(hr:R[i]?=some r)(hj:r[j]?=some x)
  (hx:(∃ z,x=.sl sz z []/\y=.sl sz false []/\H1=s.H)∨∃ q v f rows,x=.ow sz q v rows.length/\s.H[q]?=some (.arr sz v f rows)/\q≠id/\y=.sl sz false rows/\H1=s.H.set q (.arr sz v true rows)) :
  Rel k n g ⟨s.fr,s.bx,H1.set id (.arr sz0 ver frz (R.set i (r.set j y)))⟩ a w/\ZaB (cx k g s.H w) (cx k g (H1.set id (.arr sz0 ver frz (R.set i (r.set j y)))) w):=by
 have key:∃ h1:Rel k n g ⟨s.fr,s.bx,H1⟩ a w,ZaB (cx k g s.H w) (cx k g H1 w)/\H1[id]?=some (.arr sz0 ver frz R)/\∀ u,VR (cx k g s.H w) (up x) u->VR (cx k g H1 w) (up y) u:=by
  rcases hx with ⟨z,rfl,rfl,rfl⟩|⟨q,v,f,rows,rfl,hq,hqi,rfl,rfl⟩
  ·refine ⟨h,ZaB.refl _,hH,λu hu=>?_⟩
   exact ZfV (x:=.sl sz false []) rfl (PR.weak (Zg0 hu))
  have hf:frz1 s.H (.osl sz q v 0 rows.length)=some (.p (.sl sz false rows),s.H.set q (.arr sz v true rows)):=by
   simp [frz1,hq,sub]
  have hlt:=(List.getElem?_eq_some_iff.1 hq).1
  obtain ⟨b,hb,hr0⟩:=h.heap id _ hH
  obtain ⟨vs,_,_,h3⟩:=hr0
  obtain ⟨u0,_,hu0⟩:=(h3 i r hr).2 j _ hj
  obtain ⟨h1,hl,_,_⟩:=Zdk h hf (v:=u0) hu0
  refine ⟨h1,hl,?_,λu hu=>?_⟩
  ·rw [Zz hqi];exact hH
  obtain ⟨_,_,hv,_⟩:=Zdk h hf (v:=u) hu
  exact hv
 obtain ⟨h1,hl,hH1,hv⟩:=key
 obtain ⟨h2,hl2⟩:=h1.reRows (R':=R.set i (r.set j y)) hH1 (by simp) (λb hb=>by
  obtain ⟨b0,hb0,hr0⟩:=h.heap id _ hH
  have e0:b0=b:=by rw [hb] at hb0;cases hb0;rfl
  subst e0
  obtain ⟨vs,a1,a2,a3⟩:=hr0
  refine ⟨vs,Zgc (c:=cx k g s.H w) (λ_ e=>e) a1,by simpa using a2,λq r1 hq=>?_⟩
  rw [Zy] at hq
  by_cases hqi:i=q
  ·subst hqi
   rw [Z0 rfl] at hq
   split at hq
   ·cases hq
    refine ⟨by rw [ZF];exact (a3 i r hr).1,λm z hz=>?_⟩
    rw [Zy] at hz
    by_cases hm:j=m
    ·subst hm
     rw [Z0 rfl] at hz
     split at hz
     ·cases hz
      obtain ⟨u,e1,hu⟩:=(a3 i r hr).2 j _ hj
      exact ⟨u,e1,hv u hu⟩
     cases hz
    rw [ZZ hm] at hz
    obtain ⟨u,e1,hu⟩:=(a3 i r hr).2 m z hz
    exact ⟨u,e1,VR.later hl _ u (ZcJ z) hu⟩
   cases hq
  rw [ZZ hqi] at hq
  obtain ⟨c1,c2⟩:=a3 q r1 hq
  refine ⟨c1,λm z hz=>?_⟩
  obtain ⟨u,e1,hu⟩:=c2 m z hz
  exact ⟨u,e1,VR.later hl _ u (ZcJ z) hu⟩)
 exact ⟨h2,hl.trans hl2⟩
def Zfr (sz m:Nat)(cs:List PC)(rows:List (Int×List (List PC))):List (List PC):=(rows.take m).map (λr=>[.int .i64 r.1,.sl sz false r.2])++(ZbK cs rows).drop m
theorem ZfP {cs:List PC}{rows:List (Int×List (List PC))}(h:cs.length=rows.length):(ZbK cs rows).length=rows.length:=by
 unfold ZbK;rw [List.length_zipWith];omega
theorem ZeI {cs:List PC}{rows:List (Int×List (List PC))}{i:Nat}{c:PC}{r:Int×List (List PC)}(hc:cs[i]?=some c)(hr:rows[i]?=some r):(ZbK cs rows)[i]?=some [.int .i64 r.1,c]:=by
 unfold ZbK;rw [List.getElem?_zipWith,hc,hr]
theorem ZnJ {sz m:Nat}{cs:List PC}{rows:List (Int×List (List PC))}{c:PC}{r:Int×List (List PC)}(hc:cs[m]?=some c)(hr:rows[m]?=some r):(Zfr sz m cs rows)[m]?=some [.int .i64 r.1,c]:=by
 have hlt:=(List.getElem?_eq_some_iff.1 hr).1
 unfold Zfr
 have e:((rows.take m).map (λr=>[PC.int .i64 r.1,.sl sz false r.2])).length=m:=by rw [ZE,ZH];omega
 rw [Zr (by omega),e,Nat.sub_self,Zu,ZP]
 exact ZeI hc hr
theorem ZmQ {sz m:Nat}{cs:List PC}{rows:List (Int×List (List PC))}{c:PC}{r:Int×List (List PC)}(hc:cs[m]?=some c)(hr:rows[m]?=some r) :
  (Zfr sz m cs rows).set m [.int .i64 r.1,.sl sz false r.2]=Zfr sz (m+1) cs rows:=by
 have hlt:=(List.getElem?_eq_some_iff.1 hr).1
 have hd:=ZeI hc hr
 unfold Zfr
 have e:((rows.take m).map (λr=>[PC.int .i64 r.1,.sl sz false r.2])).length=m:=by rw [ZE,ZH];omega
 rw [List.set_append_right _ _ (by omega),e,Nat.sub_self,List.take_succ,hr,List.map_append,List.append_assoc]
 have hdl:=(List.getElem?_eq_some_iff.1 hd).1
 congr 1
 rw [List.drop_eq_getElem_cons hdl,List.set_cons_zero]
 rfl
theorem ZmA {H:List HO}{id ver sz:Nat}{cs:List PC}{rows:List (Int×List (List PC))}(hl:cs.length=rows.length)(hid:H[id]?=some (.arr 2 ver false (ZbK cs rows)))(hno:∀ s1 v1 l1,.ow s1 id v1 l1 ∉ cs)
  (hin:∀ (i:Nat) c r,cs[i]?=some c->rows[i]?=some r->(c=.sl sz true []/\r.2=[])∨∃ q v,c=.ow sz q v r.2.length/\∃ f,H[q]?=some (.arr sz v f r.2)):∀ m,m<=rows.length->∃ Hm:List HO,Hm.length=H.length ∧
   (∀ q:Nat,q≠id->(∀ s1 v1 l1,.ow s1 q v1 l1 ∉ cs)->Hm[q]?=H[q]?)/\Hm[id]?=some (.arr 2 ver false (Zfr sz m cs rows)) ∧
   (∀ (i:Nat) c r,cs[i]?=some c->rows[i]?=some r->(c=.sl sz true []/\r.2=[])∨∃ q v,c=.ow sz q v r.2.length/\∃ f,Hm[q]?=some (.arr sz v f r.2)) ∧
   ∀ (k:K0) (n:Nat) (g:G) (s:St) (a:Act) (w:World),Rel k n g s a w->s.H=H->Rel k n g ⟨s.fr,s.bx,Hm⟩ a w/\ZaB (cx k g H w) (cx k g Hm w)
 | 0,_=>⟨H,rfl,λ_ _ _=>rfl,by rw [hid];simp [Zfr],hin,λk n g s a w h hs=>⟨by subst hs;exact h,ZaB.refl _⟩⟩
 | m+1,hm=>by
  obtain ⟨Hm,h1,h2,h3,h4,h5⟩:=ZmA hl hid hno hin m (by omega)
  have hlt:m<rows.length:=by omega
  obtain ⟨r,hr⟩:∃ r,rows[m]?=some r:=⟨_,Zv hlt⟩
  obtain ⟨c,hc⟩:∃ c,cs[m]?=some c:=⟨_,Zv (by omega)⟩
  have hidlt:id<Hm.length:=(List.getElem?_eq_some_iff.1 h3).1
  have hset:=ZmQ (sz:=sz) hc hr
  have hrow:=ZnJ (sz:=sz) hc hr
  rcases h4 m c r hc hr with ⟨rfl,hr2⟩|⟨q,v,rfl,f,hq⟩
  ·refine ⟨Hm.set id (.arr 2 ver false (Zfr sz (m+1) cs rows)),by simpa using h1,λq hq hn=>?_,by simp [hidlt],λi c' r' hc' hr'=>?_,λk n g s a w h hs=>?_⟩
   ·rw [Zz (λe=>hq e.symm)];exact h2 q hq hn
   ·rcases h4 i c' r' hc' hr' with h|⟨q,v,rfl,f,h⟩
    ·exact .inl h
    refine .inr ⟨q,v,rfl,f,?_⟩
    rw [Zz (λe=>by subst e;exact hno _ _ _ (List.mem_of_getElem? hc'))];exact h
   obtain ⟨g1,g2⟩:=h5 k n g s a w h hs
   obtain ⟨g3,g4⟩:=g1.sealCell (sz:=sz) (y:=.sl sz false []) (H1:=Hm) h3 hrow (j:=1) rfl (.inl ⟨true,rfl,rfl,rfl⟩)
   have e1:(Zfr sz m cs rows).set m ([PC.int .i64 r.1,.sl sz true []].set 1 (.sl sz false []))=Zfr sz (m+1) cs rows:=by
    rw [← hset,hr2];rfl
   rw [e1] at g3 g4
   exact ⟨g3,g2.trans g4⟩
  have hqi:q≠id:=λe=>by subst e;exact hno _ _ _ (List.mem_of_getElem? hc)
  have hqlt:=(List.getElem?_eq_some_iff.1 hq).1
  refine ⟨(Hm.set q (.arr sz v true r.2)).set id (.arr 2 ver false (Zfr sz (m+1) cs rows)),by simpa using h1,λq' hq' hn=>?_,by simp [hidlt],λi c' r' hc' hr'=>?_,λk n g s a w h hs=>?_⟩
  ·rw [Zz (λe=>hq' e.symm),Zz (λe=>by subst e;exact hn _ _ _ (List.mem_of_getElem? hc))];exact h2 q' hq' hn
  ·rcases h4 i c' r' hc' hr' with h|⟨q',v',rfl,f',h⟩
   ·exact .inl h
   by_cases e:q=q'
   ·subst e
    rw [hq] at h
    simp only [ZU,HO.arr.injEq] at h
    obtain ⟨_,rfl,_,e5⟩:=h
    refine .inr ⟨q,v,rfl,true,?_⟩
    rw [Zz (Ne.symm hqi),← e5]
    simp [hqlt]
   refine .inr ⟨q',v',rfl,f',?_⟩
   rw [Zz (λe=>by subst e;exact hno _ _ _ (List.mem_of_getElem? hc')),Zz e];exact h
  obtain ⟨g1,g2⟩:=h5 k n g s a w h hs
  obtain ⟨g3,g4⟩:=g1.sealCell (sz:=sz) (y:=.sl sz false r.2) (H1:=Hm.set q (.arr sz v true r.2)) h3 hrow (j:=1) rfl (.inr ⟨q,v,f,r.2,rfl,hq,hqi,rfl,rfl⟩)
  have e1:(Zfr sz m cs rows).set m ([PC.int .i64 r.1,.ow sz q v r.2.length].set 1 (.sl sz false r.2))=Zfr sz (m+1) cs rows:=by
   rw [← hset];rfl
  rw [e1] at g3 g4
  exact ⟨g3,g2.trans g4⟩
def ZlF (a:AV)(H H':List HO):Prop:=∀ (P:Program) (k:K0) (n:Nat) (g:G) (s:St) (a0:Act) (w:World),Rel k n g s a0 w->s.H=H->Rel k n g ⟨s.fr,s.bx,H'⟩ a0 w/\ZaB (cx k g H w) (cx k g H' w)
end
section
variable {H0 H H':List HO} {f0 items:List ZaS} {k sz:Nat} {a:AV} {u:Bool} {cs:List PC} {rows:List (Int×List (List PC))}
theorem Fp.deepNil (h:Fp H0 H f0 items)(sz:Nat):Fp H0 H f0 (.deep (.p (.sl 2 true [])) sz true [] []::items):=
 h.trans
  {size:=Nat.le_refl _
   same:=λ_ _ _=>rfl
   now:=h.now.cons ⟨rfl,.inl ⟨rfl,rfl⟩,λi c r hc=>by simp at hc,λ_ i j q s1 v1 l1 s2 v2 l2 hc=>by simp at hc⟩ (λid ho=>by
    rcases ho with ⟨_,_,_,_,e⟩|⟨_,_,_,hm⟩
    ·cases e
    cases hm)
   occ:=λx hx id hxo=>by
    rcases List.mem_cons.1 hx with rfl|hx
    ·rcases hxo with ⟨_,_,_,_,e⟩|⟨_,_,_,hm⟩
     ·cases e
     cases hm
    exact .inl ⟨x,hx,hxo⟩ }
theorem Zkf (h:Lies H (.deep a sz u cs rows)):OwnF 2 rows.length a:=by
 obtain ⟨_,h2,_⟩:=h
 rcases h2 with ⟨rfl,_⟩|⟨_,_,rfl,_⟩
 ·exact .a
 exact .b ..
theorem ZnP (h:Lies H (.deep a sz u cs rows)):ZaA .len [a]=some (iv (rows.length:Nat)):=by
 obtain ⟨_,h2,_⟩:=h
 rcases h2 with ⟨rfl,rfl⟩|⟨_,_,rfl,_⟩<;>rfl
theorem ZhR (h:Lies H (.deep a sz u cs rows)){i:Int}{r:Int×List (List PC)}(hi:idx rows i=some r) :
  ∃ id ver c b,a=.osl 2 id ver 0 rows.length/\cs[i.toNat]?=some c/\up c=b/\(∀ kk:IntKind,ZaA (.iaddrS 2) [a,.p (.int kk i)]=some (.optr 2 id ver (0+i.toNat) 0))/\OwnF sz r.2.length b/\Lies H (.arr b sz false r.2) ∧
   (∀ bx,rd bx H 1 (.optr 2 id ver (0+i.toNat) 0)=some [iv r.1])/\(∀ bx,rd bx H 1 (.optr 2 id ver (0+i.toNat) 1)=some [b])/\(∀ bx,rd bx H 2 (.optr 2 id ver (0+i.toNat) 0)=some [iv r.1,b]):=by
 obtain ⟨h1,h2,h3,h4⟩:=h
 have h0:0<=i/\rows[i.toNat]?=some r:=by
  unfold idx at hi
  split at hi
  ·rename_i h0;exact ⟨h0,hi⟩
  cases hi
 have hlt:=(List.getElem?_eq_some_iff.1 h0.2).1
 rcases h2 with ⟨_,e⟩|⟨id,ver,rfl,hid,hno⟩
 ·subst e;simp at hlt
 obtain ⟨c,hc⟩:∃ c,cs[i.toNat]?=some c:=⟨_,Zv (by omega)⟩
 have hrow:=ZeI hc h0.2
 have hl:Lies H (.arr (up c) sz false r.2):=by
  rcases h3 _ c r hc h0.2 with ⟨rfl,e⟩|⟨q,v,rfl,hq⟩
  ·exact .inl ⟨rfl,e⟩
  exact .inr ⟨q,v,rfl,false,λ_=>rfl,hq⟩
 refine ⟨id,ver,c,up c,rfl,hc,rfl,λkk=>?_,ZbB hl,hl,λbx=>?_,λbx=>?_,λbx=>?_⟩
 ·simp only [ZaA]
  rw [Z0 ⟨trivial,h0.1,by omega⟩]
 all_goals
  simp only [rd,hid,and_self,Z1,ZQ,hrow,ZR]
  rfl
theorem Lies.rowSet {b:AV}{rows:List (List PC)}{j:Int}{e e':List PC}{off:Nat}{ps:List PC}{cs:List AV}(h:Lies H (.arr b sz false rows))(hj:idx rows j=some e)(hu:unP cs=some ps)(hs:Zbd off ps e=some e') :
  ∃ q ver H',b=.osl sz q ver 0 rows.length/\(∀ kk:IntKind,ZaA (.iaddrS sz) [b,.p (.int kk j)]=some (.optr sz q ver (0+j.toNat) 0))/\(∀ bx,wrt bx H cs (.optr sz q ver (0+j.toNat) off)=some ⟨bx,H'⟩)/\H'=H.set q (.arr sz ver false (rows.set j.toNat e'))/\H[q]?=some (.arr sz ver false rows):=by
 have h0:0<=j/\rows[j.toNat]?=some e:=by
  unfold idx at hj
  split at hj
  ·rename_i h0;exact ⟨h0,hj⟩
  cases hj
 have hlt:=(List.getElem?_eq_some_iff.1 h0.2).1
 rcases h with ⟨_,e⟩|⟨q,ver,rfl,f,hf,hq⟩
 ·subst e;simp at hlt
 have hff:=hf rfl
 subst hff
 refine ⟨q,ver,_,rfl,λkk=>?_,λbx=>?_,rfl,hq⟩
 ·simp only [ZaA]
  rw [Z0 ⟨trivial,h0.1,by omega⟩]
 simp only [wrt,hq,ZQ,and_self,Z1,h0.2,ZR,hu,hs,ZT]
theorem Ziy (cs:List PC)(rows:List (Int×List (List PC)))(m:Nat):(ZbK cs rows)[m]?=match cs[m]?,rows[m]? with
  | some c,some r=>some [.int .i64 r.1,c]
  | _,_=>none:=by
 unfold ZbK
 rw [List.getElem?_zipWith]
 cases cs[m]?<;>cases rows[m]?<;>rfl
theorem ZhQ {i:Nat}{c c':PC}{r:Int×List (List PC)}(hc:cs[i]?=some c)(hr:rows[i]?=some r)(x:Int)(R:List (List PC)):ZbK (cs.set i c') (rows.set i (x,R))=(ZbK cs rows).set i [.int .i64 x,c']:=by
 have h1:=(List.getElem?_eq_some_iff.1 hc).1
 have h2:=(List.getElem?_eq_some_iff.1 hr).1
 have h3:i<(ZbK cs rows).length:=by unfold ZbK;rw [List.length_zipWith];omega
 refine List.ext_getElem? λm=>?_
 rw [Ziy,Zy,Zy,Zy]
 by_cases e:i=m
 ·subst e;simp [h1,h2,h3]
 rw [ZZ e,ZZ e,ZZ e,Ziy]
theorem ZkS {i:Nat}{c:PC}{r:Int×List (List PC)}(hc:cs[i]?=some c)(hr:rows[i]?=some r)(x:Int)(R:List (List PC)):ZbK cs (rows.set i (x,R))=(ZbK cs rows).set i [.int .i64 x,c]:=by
 have h:=ZhQ (c':=c) hc hr x R
 rwa [show cs.set i c=cs from by
  obtain ⟨h1,h2⟩:=List.getElem?_eq_some_iff.1 hc
  rw [← h2,List.set_getElem_self]] at h
theorem ZkR {i:Nat}{c:PC}{r:Int×List (List PC)}(hc:cs[i]?=some c)(hr:rows[i]?=some r)(R:List (List PC)):ZbK cs (rows.set i (r.1,R))=ZbK cs rows:=by
 rw [ZkS hc hr]
 obtain ⟨h1,h2⟩:=List.getElem?_eq_some_iff.1 (ZeI hc hr)
 rw [← h2,List.set_getElem_self]
theorem Zl9 (hl:cs.length=rows.length)(c:PC)(x:Int)(R:List (List PC)):ZbK (cs++[c]) (rows++[(x,R)])=ZbK cs rows++[[.int .i64 x,c]]:=by
 unfold ZbK
 rw [List.zipWith_append hl]
 rfl
theorem Fp.deepRow {i j:Int}{r:Int×List (List PC)}{e e':List PC}{b:AV}{c:PC}{off:Nat}{ps:List PC}{vs:List AV}(hF:Fp H0 H f0 items)(hk:items[k]?=some (.deep a sz true cs rows))(hi:idx rows i=some r)(hc:cs[i.toNat]?=some c)(hb:up c=b)(hj:idx r.2 j=some e)
  (hu:unP vs=some ps) (hs:Zbd off ps e=some e'):∃ q ver H',b=.osl sz q ver 0 r.2.length/\(∀ kk:IntKind,ZaA (.iaddrS sz) [b,.p (.int kk j)]=some (.optr sz q ver (0+j.toNat) 0))/\(∀ bx,wrt bx H vs (.optr sz q ver (0+j.toNat) off)=some ⟨bx,H'⟩) ∧
   Fp H0 H' f0 (items.set k (.deep a sz true cs (rows.set i.toNat (r.1,r.2.set j.toNat e')))):=by
 have hl:=hF.get k hk
 obtain ⟨id0,ver0,c0,b0,_,hc0,hb0,_,_,hbl,_⟩:=ZhR hl hi
 rw [hc] at hc0
 cases hc0
 rw [hb] at hb0
 subst hb0
 obtain ⟨q,ver,H',rfl,h1,h2,rfl,h3⟩:=hbl.rowSet hj hu hs
 have hri:rows[i.toNat]?=some r:=by
  unfold idx at hi
  split at hi
  ·exact hi
  cases hi
 obtain ⟨g1,g2,g3,g4⟩:=hl
 have hcq:c=.ow sz q ver r.2.length:=by
  cases c with
  | ow s1 q1 v1 l1=>simp only [up,AV.osl.injEq] at hb;obtain ⟨rfl,rfl,rfl,_,rfl⟩:=hb;rfl
  | _=>cases hb
 subst hcq
 have hqlt:=(List.getElem?_eq_some_iff.1 h3).1
 refine ⟨q,ver,_,rfl,h1,h2,hF.step hk ⟨by rw [ZF];exact g1,?_,λm c' r' hc' hr'=>?_,g4⟩ (λ_ ho=>.inl ho) (λq' _ ho=>?_) (by simp)⟩
 ·rcases g2 with ⟨_,e1⟩|⟨id,v,rfl,hid,hno⟩
  ·subst e1;simp at hri
  refine .inr ⟨id,v,by rw [ZF],?_,hno⟩
  rw [ZkR hc hri,Zz (λe1=>by subst e1;exact hno _ _ _ (List.mem_of_getElem? hc))]
  exact hid
 ·rw [Zy] at hr'
  by_cases hm:i.toNat=m
  ·subst hm
   rw [hc] at hc'
   cases hc'
   rw [Z0 rfl] at hr'
   split at hr'
   ·cases hr'
    exact .inr ⟨q,ver,by rw [ZF],by simp [hqlt]⟩
   cases hr'
  rw [ZZ hm] at hr'
  rcases g3 m c' r' hc' hr' with h|⟨q',v',rfl,h⟩
  ·exact .inl h
  refine .inr ⟨q',v',rfl,?_⟩
  rw [Zz (λe1=>by subst e1;exact hm (g4 rfl _ _ _ _ _ _ _ _ _ hc hc'))]
  exact h
 rw [Zz]
 intro e1;subst e1
 exact ho (.inr ⟨sz,ver,_,List.mem_of_getElem? hc⟩)
theorem Fp.deepPut {i:Int}{r:Int×List (List PC)}{c:PC}{q' v':Nat}{R:List (List PC)}{H1:List HO}(hF:Fp H0 H f0 items)(hk:items[k]?=some (.deep a sz true cs rows))(hi:idx rows i=some r)(hc:cs[i.toNat]?=some c)
  (hq:H1[q']?=some (.arr sz v' false R)) (ho:(∃ s1 v1 l1,c=.ow s1 q' v1 l1)∨H.length<=q') (hsame:∀ x:Nat,x<H.length->(∀ s1 v1 l1,c≠.ow s1 x v1 l1)->H1[x]?=H[x]?) (hn:H.length<=H1.length) :
  ∃ id ver H',a=.osl 2 id ver 0 rows.length/\(∀ bx,wrt bx H1 [.osl sz q' v' 0 R.length] (.optr 2 id ver (0+i.toNat) 1)=some ⟨bx,H'⟩) ∧
   Fp H0 H' f0 (items.set k (.deep a sz true (cs.set i.toNat (.ow sz q' v' R.length)) (rows.set i.toNat (r.1,R)))):=by
 have hl:=hF.get k hk
 obtain ⟨id0,ver0,c0,b,rfl,hc0,hb,_⟩:=ZhR hl hi
 have hri:rows[i.toNat]?=some r:=by
  unfold idx at hi
  split at hi
  ·exact hi
  cases hi
 have hlt:=hl.lt
 obtain ⟨g1,g2,g3,g4⟩:=hl
 rcases g2 with ⟨e,_⟩|⟨id,v,e,hid,hno⟩
 ·cases e
 simp only [AV.osl.injEq,true_and] at e
 obtain ⟨rfl,rfl,_⟩:=e
 have hidlt:=(List.getElem?_eq_some_iff.1 hid).1
 have hid1:H1[id0]?=some (.arr 2 ver0 false (ZbK cs rows)):=by
  rw [hsame id0 hidlt (λs1 v1 l1 e1=>by subst e1;exact hno _ _ _ (List.mem_of_getElem? hc))]
  exact hid
 have hqi:q'≠id0:=by
  rintro rfl
  rcases ho with ⟨s1,v1,l1,rfl⟩|h
  ·exact hno _ _ _ (List.mem_of_getElem? hc)
  omega
 have hidlt1:=(List.getElem?_eq_some_iff.1 hid1).1
 have hcl:i.toNat<cs.length:=(List.getElem?_eq_some_iff.1 hc).1
 have hrl:i.toNat<rows.length:=(List.getElem?_eq_some_iff.1 hri).1
 have hrow:=ZeI hc hri
 have hother:∀ (m:Nat) s1 x v1 l1,m≠i.toNat->cs[m]?=some (.ow s1 x v1 l1)->x≠q'/\x<H.length/\∀ s2 v2 l2,c≠.ow s2 x v2 l2:=by
  intro m s1 x v1 l1 hm hx
  have h1:x<H.length:=hlt x (.inr ⟨s1,v1,l1,List.mem_of_getElem? hx⟩)
  refine ⟨?_,h1,λs2 v2 l2 e1=>?_⟩
  ·rintro rfl
   rcases ho with ⟨s2,v2,l2,rfl⟩|h
   ·exact hm (g4 rfl _ _ _ _ _ _ _ _ _ hx hc)
   omega
  subst e1
  exact hm (g4 rfl _ _ _ _ _ _ _ _ _ hx hc)
 refine ⟨id0,ver0,H1.set id0 (.arr 2 ver0 false ((ZbK cs rows).set i.toNat [.int .i64 r.1,.ow sz q' v' R.length])),rfl,λbx=>?_,hF.step hk ⟨by simpa using g1,.inr ⟨id0,ver0,by rw [ZF],by rw [ZhQ hc hri];simp [hidlt1],λs1 v1 l1 hm=>?_⟩,λm c' r' hc' hr'=>?_,λ_ i1 i2 x s1 v1 l1 s2 v2 l2 e1 e2=>?_⟩ (λx hx=>?_) (λx hx hox=>?_) (by simpa using hn)⟩
 ·simp only [wrt,hid1,and_self,Z1,ZQ,hrow,ZR]
  rfl
 ·rcases List.mem_or_eq_of_mem_set hm with hm|e1
  ·exact hno _ _ _ hm
  simp only [PC.ow.injEq] at e1
  exact hqi e1.2.1.symm
 ·rw [Zy] at hc' hr'
  by_cases hm:i.toNat=m
  ·subst hm
   rw [Z0 rfl,Z0 hcl] at hc'
   rw [Z0 rfl,Z0 hrl] at hr'
   cases hc'
   cases hr'
   refine .inr ⟨q',v',rfl,?_⟩
   rw [Zz (Ne.symm hqi)]
   exact hq
  rw [ZZ hm] at hc' hr'
  rcases g3 m c' r' hc' hr' with h|⟨x,v1,rfl,h⟩
  ·exact .inl h
  obtain ⟨o1,o2,o3⟩:=hother m _ _ _ _ (Ne.symm hm) hc'
  refine .inr ⟨x,v1,rfl,?_⟩
  rw [Zz (λe1=>by subst e1;exact hno _ _ _ (List.mem_of_getElem? hc')),hsame x o2 o3]
  exact h
 ·rw [Zy] at e1 e2
  by_cases h1:i.toNat=i1<;>by_cases h2:i.toNat=i2
  ·omega
  ·subst h1
   rw [Z0 rfl,Z0 hcl] at e1
   rw [ZZ h2] at e2
   simp only [ZU,PC.ow.injEq] at e1
   obtain ⟨_,rfl,_⟩:=e1
   exact absurd rfl (hother i2 _ _ _ _ (Ne.symm h2) e2).1
  ·subst h2
   rw [Z0 rfl,Z0 hcl] at e2
   rw [ZZ h1] at e1
   simp only [ZU,PC.ow.injEq] at e2
   obtain ⟨_,rfl,_⟩:=e2
   exact absurd rfl (hother i1 _ _ _ _ (Ne.symm h1) e1).1
  rw [ZZ h1] at e1
  rw [ZZ h2] at e2
  exact g4 rfl _ _ _ _ _ _ _ _ _ e1 e2
 ·rcases hx with ⟨s1,v1,o1,l1,e1⟩|⟨s1,v1,l1,hm⟩
  ·exact .inl (.inl ⟨s1,v1,o1,l1,e1⟩)
  rcases List.mem_or_eq_of_mem_set hm with hm|e1
  ·exact .inl (.inr ⟨_,_,_,hm⟩)
  simp only [PC.ow.injEq] at e1
  obtain ⟨_,rfl,_⟩:=e1
  rcases ho with ⟨s2,v2,l2,rfl⟩|h
  ·exact .inl (.inr ⟨_,_,_,List.mem_of_getElem? hc⟩)
  exact .inr h
 rw [Zz (λe1=>by subst e1;exact hox (.inl ⟨2,ver0,0,_,rfl⟩))]
 exact hsame x hx λs1 v1 l1 e1=>by subst e1;exact hox (.inr ⟨_,_,_,List.mem_of_getElem? hc⟩)
theorem Zkg {bytes:Nat}{H1:List HO}(hl:Lies H (.deep a sz u cs rows))(x:Int)(c:PC)(R:List (List PC))(hH1:H1=H++[.arr 2 0 false [[.int .i64 x,c]]])
  (hcR:(c=.sl sz true []/\R=[])∨∃ q v,c=.ow sz q v R.length/\H[q]?=some (.arr sz v false R)/\∀ s1 v1 o1 l1,a≠.osl s1 q v1 o1 l1) (u':Bool)
  (hu:u'=true->u=true/\∀ s1 q v1 l1,c=.ow s1 q v1 l1->∀ s2 v2 l2,.ow s2 q v2 l2 ∉ cs) (hb1:(rows.length+1)*bytes<=140737488355328) (hb2:rows.length+1<=140737488355328) :
  ∃ a' H2,appV H1 2 bytes a [[.int .i64 x,c]]=some (a',H2)/\Lies H2 (.deep a' sz u' (cs++[c]) (rows++[(x,R)]))/\H.length<=H2.length/\(∀ id:Nat,id<H.length->(∀ s1 v1 o1 l1,a≠.osl s1 id v1 o1 l1)->H2[id]?=H[id]?) ∧
   (∀ id,(∃ s1 v1 o1 l1,a'=.osl s1 id v1 o1 l1)->(∃ s1 v1 o1 l1,a=.osl s1 id v1 o1 l1)∨H.length<=id):=by
 have hlt:=hl.lt
 obtain ⟨g1,g2,g3,g4⟩:=hl
 have huniq:u'=true->∀ (i j q s1 v1 l1 s2 v2 l2:Nat),(cs++[c])[i]?=some (.ow s1 q v1 l1)->(cs++[c])[j]?=some (.ow s2 q v2 l2)->i=j:=by
  intro hu' i j q s1 v1 l1 s2 v2 l2 e1 e2
  obtain ⟨hu1,hu2⟩:=hu hu'
  by_cases h1:i<cs.length<;>by_cases h2:j<cs.length
  ·rw [Zq h1] at e1
   rw [Zq h2] at e2
   exact g4 hu1 _ _ _ _ _ _ _ _ _ e1 e2
  ·rw [Zq h1] at e1
   rw [Zr (by omega)] at e2
   have:c=.ow s2 q v2 l2:=by
    have h3:=(List.getElem?_eq_some_iff.1 e2).1
    have:j-cs.length=0:=by simp at h3;omega
    rw [this] at e2;simpa using e2
   exact absurd (List.mem_of_getElem? e1) (hu2 _ _ _ _ this _ _ _)
  ·rw [Zq h2] at e2
   rw [Zr (by omega)] at e1
   have:c=.ow s1 q v1 l1:=by
    have h3:=(List.getElem?_eq_some_iff.1 e1).1
    have:i-cs.length=0:=by simp at h3;omega
    rw [this] at e1;simpa using e1
   exact absurd (List.mem_of_getElem? e2) (hu2 _ _ _ _ this _ _ _)
  have h3:=(List.getElem?_eq_some_iff.1 e1).1
  have h4:=(List.getElem?_eq_some_iff.1 e2).1
  simp at h3 h4
  omega
 have hrowsAt:∀ (m:Nat) c' r',(cs++[c])[m]?=some c'->(rows++[(x,R)])[m]?=some r'->(cs[m]?=some c'/\rows[m]?=some r')∨(c'=c/\r'=(x,R)):=by
  intro m c' r' e1 e2
  by_cases h1:m<cs.length
  ·rw [Zq h1] at e1
   rw [Zq (by omega)] at e2
   exact .inl ⟨e1,e2⟩
  have h3:=(List.getElem?_eq_some_iff.1 e1).1
  simp at h3
  have:m=cs.length:=by omega
  subst this
  rw [Zr (by omega)] at e1
  rw [Zr (by omega)] at e2
  simp only [Nat.sub_self,Zt,ZU] at e1
  rw [g1,Nat.sub_self] at e2
  simp only [Zt,ZU] at e2
  exact .inr ⟨e1.symm,e2.symm⟩
 have hqlt:∀ s1 q v1 l1,.ow s1 q v1 l1∈cs++[c]->q<H.length:=by
  intro s1 q v1 l1 hm
  rcases List.mem_append.1 hm with hm|hm
  ·exact hlt q (.inr ⟨_,_,_,hm⟩)
  simp only [ZK] at hm
  rcases hcR with ⟨e,_⟩|⟨q2,v2,e,h,_⟩
  ·rw [e] at hm;cases hm
  rw [e] at hm;cases hm
  exact (List.getElem?_eq_some_iff.1 h).1
 have hdr:=Zl9 g1 c x R
 subst hH1
 rcases g2 with ⟨rfl,rfl⟩|⟨id,v,rfl,hid,hno⟩
 ·have hcs:cs=[]:=List.eq_nil_of_length_eq_zero (by simpa using g1)
  subst hcs
  simp only [List.length_nil,ZQ] at hb1 hb2
  refine ⟨.osl 2 (H.length+1) 0 0 1,(H++[HO.arr 2 0 false [[PC.int .i64 x,c]]])++[.arr 2 0 false [[.int .i64 x,c]]],?_,⟨by simp,.inr ⟨H.length+1,0,rfl,?_,λs1 v1 l1 hm=>?_⟩,λm c' r' e1 e2=>?_,huniq⟩,by simp,λid hid _=>by rw [List.append_assoc,Zq hid],λid ho=>?_⟩
  ·simp only [appV]
   rw [Z0 ⟨rfl,trivial,trivial,by simpa using hb1,by simpa using hb2⟩,ZZ (by simp)]
   simp
  ·rw [hdr]
   rw [Zr (by simp)]
   simp [ZbK]
  ·have:=hqlt _ _ _ _ hm
   omega
  ·rcases hrowsAt m c' r' e1 e2 with ⟨e,_⟩|⟨rfl,rfl⟩
   ·simp at e
   rcases hcR with ⟨e3,e4⟩|⟨q,v,e3,h,_⟩
   ·exact .inl ⟨e3,e4⟩
   refine .inr ⟨q,v,e3,?_⟩
   rw [List.append_assoc,Zq (List.getElem?_eq_some_iff.1 h).1]
   exact h
  obtain ⟨_,_,_,_,e⟩:=ho
  cases e
  exact .inr (by omega)
 have hidlt:=(List.getElem?_eq_some_iff.1 hid).1
 have hid1:(H++[HO.arr 2 0 false [[PC.int .i64 x,c]]])[id]?=some (.arr 2 v false (ZbK cs rows)):=by rw [Zq hidlt];exact hid
 have hdl:=ZfP g1
 refine ⟨.osl 2 id (v+1) 0 (rows.length+1),(H++[HO.arr 2 0 false [[PC.int .i64 x,c]]]).set id (HO.arr 2 (v+1) false (ZbK cs rows++[[PC.int .i64 x,c]])),?_,⟨by simp [g1],.inr ⟨id,v+1,by simp,?_,λs1 v1 l1 hm=>?_⟩,λm c' r' e1 e2=>?_,huniq⟩,by simp,λid' hid' hne=>?_,λid' ho=>?_⟩
 ·simp only [appV,hid1]
  rw [Z0 ⟨trivial,trivial,trivial,trivial,by simpa using hb1,by simpa using hb2,hdl.symm⟩]
  rfl
 ·rw [hdr]
  rw [List.getElem?_set_self (by simp;omega)]
 ·rcases List.mem_append.1 hm with hm|hm
  ·exact hno _ _ _ hm
  simp only [ZK] at hm
  rcases hcR with ⟨e,_⟩|⟨q2,v2,e,h,h'⟩
  ·rw [e] at hm;cases hm
  rw [e] at hm;cases hm
  exact h' _ _ _ _ rfl
 ·have keep:∀ (q:Nat) x',q≠id->H[q]?=some x'->((H++[HO.arr 2 0 false [[PC.int .i64 x,c]]]).set id (HO.arr 2 (v+1) false (ZbK cs rows++[[.int .i64 x,c]])))[q]?=some x':=λq x' hq h=>by
   rw [Zz (Ne.symm hq),Zq (List.getElem?_eq_some_iff.1 h).1];exact h
  rcases hrowsAt m c' r' e1 e2 with ⟨e3,e4⟩|⟨rfl,rfl⟩
  ·rcases g3 m c' r' e3 e4 with h|⟨q,v1,rfl,h⟩
   ·exact .inl h
   exact .inr ⟨q,v1,rfl,keep q _ (λe=>by subst e;exact hno _ _ _ (List.mem_of_getElem? e3)) h⟩
  rcases hcR with ⟨e3,e4⟩|⟨q,v1,e3,h,h'⟩
  ·exact .inl ⟨e3,e4⟩
  exact .inr ⟨q,v1,e3,keep q _ (λe=>by subst e;exact h' _ _ _ _ rfl) h⟩
 ·rw [Zz (λe=>by subst e;exact hne _ _ _ _ rfl),Zq hid']
 obtain ⟨_,_,_,_,e⟩:=ho
 cases e
 exact .inl ⟨_,_,_,_,rfl⟩
theorem ZnM {x:Int}{b:AV}{c:PC}(h:up c=b)(hc:(∃ z,c=.sl z true [])∨∃ s1 q v l,c=.ow s1 q v l):Zdn unF 2 [.agg [iv x,b]]=some [[.int .i64 x,c]]:=by
 subst h
 rcases hc with ⟨z,rfl⟩|⟨s1,q,v,l,rfl⟩<;>rfl
theorem ZmU (H:List HO)(R:List (List PC)):Zdc (H++[.arr 2 0 false R]) 2 (.osl 2 H.length 0 0 R.length)=some R:=by
 simp [Zdc,sub]
theorem Fp.deepApp {j bytes:Nat}{b:AV}{R:List (List PC)}(hF:Fp H0 H f0 items)(hk:items[k]?=some (.deep a sz true cs rows))(hj:items[j]?=some (.arr b sz false R))(hne:k≠j)(x:Int)
  (hb1:(rows.length+1)*bytes<=140737488355328) (hb2:rows.length+1<=140737488355328) :
  ∃ c a' H2,Zdn unF 2 [.agg [iv x,b]]=some [[.int .i64 x,c]]/\appV (H++[.arr 2 0 false [[.int .i64 x,c]]]) 2 bytes a [[.int .i64 x,c]]=some (a',H2) ∧
   Fp H0 H2 f0 ((items.set j (.arr (.p (.sl sz true [])) sz false [])).set k (.deep a' sz true (cs++[c]) (rows++[(x,R)]))):=by
 have hbl:=hF.get j hj
 obtain ⟨c,hc,hcR⟩:∃ c,up c=b/\((c=.sl sz true []/\R=[])∨∃ q v,c=.ow sz q v R.length/\H[q]?=some (.arr sz v false R)):=by
  rcases hbl with ⟨rfl,h⟩|⟨q,v,rfl,f,hf,h⟩
  ·exact ⟨.sl sz true [],rfl,.inl ⟨rfl,h⟩⟩
  have hff:=hf rfl
  subst hff
  exact ⟨.ow sz q v R.length,rfl,.inr ⟨q,v,rfl,h⟩⟩
 have happ:∀ q,(∃ s1 v1 l1,c=.ow s1 q v1 l1)->∀ (m:Nat) x,m≠j->items[m]?=some x->¬ Occ x q:=by
  rintro q ⟨s1,v1,l1,rfl⟩ m x hm hx ho
  exact hF.now.apart hj hx (Ne.symm hm) ⟨s1,v1,0,l1,hc.symm⟩ ho
 obtain ⟨a',H2,h1,h2,h3,h4,h5⟩:=Zkg (H1:=H++[.arr 2 0 false [[.int .i64 x,c]]]) (bytes:=bytes) (hF.get k hk) x c R rfl (hcR.imp id λ⟨q,v,e,h⟩=>⟨q,v,e,h,λs1 v1 o1 l1 e1=>happ q ⟨_,_,_,e⟩ k _ hne hk (.inl ⟨_,_,_,_,e1⟩)⟩) true
  (λ_=>⟨rfl,λs1 q v1 l1 e s2 v2 l2 hm=>happ q ⟨_,_,_,e⟩ k _ hne hk (.inr ⟨_,_,_,hm⟩)⟩) hb1 hb2
 refine ⟨c,a',H2,ZnM hc (hcR.imp (λh=>⟨_,h.1⟩) λ⟨q,v,e,_⟩=>⟨_,_,_,_,e⟩),h1,?_⟩
 have hN:Fp H0 H f0 (items.set j (.arr (.p (.sl sz true [])) sz false [])):=hF.step hj (.inl ⟨rfl,rfl⟩) (λid ⟨_,_,_,_,e⟩=>by cases e) (λ_ _ _=>rfl) (Nat.le_refl _)
 have hk1:(items.set j (.arr (.p (.sl sz true [])) sz false []))[k]?=some (.deep a sz true cs rows):=by rw [Zz (Ne.symm hne)];exact hk
 have hocc:∀ q,Occ (.deep a' sz true (cs++[c]) (rows++[(x,R)])) q->Occ (.deep a sz true cs rows) q∨Occ (.arr b sz false R) q∨H.length<=q:=by
  rintro q (ho|⟨s1,v1,l1,hm⟩)
  ·rcases h5 q ho with h|h
   ·exact .inl (.inl h)
   exact .inr (.inr h)
  rcases List.mem_append.1 hm with hm|hm
  ·exact .inl (.inr ⟨_,_,_,hm⟩)
  simp only [ZK] at hm
  subst hm
  exact .inr (.inl ⟨s1,v1,0,l1,hc.symm⟩)
 have hsame:∀ q,q<H.length->¬ Occ (.deep a sz true cs rows) q->H2[q]?=H[q]?:=λq hq ho=>h4 q hq λs1 v1 o1 l1 e=>ho (.inl ⟨_,_,_,_,e⟩)
 refine hF.trans
  {size:=h3
   same:=λq hq hno=>hsame q hq (hno _ (List.mem_of_getElem? hk))
   now:=hN.now.replaceX hk1 h2 (λq hq=>?_) hsame
   occ:=λy hy q hyo=>?_ }
 ·rcases hocc q hq with h|h|h
  ·exact .inl h
  ·refine .inr λm y hm hy ho=>?_
   by_cases hmj:j=m
   ·subst hmj
    rw [Zy] at hy
    rw [Z0 rfl] at hy
    split at hy
    ·cases hy
     obtain ⟨_,_,_,_,e1⟩:=ho
     cases e1
    cases hy
   rw [Zz hmj] at hy
   exact hF.now.apart hj hy hmj h ho
  refine .inr λm y hm hy ho=>?_
  have:=hN.now.lies y (List.mem_of_getElem? hy) |>.lt q ho
  omega
 rcases List.mem_or_eq_of_mem_set hy with hy|rfl
 ·rcases List.mem_or_eq_of_mem_set hy with hy|rfl
  ·exact .inl ⟨y,hy,hyo⟩
  obtain ⟨_,_,_,_,e1⟩:=hyo
  cases e1
 rcases hocc q hyo with h|h|h
 ·exact .inl ⟨_,List.mem_of_getElem? hk,h⟩
 ·exact .inl ⟨_,List.mem_of_getElem? hj,h⟩
 exact .inr h
theorem Fp.deepSeal (hF:Fp H0 H f0 items)(hk:items[k]?=some (.deep a sz u cs rows)):∃ H',ZlF a H H'/\Fp H0 H' f0 (items.set k (.arr a 2 false (rows.map λr=>[.int .i64 r.1,.sl sz false r.2]))):=by
 have hl:=hF.get k hk
 obtain ⟨g1,g2,g3,g4⟩:=hl
 rcases g2 with ⟨rfl,rfl⟩|⟨id,v,rfl,hid,hno⟩
 ·refine ⟨H,λP k n g s a0 w h hs=>⟨by subst hs;exact h,ZaB.refl _⟩,hF.step hk (.inl ⟨rfl,rfl⟩) (λid ⟨_,_,_,_,e⟩=>by cases e) (λ_ _ _=>rfl) (Nat.le_refl _)⟩
 obtain ⟨Hm,h1,h2,h3,_,h5⟩:=ZmA g1 hid hno (λi c r hc hr=>(g3 i c r hc hr).imp (λh=>h) λ⟨q,v,e,h⟩=>⟨q,v,e,false,h⟩) rows.length (Nat.le_refl _)
 have hm:Zfr sz rows.length cs rows=rows.map λr=>[.int .i64 r.1,.sl sz false r.2]:=by
  unfold Zfr
  rw [List.take_length,List.drop_eq_nil_of_le (by rw [ZfP g1];exact Nat.le_refl _),List.append_nil]
 rw [hm] at h3
 refine ⟨Hm,λP=>h5,hF.step hk (.inr ⟨id,v,by rw [ZE],false,λ_=>rfl,h3⟩) (λq ⟨_,_,_,_,e⟩=>by cases e;exact .inl (.inl ⟨_,_,_,_,rfl⟩)) (λq _ ho=>h2 q (λe=>by subst e;exact ho (.inl ⟨2,v,0,_,rfl⟩)) λs1 v1 l1 hm=>ho (.inr ⟨_,_,_,hm⟩)) (by omega)⟩
theorem Fp.deepIn {bytes:Nat}{i:Int}{r:Int×List (List PC)}{c:PC}{b:AV}{m:List (List PC)}(hF:Fp H0 H f0 items)(hk:items[k]?=some (.deep a sz true cs rows))(hi:idx rows i=some r)(hc:cs[i.toNat]?=some c)(hb:up c=b)(hm:m≠[])
  (hb1:(r.2.length+m.length)*bytes<=140737488355328) (hb2:r.2.length+m.length<=140737488355328) :
  ∃ q v H1 id ver H2,appV H sz bytes b m=some (.osl sz q v 0 (r.2++m).length,H1)/\a=.osl 2 id ver 0 rows.length/\(∀ bx,wrt bx H1 [.osl sz q v 0 (r.2++m).length] (.optr 2 id ver (0+i.toNat) 1)=some ⟨bx,H2⟩) ∧
   Fp H0 H2 f0 (items.set k (.deep a sz true (cs.set i.toNat (.ow sz q v (r.2++m).length)) (rows.set i.toNat (r.1,r.2++m)))):=by
 have hl:=hF.get k hk
 have hri:rows[i.toNat]?=some r:=by
  unfold idx at hi
  split at hi
  ·exact hi
  cases hi
 rcases hl.2.2.1 _ c r hc hri with ⟨rfl,hr2⟩|⟨q,v,rfl,hq⟩
 ·subst hb
  have hml:m.length<=140737488355328:=by omega
  obtain ⟨id,ver,H2,e1,e2,e3⟩:=hF.deepPut (R:=r.2++m) (q':=H.length) (v':=0) (H1:=H++[.arr sz 0 false (r.2++m)]) hk hi hc (by simp) (.inr (Nat.le_refl _)) (λx hx _=>Zq hx) (by simp)
  refine ⟨H.length,0,_,id,ver,H2,?_,e1,e2,e3⟩
  rw [hr2] at hb1 hb2 ⊢
  simp only [up,appV]
  rw [Z0 ⟨rfl,trivial,trivial,by simpa using hb1,by simpa using hb2⟩,ZZ hm]
  simp
 subst hb
 have hqlt:=(List.getElem?_eq_some_iff.1 hq).1
 obtain ⟨id,ver,H2,e1,e2,e3⟩:=hF.deepPut (R:=r.2++m) (q':=q) (v':=v+1) (H1:=H.set q (.arr sz (v+1) false (r.2++m))) hk hi hc (by simp [hqlt]) (.inl ⟨_,_,_,rfl⟩) (λx hx hn=>by
  rw [Zz (λe=>by subst e;exact hn _ _ _ rfl)]) (by simp)
 refine ⟨q,v+1,_,id,ver,H2,?_,e1,e2,e3⟩
 simp only [up,appV,hq]
 rw [Z0 ⟨trivial,trivial,trivial,trivial,hb1,hb2,trivial⟩,ZC]
end
end Go.Eng

namespace Go.Eng
open Go
def Zk3 (P:Program)(f:Nat)(args:List AV)(H:List HO)(t:TypeId)(H':List HO):Prop :=
 Zg3 P f/\∀ (ok0:Addr->Prop) (ρ:List Nat) (w:World) (vs:List Value),
  HR (k0 ok0 ρ H w) ρ H w->VRL (cx (k0 ok0 ρ H w) ⟨ρ,noB⟩ H w) args vs →
  Calls P f vs.toArray w λe w'=>∃ ρ',e=.panicked (pvl t)/\HR (k0 ok0 ρ H w) ρ' H' w' ∧
   ZaB (cx (k0 ok0 ρ H w) ⟨ρ,noB⟩ H w) (cx (k0 ok0 ρ H w) ⟨ρ',noB⟩ H' w')
def DOp (P:Program)(o:IOp)(s:St)(t:TypeId)(H2:List HO):Prop :=
 (match o.g with
  | none=>True
  | some (u,b)=>get s.fr u=.p (.bool b))/\∃ d f xs args H1,o.i=.call d f xs/\Pass s.H (xs.map (ev s.fr)) args H1/\Zk3 P f args H1 t H2
section
variable {P:Program} {k:K0} {n:Nat} {g:G} {s s1:St} {a:Act} {w:World} {t:TypeId} {H' H2:List HO}
theorem Rel.dcall (h:Rel k n g s a w){f:Nat}{args:List AV}{vs:List Value}(hc:Zk3 P f args s.H t H')(hargs:VRL (cx k g s.H w) args vs)(hno:noLocL args=true)
  {R:Ending->World->Prop} (hR:∀ g' w',Rel k n g' ⟨s.fr,s.bx,H'⟩ a w'->R (.panicked (pvl t)) w'):Calls P f vs.toArray w R:=by
 obtain ⟨_,hc⟩:=hc
 refine (hc (okOf k s.H g) g.ρ w vs h.hr (VRL.later h.laterCall args vs hno hargs)).mono ?_
 rintro e w' ⟨ρ',rfl,h1,h3⟩
 obtain ⟨h4,h5⟩:=h.back h1 h3
 exact hR _ _ h4
theorem ZnQ (h:Rel k n g s a w){o:Oper}{f:Nat}{xs args:List AV}{vs:List Value}{H1:List HO}(hf:Pass s.H xs args H1)(ht:∀ x∈xs,top x=true)(hv:VRL (cx k g s.H w) xs vs)
  (hc:Zk3 P f args H1 t H2) (hrun:(execOp a.eval o).run P w=.ok (.enter f vs.toArray) w) {K:Act->World->Prop} {Q:Exit->Act->World->Prop}
  (hQ:∀ g' w',Rel k n g' ⟨s.fr,s.bx,H2⟩ a w'->Q (.panic (pvl t)) a w'):o.wp P a w K Q:=by
 obtain ⟨r1,l1,v1,n1⟩:=ZiL xs h hf ht hv
 unfold Oper.wp
 rw [hrun]
 exact r1.dcall hc v1 n1 λg' w' h2=>hQ g' w' h2
theorem ZoD {ops:Array Oper}(h:Rel k n g s a w){i:Nat}{o:Oper}{io:IOp}(hi:ops[i]?=some o)(hc:ZkT P n ops o io=true)(hs:DOp P io s t H2)(r:Option Nat){K:Act->World->Prop}{Q:Exit->Act->World->Prop}
  (hQ:∀ g' w',Rel k n g' ⟨s.fr,s.bx,H2⟩ a w'->Q (.panic (pvl t)) a w'):wpOpIn (FR r) 0 P ops Q i K a w:=by
 simp only [ZkT,Ze] at hc
 obtain ⟨⟨hg,hc⟩,hnd⟩:=hc
 have hnd:=ZhD hnd
 obtain ⟨hs1,d,f,xs,args,H1,hii,hp,hd⟩:=hs
 have key:o.wpIn (FR r) 0 P a w K Q:=by
  refine Oper.wpIn_of_wp r hnd ?_
  rw [hii] at hc
  simp only [Za2,Ze] at hc
  obtain ⟨_,hc⟩:=hc
  split at hc
  ·rename_i f' args' ts hop
   simp only [Ze,ZX] at hc
   obtain ⟨rfl,hm⟩:=hc
   refine ZnQ h hp (Za1 h hm) (Zam h hm) hd ?_ hQ
   simp only [execOp,hop,resolve,Act.eval,Deferred.ofValue,Sem.run_bind,Sem.run_pure,Result.andThen_ok,invoke]
   rw [Zb7 hd.1]
   congr 2
   apply Array.ext'
   simp
  cases hc
 unfold wpOpIn
 rw [hi]
 simp only
 unfold ZkO at hg
 split at hg
 ·rename_i hog hig
  rw [Z0 (by simp [Region.wanted,hog])]
  exact key
 ·rename_i j b u b' hog hig
  rw [hig] at hs1
  simp only at hs1
  simp only [Ze,ZX] at hg
  obtain ⟨hj,rfl⟩:=hg
  have hslot:=h.slots u
  rw [hs1] at hslot
  have hval:=Zfs hslot
  have hlt:u<a.tmps.size:=by
   rcases Nat.lt_or_ge u a.tmps.size with h1|h1
   ·exact h1
   simp [Array.getD,Nat.not_lt.2 h1,undef] at hval
  have hy:yielded ops a.tmps j=some b:=by
   unfold yielded
   rw [hj]
   have:a.tmps[u]?=some (.bool b):=by
    rw [Za,Zb hlt] at hval
    rw [Zb hlt]
    simpa using hval
   simp [this]
  rw [Z0 (by simp [Region.wanted,hog,hy])]
  exact key
 cases hg
theorem ZmL {ops:Array Oper}{r:Option Nat}{Q:Exit->Act->World->Prop}:∀ (os:List Oper) (pre:List IOp) (o:IOp) (post:List IOp) (st:Nat) {g:G} {s:St} {a:Act} {w:World},(∀ j,os[j]?=ops[st+j]?)->Zcb P n ops os (pre++o::post)=true->Rel k n g s a w->Z4 P pre s s1->DOp P o s1 t H2 →
  (∀ g' a' w',Rel k n g' ⟨s1.fr,s1.bx,H2⟩ a' w'->Q (.panic (pvl t)) a' w')->wpOpsIn (FR r) 0 P ops Q (List.range' st os.length) a w
 | [],pre,o,post,st,g,s,a,w,_,hc,_,_,_,_=>by cases pre<;>simp [Zcb] at hc
 | x::os,[],o,post,st,g,s,a,w,hos,hc,h,hp,hd,hQ=>by
  simp only [Z4] at hp
  subst hp
  simp only [ZL,Zcb,Ze] at hc
  have h0:=hos 0
  simp only [Zt,ZP] at h0
  simp only [ZD,ZM]
  rw [wpOpsIn_cons]
  exact ZoD h h0.symm hc.1 hd r λg' w' h3=>hQ g' a w' h3
 | x::os,io::pre,o,post,st,g,s,a,w,hos,hc,h,hp,hd,hQ=>by
  simp only [Z4] at hp
  obtain ⟨s2,h1,h2⟩:=hp
  simp only [Zo,Zcb,Ze] at hc
  have h0:=hos 0
  simp only [Zt,ZP] at h0
  simp only [ZD,ZM]
  rw [wpOpsIn_cons]
  refine ZgV h h0.symm hc.1 h1 r (λg' a' w' h3=>?_)
  exact ZmL os pre o post (st+1) (λj=>by have:=hos (j+1);simpa [ZN,Nat.add_comm 1 j] using this) hc.2 h3 h2 hd hQ
theorem Zod {ops pre post:List IOp}{o:IOp}{keep:List Nat}(e:ops=pre++o::post)(hp:Z4 P pre s s1)(hd:DOp P o s1 t H2)(ks:List Nat):EvI P n (.reg ops keep) s (λe1 s2=>e1=.panic (pvl t)/\s2=ZcP ks ⟨s1.fr,s1.bx,H2⟩):=by
 intro c hc k g a w hr
 cases c<;>simp only [chkC,Zf,Ze,Zg] at hc
 rename_i id xs draw
 obtain ⟨rfl,hc⟩:=hc
 subst e
 refine wpIn_region ?_
 have:=ZmL (r:=k.rd) (Q:=λe a' w'=>∃ s' g',Rel k n g' s' a' w'/\e=.panic (pvl t)/\s'=ZcP ks ⟨s1.fr,s1.bx,H2⟩) xs.toList pre o post 0 (by simp) hc hr hp hd (λg' a' w' h3=>let ⟨g2,h4⟩:=h3.keepOnly ks; ⟨_,g2,h4,rfl,rfl⟩)
 rwa [Zd,← List.range_eq_range'] at this
theorem Zn1 {ops:List IOp}{keep:List Nat}{Q:Exit->St->Prop}(m:Nat)(o:IOp)(ho:ops[m]?=some o)(hp:Z4 P (ops.take m) s s1)(hd:DOp P o s1 t H2)(ks:List Nat)(hQ:Q (.panic (pvl t)) (ZcP ks ⟨s1.fr,s1.bx,H2⟩)):vc P n (.box (.reg ops keep)) Q s:=by
 refine ⟨_,_,Zod (pre:=ops.take m) (o:=o) (post:=ops.drop (m+1)) ?_ hp hd ks,hQ⟩
 obtain ⟨hlt,e⟩:=List.getElem?_eq_some_iff.1 ho
 rw [← e,← List.drop_eq_getElem_cons hlt,List.take_append_drop]
theorem Zot {ic:IC}{Q:Exit->St->Prop}(h:vc P n ic Q s):vc P n (.box ic) Q s:=by
 obtain ⟨e,s',h1,h2⟩:=vcd ic h
 exact ⟨e,s',Zao ic _ s h1,h2⟩
@[reducible] def endX (R:St->Prop)(t:TypeId)(D:St->Prop):Exit->St->Prop
 | .normal,s | .ret,s=>R s
 | .panic ch,s=>ch=pvl t/\D s
 | _,_=>False
theorem ZnR {f:Nat}{F:IFn}(hk:chkF P f F=true){args:List AV}{H H':List HO}(hl:args.length=F.nargs)(hno:noLocL args=true)
  (h:EvI P F.nt F.body ⟨Zdd args 0,[],H⟩ (λe s'=>e=.panic (pvl t)/\s'.H=H')):Zk3 P f args H t H':=by
 unfold chkF at hk
 split at hk
 ·rename_i fn hf
  split at hk
  ·rename_i c hb
   simp only [Ze,ZX,Zg] at hk
   obtain ⟨⟨⟨⟨hc,hres⟩,hna⟩,hnt⟩,hname⟩:=hk
   refine ⟨⟨fn,hf,by rw [hb];rfl,hname⟩,λok0 ρ w vs hhr hv=>?_⟩
   have hrel:=ZdZ (n:=fn.ntmps) hhr hv hno (by omega)
   refine ZfS (r:=none) (m:=0) (callsIn_of_wp_marks hf hb trivial (wpIn_mono (h c (by rw [← hnt];exact hc) _ _ _ _ (by rw [← hnt];exact hrel)) ?_))
   rintro e a' w' ⟨s',g',h1,rfl,rfl⟩
   refine h1.leavesU (by simp) λw2 h2=>?_
   exact ⟨g'.ρ,rfl,h2.toHR,h2.hist.trans h2.noBoxes⟩
  cases hk
 cases hk
theorem Zne {f:Nat}{F:IFn}(hk:chkF P f F=true){args:List AV}{H:List HO}(t:TypeId)(K:AV->List HO->Prop)(D:List HO->Prop)(hK:∀ r H,K r H->Zaw r=true)(hl:args.length=F.nargs)(hno:noLocL args=true)
  (h:vc P F.nt F.body (endX (λs'=>∃ xs,rawL s' F.res=some xs/\K (Zbr xs) s'.H) t (λs'=>D s'.H)) ⟨Zdd args 0,[],H⟩):(∃ r H',ZbR P f args H r H'/\K r H')∨∃ H',Zk3 P f args H t H'/\D H':=by
 obtain ⟨e,s',h1,h2⟩:=vcd _ h
 have key:(∃ xs,rawL s' F.res=some xs/\K (Zbr xs) s'.H)->(e=.normal∨e=.ret)->∃ r H',ZbR P f args H r H'/\K r H':=by
  rintro ⟨xs,x1,x3⟩ he
  refine ⟨Zbr xs,s'.H,ZgZ hk hl hno (hK _ _ x3) (Zao _ _ _ (Zby _ (λe1 s1 q=>?_) h1)),x3⟩
  obtain ⟨q1,q2⟩:=q
  subst q1 q2
  rcases he with rfl|rfl
  ·exact ⟨xs,x1,rfl,rfl⟩
  exact ⟨xs,x1,rfl,rfl⟩
 cases e with
 | normal=>exact .inl (key h2 (.inl rfl))
 | ret=>exact .inl (key h2 (.inr rfl))
 | panic ch =>
  obtain ⟨rfl,h3⟩:=h2
  refine .inr ⟨s'.H,ZnR hk hl hno (Zao _ _ _ (Zby _ (λe1 s1 q=>?_) h1)),h3⟩
  obtain ⟨q1,q2⟩:=q
  subst q1 q2
  exact ⟨rfl,rfl⟩
 | _=>exact h2.elim
theorem Zlc {d:Nat}{x:IX}{m id off:Nat}{isA:Bool}{zs:List IX}{cs c vs:List AV}{r:AV}{H:List HO}(hs:s.H=H)(hx:ev s.fr x=.ptr id off)(hl:Lies H (.cel id cs))(hsub:sub off m cs=some c)(hok:Zai c=true)(hm:mk isA c=some r)
  (hz:zs.map (ev s.fr)=vs) (hv:vs.all (ZiD id)=true):Zaf P (.loadN d x m isA zs) s ⟨put s.fr d r,s.bx,s.H⟩:=by
 subst hs hz
 have hc:s.H[id]?=some (.cells cs):=hl
 simp only [Zaf,Zar,hx]
 rw [Z0 hv]
 simp only [rd,hc,hsub,ZR,hok,Z1,hm,ZT]
end
end Go.Eng

namespace Go.Eng
open Go
def Znl (P:Program)(f:Nat)(args:List AV)(H:List HO)(u u':FrameMode)(H':List HO):Prop :=
 Zg3 P f/\∀ (ok0:Addr->Prop) (ρ:List Nat) (w:World) (vs:List Value),
  HR (k0 ok0 ρ H w) ρ H w->VRL (cx (k0 ok0 ρ H w) ⟨ρ,noB⟩ H w) args vs →
  CallsDIn (FR none) 0 P f vs.toArray u w λe u2 w'=>∃ v ρ',e=.returned v/\u2=u'/\HR (k0 ok0 ρ H w) ρ' H' w' ∧
   ZaB (cx (k0 ok0 ρ H w) ⟨ρ,noB⟩ H w) (cx (k0 ok0 ρ H w) ⟨ρ',noB⟩ H' w')
def recM (t:TypeId):FrameMode:=.panicking [{ v:=.iface t (.agg #[]),recovered:=true }]
theorem Zkw (t:TypeId):settle (recM t)=.returning:=rfl
def Zma (P:Program)(n:Nat):List Oper->List IOp->Bool
 | [],[]=>true
 | o::os,io::ios=>o.guard.isNone&&(match io.i with
   | .store x y m=>chkM P n o (.store x y m)
   | _=>false)&&Zma P n os ios
 | _,_=>false
def ZiH:List IOp->St->St->Prop
 | [],s,s'=>s'=s
 | io::ios,s,s'=>∃ s1,Zar io.i s=some s1/\ZiH ios s1 s'
def ZpN (P:Program)(n nargs:Nat)(ios:List IOp):Code->Bool
 | .seq (.region _ ops0 false) (.seq (.region _ ops1 false) (.cond (.tmp e3) (.region _ ops2 false) .skip)) =>
  (match ops0.toList,ops1.toList with
   | [x,y],[z,q]=>x.guard.isNone&&y.guard.isNone&&z.guard.isNone&&q.guard.isNone&&(match x.op,x.dst,y.op,y.dst,z.op,z.dst,q.op,q.dst with
     | .call { callee:=.builtin .recover,args:=as,argTypes:=_ },some d0,.assign (.tmp e0),some d1,.move (.tmp e1),some d2,.binOp .neq T (.tmp e2) (.const .nilIface) _,some d3 =>
      decide (as.toList=[])&&decide (e0=d0)&&decide (e1=d1)&&decide (e2=d2)&&decide (e3=d3)&&decide (nargs<=d0/\d0<n)&&decide (nargs<=d1/\d1<n)&&decide (nargs<=d2/\d2<n)&&decide (nargs<=d3/\d3<n)&&(match P.underlying T with
       | some (.interface _)=>true
       | _=>false)
     | _,_,_,_,_,_,_,_=>false)
   | _,_=>false)&&Zma P n ops2.toList ios
 | _=>false
def chkR (P:Program)(f nargs:Nat)(ios:List IOp):Bool:=match P.funcs[f]? with
 | some fn=>(match fn.body with
  | some c=>ZpN P fn.ntmps nargs ios c&&decide (fn.results.toList=[])&&decide (nargs<=fn.ntmps) && !(fn.name == "runtime.NumGoroutine")
  | none=>false)
 | none=>false
section
variable {P:Program} {k:K0} {n:Nat} {g:G} {s s':St} {a:Act} {w:World} {t:TypeId} {H H':List HO}
theorem Rel.putAny (h:Rel k n g s a w){d:Nat}(hd:get s.fr d=.any)(v:Value):Rel k n g s (a.put (some d) v) w :=
 {h with
  tsz:=by simp only [Act.put,Array.size_setIfInBounds];exact h.tsz
  slots:=λu=>by
   by_cases e:d=u
   ·subst e;rw [hd];simp [VR]
   have:=h.slots u
   have e2:(a.put (some d) v).tmps.getD u undef=a.tmps.getD u undef:=by
    simp only [Act.put,Za,Array.getElem?_setIfInBounds]
    rw [ZZ e]
   rw [e2]
   exact this }
theorem Zla {ops:Array Oper}{cs:List Frame}{Q:Exit->Act->List Frame->World->Prop}:∀ (os:List Oper) (ios:List IOp) (st:Nat) {g:G} {s:St} {a:Act} {w:World},(∀ j,os[j]?=ops[st+j]?)->Zma P n os ios=true->Rel k n g s a w->ZiH ios s s' →
  (∀ g' a' w',Rel k n g' s' a' w'->a'.defers=a.defers->Q .normal a' cs w')->wpOpsSIn (FR none) 0 P ops Q (List.range' st os.length) a cs w
 | [],[],st,g,s,a,w,_,_,h,hp,hQ=>by
  simp only [ZiH] at hp
  subst hp
  simpa [wpOpsSIn] using hQ g a w h rfl
 | o::os,io::ios,st,g,s,a,w,hos,hc,h,hp,hQ=>by
  simp only [ZiH] at hp
  obtain ⟨s1,h1,h2⟩:=hp
  simp only [Zma,Ze,ZS] at hc
  obtain ⟨⟨hg,hc1⟩,hc2⟩:=hc
  have h0:=hos 0
  simp only [Zt,ZP] at h0
  simp only [ZD,ZM,wpOpsSIn]
  rw [← h0]
  simp only
  refine ⟨λ_ _=>trivial,?_⟩
  rw [Z0 (by simp [Region.wanted,hg])]
  split at hc1
  ·rename_i x y m hio
   rw [hio] at h1
   obtain ⟨u,w1,g1,hr,h3⟩:=Zfi h hc1 h1
   have next:wpOpsSIn (FR none) 0 P ops Q (List.range' (st+1) os.length) (a.put o.dst u) cs w1 :=
    Zla os ios (st+1) (λj=>by have:=hos (j+1);simpa [ZN,Nat.add_comm 1 j] using this) hc2 h3 h2 λg' a' w' q1 q2=>hQ g' a' w' q1 (by
     rw [q2]
     cases o.dst<;>rfl)
   rcases hr with hr|⟨hr,rfl⟩
   ·rw [hr];exact next
   rw [hr];exact next
  cases hc1
 | [],_::_,_,_,_,_,_,_,hc,_,_,_=>by simp [Zma] at hc
 | _::_,[],_,_,_,_,_,_,hc,_,_,_=>by simp [Zma] at hc
theorem ZeX (args:List AV){d:Nat}(h:args.length<=d):get (Zdd args 0) d=.any:=by
 rw [ZeT]
 simp [h]
theorem Zhg {T:TypeId}{I:Array (String×TypeId)}(hu:P.underlying T=some (.interface I)){t:TypeId}{v:Value}(d:Nat):(Op.equalIn (d+1) T (.iface t v) .nilIface).run P w=.ok false w:=by
 rw [Op.equalIn]
 simp only [Sem.run_bind,run_underlying hu,Result.andThen_ok,Sem.run_pure]
theorem ZiV {T:TypeId}{I:Array (String×TypeId)}(hu:P.underlying T=some (.interface I))(d:Nat):(Op.equalIn (d+1) T .nilIface .nilIface).run P w=.ok true w:=by
 rw [Op.equalIn]
 simp only [Sem.run_bind,run_underlying hu,Result.andThen_ok,Sem.run_pure]
theorem Zkz {T:TypeId}{I:Array (String×TypeId)}(hu:P.underlying T=some (.interface I)){v:Value}{b:Bool}(hv:(b=true/\∃ t,v=.iface t (.agg #[]))∨(b=false/\v=.nilIface))(x:Operand) :
  (eqGuard .neq T x (.const .nilIface) v .nilIface).run P w=.ok () w/\(binOp .neq T v .nilIface).run P w=.ok (.bool b) w:=by
 rcases hv with ⟨rfl,t,rfl⟩|⟨rfl,rfl⟩
 ·refine ⟨rfl,?_⟩
  have e:binOp .neq T (.iface t (.agg #[])) .nilIface=(do pure (.bool (!(← Op.equal T (.iface t (.agg #[])) .nilIface)))):=rfl
  rw [e]
  simp only [Sem.run_bind,Op.equal]
  rw [show Op.maxDepth=(Op.maxDepth-1)+1 from rfl,Zhg hu]
  rfl
 refine ⟨by cases x<;>rfl,?_⟩
 have e:binOp .neq T .nilIface .nilIface=(do pure (.bool (!(← Op.equal T .nilIface .nilIface)))):=rfl
 rw [e]
 simp only [Sem.run_bind,Op.equal]
 rw [show Op.maxDepth=(Op.maxDepth-1)+1 from rfl,ZiV hu]
 rfl
set_option maxHeartbeats 4000000 in
theorem Zlk {f:Nat}{args:List AV}{ios:List IOp}(hk:chkR P f args.length ios=true)(hno:noLocL args=true)(u u':FrameMode)(v:Value)(b:Bool)
  (hrec:∀ (c₀:Frame) (cs:List Frame),c₀.mode=u->(recoverD (c₀::cs)=some (v,{ c₀ with mode:=u' }::cs)∨(recoverD (c₀::cs)=none/\v=.nilIface/\u'=u)))
  (hv:(b=true/\∃ t,v=.iface t (.agg #[]))∨(b=false/\v=.nilIface)) (hp:b=true->ZiH ios ⟨Zdd args 0,[],H⟩ s'/\s'.H=H') (hp2:b=false->H'=H):Znl P f args H u u' H':=by
 unfold chkR at hk
 split at hk
 ·rename_i fn hf
  split at hk
  ·rename_i c hb
   simp only [Ze,ZX,Zg] at hk
   obtain ⟨⟨⟨hk,hres⟩,hna⟩,hname⟩:=hk
   refine ⟨⟨fn,hf,by rw [hb];rfl,hname⟩,λok0 ρ w vs hhr hvl=>?_⟩
   have hrel:=ZdZ (n:=fn.ntmps) hhr hvl hno hna
   refine callsDIn_of_wpSIn hf hb trivial λc₀ cs hu=>?_
   unfold ZpN at hk
   split at hk
   ·rename_i i0 ops0 i1 ops1 e3 i2 ops2
    simp only [Ze] at hk
    obtain ⟨hk,hst⟩:=hk
    split at hk
    ·rename_i x y z q hl0 hl1
     simp only [Ze,ZS] at hk
     obtain ⟨⟨⟨⟨gx,gy⟩,gz⟩,gq⟩,hk⟩:=hk
     split at hk
     ·rename_i as ts d0 e0 d1 e1 d2 T e2 T' d3 ox dx oy dy oz dz oq dq
      simp only [Ze,ZX] at hk
      obtain ⟨⟨⟨⟨⟨⟨⟨⟨⟨has,rfl⟩,rfl⟩,rfl⟩,rfl⟩,n0⟩,n1⟩,n2⟩,n3⟩,hu3⟩:=hk
      obtain ⟨hI,hu3⟩:∃ I,P.underlying T=some (.interface I):=by
       split at hu3
       ·exact ⟨_,by assumption⟩
       cases hu3
      have hops0:ops0 = #[x,y]:=by apply Array.ext';rw [hl0]
      have hops1:ops1 = #[z,q]:=by apply Array.ext';rw [hl1]
      subst hops0 hops1
      have has':as = #[]:=by apply Array.ext';rw [has]
      subst has'
      have r1:=hrel.putAny (d:=e0) (ZeX args n0.1) v
      have r2:=r1.putAny (d:=e1) (ZeX args n1.1) v
      have r3:=r2.putAny (d:=e2) (ZeX args n2.1) v
      have r4:=r3.putAny (d:=e3) (ZeX args n3.1) (.bool b)
      generalize hA0:({ tmps:=vs.toArray++Array.replicate (fn.ntmps-vs.toArray.size) undef,defers:=[] }:Act)=A0 at hrel r1 r2 r3 r4 ⊢
      have hdf:A0.defers=[]:=by rw [← hA0]
      obtain ⟨cs',hcs',hrecD⟩:∃ cs',cs'={ c₀ with mode:=u' }::cs/\(recoverD (c₀::cs)=some (v,cs')∨(recoverD (c₀::cs)=none/\v=.nilIface/\cs'=c₀::cs)):=by
       rcases hrec c₀ cs hu with h1|⟨h1,h2,h3⟩
       ·exact ⟨_,rfl,.inl h1⟩
       exact ⟨_,rfl,.inr ⟨h1,h2,by rw [h3,← hu]⟩⟩
      refine wpSIn_seq (wpSIn_region ?_)
      show wpOpsSIn (FR none) 0 P #[x,y] _ [0,1] A0 (c₀::cs) w
      simp only [wpOpsSIn,ZB,Zt,Zs]
      have ex:(execOp A0.eval x).run P w=.ok .recover w:=by
       simp only [execOp,ox,resolve,Sem.run_bind,Sem.run_pure,Result.andThen_ok]
       rfl
      have ey:(execOp (A0.put (some e0) v).eval y).run P w=.ok (.value v) w:=by
       simp only [execOp,oy,Sem.run_pure]
       rw [Zee (by rw [hrel.tsz];exact n0.2)]
      refine ⟨λ_ _=>trivial,?_⟩
      rw [Z0 (by simp [Region.wanted,gx]),ex]
      simp only
      have hstep:wpOpsSIn (FR none) 0 P #[x,y] (Exit.thenS (Code.wpSIn (FR none) 0 P (.seq (.region i1 #[z,q] false) (.cond (.tmp e3) (.region i2 ops2 false) .skip)) (bodyPostS P fn c₀ cs λe u2 w'=>∃ v ρ',e=.returned v/\u2=u'/\HR (k0 ok0 ρ H w) ρ' H' w' ∧
        ZaB (cx (k0 ok0 ρ H w) ⟨ρ,noB⟩ H w) (cx (k0 ok0 ρ H w) ⟨ρ',noB⟩ H' w'))) (bodyPostS P fn c₀ cs λe u2 w'=>∃ v ρ',e=.returned v/\u2=u'/\HR (k0 ok0 ρ H w) ρ' H' w' ∧
        ZaB (cx (k0 ok0 ρ H w) ⟨ρ,noB⟩ H w) (cx (k0 ok0 ρ H w) ⟨ρ',noB⟩ H' w'))) [1] (A0.put x.dst v) cs' w:=by
       simp only [wpOpsSIn,ZB,Zt,Zs]
       refine ⟨λ_ _=>trivial,?_⟩
       rw [Z0 (by simp [Region.wanted,gy]),dx,ey]
       simp only
       rw [dy]
       refine wpSIn_seq (wpSIn_region ?_)
       show wpOpsSIn (FR none) 0 P #[z,q] _ [0,1] _ cs' w
       simp only [wpOpsSIn,ZB,Zt,Zs]
       have ez:(execOp ((A0.put (some e0) v).put (some e1) v).eval z).run P w=.ok (.value v) w:=by
        simp only [execOp,oz,Sem.run_pure]
        rw [Zee (by rw [r1.tsz];exact n1.2)]
       refine ⟨λ_ _=>trivial,?_⟩
       rw [Z0 (by simp [Region.wanted,gz]),ez]
       simp only
       rw [dz]
       refine ⟨λ_ _=>trivial,?_⟩
       have eq':(execOp (((A0.put (some e0) v).put (some e1) v).put (some e2) v).eval q).run P w=.ok (.value (.bool b)) w:=by
        simp only [execOp,oq,Sem.run_bind]
        rw [Zee (by rw [r2.tsz];exact n2.2)]
        obtain ⟨q1,q2⟩:=Zkz (w:=w) hu3 hv (.tmp e2)
        rw [show (((A0.put (some e0) v).put (some e1) v).put (some e2) v).eval (.const .nilIface)=.nilIface from rfl]
        simp only [Sem.run_bind,q1,Result.andThen_ok,q2,Sem.run_pure]
       rw [Z0 (by simp [Region.wanted,gq]),eq']
       simp only
       rw [dq]
       have hdone:∀ (g':G) (a':Act) (w':World) (s2:St),Rel (k0 ok0 ρ H w) fn.ntmps g' s2 a' w'->s2.H=H'->a'.defers=[]->bodyPostS P fn c₀ cs (λe u2 w'=>∃ v ρ',e=.returned v/\u2=u'/\HR (k0 ok0 ρ H w) ρ' H' w' ∧
         ZaB (cx (k0 ok0 ρ H w) ⟨ρ,noB⟩ H w) (cx (k0 ok0 ρ H w) ⟨ρ',noB⟩ H' w')) .normal a' cs' w':=λg' a' w' s2 h1 h2 h3=>by
        subst h2
        have hr0:fn.results = #[]:=by apply Array.ext';rw [hres]
        refine ⟨h3,u',hcs',.tuple #[],?_,.tuple #[],g'.ρ,rfl,rfl,h1.toHR,h1.hist.trans h1.noBoxes⟩
        rw [Zf0,hr0]
        simp
       cases b with
       | true =>
        obtain ⟨hpath,hH⟩:=hp rfl
        refine wpSIn_cond (t:=true) (by rw [Zee (by rw [r3.tsz];exact n3.2)]) ?_
        refine wpSIn_region ?_
        have:=Zla (k:=k0 ok0 ρ H w) (n:=fn.ntmps) (cs:=cs') (Q:=bodyPostS P fn c₀ cs λe u2 w'=>∃ v ρ',e=.returned v/\u2=u'/\HR (k0 ok0 ρ H w) ρ' H' w' ∧
         ZaB (cx (k0 ok0 ρ H w) ⟨ρ,noB⟩ H w) (cx (k0 ok0 ρ H w) ⟨ρ',noB⟩ H' w')) ops2.toList ios 0 (ops:=ops2) (by simp) hst r4 hpath (λg' a' w' h1 h2=>hdone g' a' w' _ h1 hH (by rw [h2];exact hdf))
        rwa [Zd,← List.range_eq_range'] at this
       | false =>
        refine wpSIn_cond (t:=false) (by rw [Zee (by rw [r3.tsz];exact n3.2)]) ?_
        refine wpSIn_of_wpIn rfl (wpIn_skip ?_)
        exact hdone _ _ _ _ r4 (hp2 rfl).symm hdf
      simp only [wpOpsSIn,ZB,Zt,Zs] at hstep
      rcases hrecD with h1|⟨h1,h2,h3⟩
      ·rw [h1]
       exact hstep
      subst h2
      rw [h3,h1] at hstep
      rw [h1]
      exact hstep
     cases hk
    cases hk
   cases hk
  cases hk
 cases hk
theorem ZlN {f:Nat}{args:List AV}{ios:List IOp}(hk:chkR P f args.length ios=true)(hno:noLocL args=true)(hp:ZiH ios ⟨Zdd args 0,[],H⟩ s')(hH:s'.H=H'):Znl P f args H (.panicking (pvl t)) (recM t) H' :=
 Zlk hk hno _ _ (.iface t (.agg #[])) true (λc₀ cs hu=>.inl (by
  simp only [recoverD,hu,pvl]
  rfl)) (.inl ⟨rfl,t,rfl⟩) (λ_=>⟨hp,hH⟩) (λe=>by cases e)
theorem Zhp {f:Nat}{args:List AV}{ios:List IOp}(hk:chkR P f args.length ios=true)(hno:noLocL args=true):Znl P f args H .returning .returning H :=
 Zlk (s':=⟨[],[],H⟩) hk hno _ _ .nilIface false (λc₀ cs hu=>.inr ⟨by simp only [recoverD,hu],rfl,rfl⟩) (.inr ⟨rfl,rfl⟩) (λe=>by cases e) (λ_=>rfl)
end
end Go.Eng

namespace Go.Eng
open Go
structure DFn where
 nargs:Nat
 nt:Nat
 pre:List IC
 ops:List IOp
 d:Nat
 rest:IC
 res:List RV
def Zji (P:Program)(n:Nat)(ops:Array Oper)(ios:List IOp)(d:Nat):Bool:=match ops.toList.reverse with
 | q::xs=>Zcb P n ops xs.reverse ios&&q.guard.isNone&&q.dst.isNone&&(match q.op with
  | .defer { callee:=.value X,args:=as,argTypes:=_ }=>Zcn X (.t d)&&decide (as.toList=[])
  | _=>false)
 | []=>false
def Zic (P:Program)(n:Nat):Code->List IC->List IOp->Nat->IC->Bool
 | .seq a b,ic::ics,ios,d,rest=>chkC P n a ic&&Zic P n b ics ios d rest
 | .seq (.region _ ops false) b,[],ios,d,rest=>Zji P n ops ios d&&chkC P n b rest
 | _,_,_,_,_=>false
def Zor (P:Program)(f:Nat)(F:DFn):Bool:=match P.funcs[f]? with
 | some fn=>(match fn.body with
  | some c=>Zic P fn.ntmps c F.pre F.ops F.d F.rest&&ZdM P fn.results.toList F.res&&decide (F.nargs<=fn.ntmps)&&decide (fn.ntmps=F.nt) && !(fn.name == "runtime.NumGoroutine")
  | none=>false)
 | none=>false
@[reducible] def preQ (E next:St->Prop):Exit->St->Prop
 | .normal,s=>next s
 | .ret,s=>E s
 | _,_=>False
def ZlJ (P:Program)(n:Nat):List IC->(St->Prop)->(St->Prop)->St->Prop
 | [],E,K,s=>K s
 | ic::ics,E,K,s=>vc P n ic (preQ E (ZlJ P n ics E K)) s
def PreI (P:Program)(n:Nat):List IC->St->Bool->St->Prop
 | [],s,b,s'=>b=false/\s'=s
 | ic::ics,s,b,s'=>∃ e s1,EvI P n ic s (λe1 s2=>e1=e/\s2=s1)/\((e=.normal/\PreI P n ics s1 b s')∨(e=.ret/\b=true/\s'=s1))
section
variable {P:Program} {k:K0} {n:Nat} {g:G} {s s1 s':St} {a:Act} {w:World} {t:TypeId} {H H':List HO}
theorem Zjt {E K:St->Prop}:∀ {ics:List IC} {s:St},ZlJ P n ics E K s->∃ b s',PreI P n ics s b s'/\(b=true->E s')/\(b=false->K s')
 | [],s,h=>⟨false,s,⟨rfl,rfl⟩,(λe=>by cases e),λ_=>h⟩
 | ic::ics,s,h=>by
  obtain ⟨e,s1,h1,h2⟩:=vcd ic h
  have h1:=Zao ic _ s h1
  cases e with
  | normal =>
   obtain ⟨b,s',h3,h4,h5⟩:=Zjt h2
   exact ⟨b,s',⟨_,s1,h1,.inl ⟨rfl,h3⟩⟩,h4,h5⟩
  | ret=>exact ⟨true,s1,⟨_,s1,h1,.inr ⟨rfl,rfl,rfl⟩⟩,λ_=>h2,(λe=>by cases e)⟩
  | _=>exact h2.elim
theorem Zk2 {b:Bool}{ios:List IOp}{d:Nat}{rest:IC}{Q:Exit->Act->World->Prop}:∀ {ics:List IC} {c:Code} {s:St} {g:G} {a:Act} {w:World},PreI P n ics s b s'->Zic P n c ics ios d rest=true->Rel k n g s a w →
  (b=true->∀ g a w,Rel k n g s' a w->Q .ret a w)->(b=false->∀ c g a w,Zic P n c [] ios d rest=true->Rel k n g s' a w->c.wpIn (FR k.rd) 0 P Q a w)->c.wpIn (FR k.rd) 0 P Q a w
 | [],c,s,g,a,w,hp,hc,h,h1,h2=>by
  obtain ⟨rfl,rfl⟩:=hp
  exact h2 rfl c g a w hc h
 | ic::ics,c,s,g,a,w,hp,hc,h,h1,h2=>by
  cases c with
  | seq c1 c2 =>
   simp only [Zic,Ze] at hc
   obtain ⟨e,s1,hE,hp⟩:=hp
   refine wpIn_seq (wpIn_mono (hE c1 hc.1 k g a w h) ?_)
   rintro e1 a1 w1 ⟨s2,g2,q1,q2,q3⟩
   subst q2 q3
   rcases hp with ⟨rfl,hp⟩|⟨rfl,hb,rfl⟩
   ·exact Zk2 hp hc.2 q1 h1 h2
   exact h1 hb g2 a1 w1 q1
  | _=>simp [Zic] at hc
theorem ZmK {ops:Array Oper}{r:Option Nat}{Q:Exit->Act->World->Prop}{tail:List Nat}:∀ (os:List Oper) (ios:List IOp) (st:Nat) {g:G} {s:St} {a:Act} {w:World},(∀ j,j<os.length->os[j]?=ops[st+j]?)->Zcb P n ops os ios=true->Rel k n g s a w->Z4 P ios s s' →
  (∀ g' a' w',Rel k n g' s' a' w'->wpOpsIn (FR r) 0 P ops Q tail a' w')->wpOpsIn (FR r) 0 P ops Q (List.range' st os.length++tail) a w
 | [],[],st,g,s,a,w,_,_,h,hp,hQ=>by
  simp only [Z4] at hp
  subst hp
  simpa using hQ g a w h
 | o::os,io::ios,st,g,s,a,w,hos,hc,h,hp,hQ=>by
  simp only [Z4] at hp
  obtain ⟨s1,h1,h2⟩:=hp
  simp only [Zcb,Ze] at hc
  have h0:=hos 0 (by simp)
  simp only [Zt,ZP] at h0
  simp only [ZD,ZM,Zo]
  rw [wpOpsIn_cons]
  refine ZgV h h0.symm hc.1 h1 r (λg' a' w' h3=>?_)
  exact ZmK os ios (st+1) (λj hj=>by have:=hos (j+1) (by simp;omega);simpa [ZN,Nat.add_comm 1 j] using this) hc.2 h3 h2 hQ
 | [],_::_,_,_,_,_,_,_,hc,_,_,_=>by simp [Zcb] at hc
 | _::_,[],_,_,_,_,_,_,hc,_,_,_=>by simp [Zcb] at hc
def kD (k:K0)(g:G)(H:List HO)(w:World)(d:Deferred):K0:={ k with tl:=[d],hw:=w,β0:=g.β,ρ0:=g.ρ,H0:=H }
theorem Rel.deferred (h:Rel k n g s a w)(htl:k.tl=[])(d:Deferred):Rel (kD k g s.H w d) n g s { a with defers:=d::a.defers } w :=
 {defers:=by
   obtain ⟨ms,ms2,e,h1,h2⟩:=h.defers
   refine ⟨[],ms++ms2,?_,by simpa using h1,λD hD=>h2 D (by simpa using hD)⟩
   show d::a.defers=_
   rw [e,htl]
   simp [kD]
  rnd:=h.rnd
  tsz:=h.tsz
  slots:=h.slots
  tops:=h.tops
  boxes:=h.boxes
  boxed:=h.boxed
  heap:=h.heap
  len:=h.len
  inj:=h.inj
  binj:=h.binj
  apart:=h.apart
  own:=h.own
  keep:=h.keep
  hist:=ZaB.refl _ }
theorem ZnO {ops:Array Oper}{ios:List IOp}{d:Nat}{fc:Nat}{caps:List AV}(h:Rel k n g s a w)(hrd:k.rd=none)(htl:k.tl=[])(hc:Zji P n ops ios d=true)(hp:Z4 P ios s s1)(hd:get s1.fr d=.fn fc [] caps){id:Nat}{Q:Exit->Act->World->Prop}
  (hQ:∀ g1 a1 w1 (us:List Value),Rel k n g1 s1 a1 w1->VRL (cx k g1 s1.H w1) caps us->Q .normal { a1 with defers:={ target:=.fn (.func fc) us.toArray,args := #[] }::a1.defers } w1):(Code.region id ops false).wpIn (FR k.rd) 0 P Q a w:=by
 rw [hrd]
 refine wpIn_region ?_
 unfold Zji at hc
 split at hc
 ·rename_i q xs hl
  simp only [Ze,ZS] at hc
  obtain ⟨⟨⟨hcs,hg⟩,hdst⟩,hq⟩:=hc
  have hl2:ops.toList=xs.reverse++[q]:=by
   have:=congrArg List.reverse hl
   simpa using this
  have hsz:ops.size=xs.reverse.length+1:=by
   rw [← Zd,hl2];simp
  have hrange:List.range ops.size=List.range' 0 xs.reverse.length++[xs.reverse.length]:=by
   rw [hsz,List.range_succ,List.range_eq_range']
  rw [hrange]
  refine ZmK xs.reverse ios 0 (λj hj=>?_) hcs h hp (λg1 a1 w1 h1=>?_)
  ·rw [ZQ,← Array.getElem?_toList,hl2,Zq hj]
  have hoq:ops[xs.reverse.length]?=some q:=by
   rw [← Array.getElem?_toList,hl2,Zr (Nat.le_refl _),Nat.sub_self]
   rfl
  rw [wpOpsIn_cons]
  unfold wpOpIn
  rw [hoq]
  simp only
  rw [Z0 (by simp [Region.wanted,hg])]
  split at hq
  ·rename_i X as ts hop
   simp only [Ze,ZX] at hq
   obtain ⟨hX,has⟩:=hq
   have has':as = #[]:=by apply Array.ext';rw [has]
   subst has'
   have hv:=Zbe h1 hX
   rw [show ev s1.fr (.t d)=get s1.fr d from rfl,hd,VR] at hv
   obtain ⟨us1,us2,e,hv1,hv2⟩:=hv
   rw [VRL] at hv1
   subst hv1
   refine ⟨λ_ _=>trivial,?_⟩
   have hrun:(q.semAt (FR none).round a1.eval).run P w1=.ok (.defer { target:=.fn (.func fc) us2.toArray,args := #[] }) w1:=by
    rw [show (FR none).round=none from rfl,Oper.semAt_none]
    simp only [execOp,hop,resolve,Sem.run_bind,e,Deferred.ofValue,Sem.run_pure,Result.andThen_ok]
    simp
   rw [hrun,Oper.uponIn_defer,hdst]
   simp only [wpOpsIn,Act.put]
   exact hQ g1 a1 w1 us2 h1 hv2
  cases hq
 cases hc
inductive Zjq (t:TypeId):Exit->FrameMode->FrameMode->Prop
 | normal:Zjq t .normal .returning .returning
 | ret:Zjq t .ret .returning .returning
 | panic:Zjq t (.panic (pvl t)) (.panicking (pvl t)) (recM t)
theorem ZeA {ok0:Addr->Prop}{ρ:List Nat}{w0:World}{fn:Func}{res:List RV}{xs:List AV}{g1:G}{w1:World}{fc:Nat}{caps:List AV}{us:List Value}{u u':FrameMode}{H2:List HO}{r:AV}{H1:List HO}
  (hres:ZdM P fn.results.toList res=true) (hu:u≠.run) (hset:settle u'=.returning) (hcaps:VRL (cx (k0 ok0 ρ H w0) g1 H1 w1) caps us) (hno:noLocL caps=true)
  (h0:ZaB (cx (k0 ok0 ρ H w0) ⟨ρ,noB⟩ H w0) (cx (k0 ok0 ρ H w0) g1 H1 w1))
  (h:Rel (kD (k0 ok0 ρ H w0) g1 H1 w1 { target:=.fn (.func fc) us.toArray,args := #[] }) n g s a w) (hF:Znl P fc caps s.H u u' H2)
  (hx:rawL ⟨s.fr,s.bx,H2⟩ res=some xs) (hr:Zbr xs=r) (hnr:Zaw r=true) :
  LeavesInM (FR none) 0 P fn a.tmps (λe w'=>∃ v ρ',e=.returned v/\HR (k0 ok0 ρ H w0) ρ' H2 w'/\VR (cx (k0 ok0 ρ H w0) ⟨ρ',noB⟩ H2 w') r v ∧
   ZaB (cx (k0 ok0 ρ H w0) ⟨ρ,noB⟩ H w0) (cx (k0 ok0 ρ H w0) ⟨ρ',noB⟩ H2 w')) a.defers u w:=by
 refine h.leavesTail hu λw2 ms2 h2 hn hm=>?_
 have htl:(kD (k0 ok0 ρ H w0) g1 H1 w1 { target:=.fn (.func fc) us.toArray,args := #[] }).tl=[{ target:=.fn (.func fc) us.toArray,args := #[] }]:=rfl
 rw [htl] at h2 ⊢
 rw [List.singleton_append] at h2 ⊢
 refine ⟨hu,.inr ⟨(λe=>by cases e),.func fc,us.toArray,fc,us.toArray,rfl,?_,λ_ _=>trivial,?_⟩⟩
 ·show (invoke (.fn (.func fc) us.toArray) #[]).run P w2=_
  simp only [invoke]
  rw [Zb7 hF.1]
  simp
 have hv:VRL (cx (k0 ok0 ρ H w0) g s.H w2) caps us:=VRL.later (c:=cx (k0 ok0 ρ H w0) g1 H1 w1) h2.hist caps us hno hcaps
 refine (hF.2 (okOf (kD (k0 ok0 ρ H w0) g1 H1 w1 { target:=.fn (.func fc) us.toArray,args := #[] }) s.H g) g.ρ w2 us h2.hr (VRL.later h2.laterCall caps us hno hv)).mono ?_
 rintro e u2 w3 ⟨v,ρ',rfl,rfl,h3,h4⟩
 obtain ⟨h5,h6⟩:=h2.back h3 h4
 simp only
 rw [hset]
 have h7:Rel { kD (k0 ok0 ρ H w0) g1 H1 w1 { target:=.fn (.func fc) us.toArray,args := #[] } with tl:=[] } n ⟨ρ',g.β⟩ ⟨s.fr,s.bx,H2⟩ { a with defers:=ms2.map (λD=>{ target:=.collected D,args := #[] }) } w3 :=
  {defers:=by
    obtain ⟨ns,ns2,e,e1,e2⟩:=h5.defers
    rw [htl] at e
    have hns:ns=[]:=by
     cases ns with
     | nil=>rfl
     | cons D ns =>
      simp only [ZI,Zo,Zn] at e
      have:=congrArg Deferred.target e.1
      cases this
    subst hns
    simp only [ZJ,ZL,Zo,Zn,true_and] at e
    exact ⟨[],ns2,by simpa using e,by simpa using e1,by simpa using e2⟩
   rnd:=h5.rnd
   tsz:=h5.tsz
   slots:=h5.slots
   tops:=h5.tops
   boxes:=h5.boxes
   boxed:=h5.boxed
   heap:=h5.heap
   len:=h5.len
   inj:=h5.inj
   binj:=h5.binj
   apart:=h5.apart
   own:=h5.own
   keep:=h5.keep
   hist:=h5.hist }
 refine Rel.leavesAll (fn:=fn) h7 (λw4 h8=>?_) rfl
 obtain ⟨v4,v1,v2⟩:=Zfl h8 hres hx
 refine ⟨v4,v1,v4,ρ',rfl,?_,?_,?_⟩
 ·have:=h8.toHR
  exact { heap:=this.heap,len:=this.len,inj:=this.inj,own:=this.own,keep:=this.keep }
 ·rw [hr] at v2
  exact VR.later h8.noBoxes _ _ hnr v2
 exact h0.trans (h8.hist.trans h8.noBoxes)
theorem ZkZ {f:Nat}{F:DFn}(hk:Zor P f F=true){args:List AV}(t:TypeId)(K:AV->List HO->Prop)(hK:∀ r H,K r H->Zaw r=true)(hl:args.length=F.nargs)(hno:noLocL args=true)
  (h:ZlJ P F.nt F.pre (λs'=>∃ xs,rawL s' F.res=some xs/\K (Zbr xs) s'.H)
   (λs1=>∃ s2 fc caps,Z4 P F.ops s1 s2/\get s2.fr F.d=.fn fc [] caps/\noLocL caps=true ∧
    vc P F.nt F.rest (λe s'=>∃ u u' H2 xs,Zjq t e u u'/\Znl P fc caps s'.H u u' H2/\rawL ⟨s'.fr,s'.bx,H2⟩ F.res=some xs/\K (Zbr xs) H2) s2) ⟨Zdd args 0,[],H⟩):∃ r H',ZbR P f args H r H'/\K r H':=by
 obtain ⟨b,s',hpre,hE,hKK⟩:=Zjt h
 unfold Zor at hk
 split at hk
 ·rename_i fn hf
  split at hk
  ·rename_i c hb
   simp only [Ze,ZX,Zg] at hk
   obtain ⟨⟨⟨⟨hc,hres⟩,hna⟩,hnt⟩,hname⟩:=hk
   rw [hnt] at hc
   cases b with
   | true =>
    obtain ⟨xs,x1,x2⟩:=hE rfl
    refine ⟨Zbr xs,s'.H,⟨⟨fn,hf,by rw [hb];rfl,hname⟩,hK _ _ x2,λok0 ρ w vs hhr hv=>?_⟩,x2⟩
    have hrel:=ZdZ (n:=fn.ntmps) hhr hv hno (by omega)
    rw [hnt] at hrel
    refine ZfS (r:=none) (m:=0) (callsIn_of_wp_marks hf hb trivial ?_)
    rw [hnt]
    refine Zk2 (k:=k0 ok0 ρ H w) hpre hc hrel (λ_ g' a' w' h1=>?_) (λe=>by cases e)
    refine h1.leavesAll (λw2 h2=>?_) rfl
    obtain ⟨v,v1,v2⟩:=Zfl h2 hres x1
    exact ⟨v,v1,v,g'.ρ,rfl,h2.toHR,VR.later h2.noBoxes _ _ (hK _ _ x2) v2,h2.hist.trans h2.noBoxes⟩
   | false =>
    obtain ⟨s2,fc,caps,hp,hd,hcaps,hrest⟩:=hKK rfl
    obtain ⟨e,s3,h1,u,u',H2,xs,hlv,hF,x1,x2⟩:=vcd _ hrest
    have h1:=Zao _ _ _ h1
    refine ⟨Zbr xs,H2,⟨⟨fn,hf,by rw [hb];rfl,hname⟩,hK _ _ x2,λok0 ρ w vs hhr hv=>?_⟩,x2⟩
    have hrel:=ZdZ (n:=fn.ntmps) hhr hv hno (by omega)
    rw [hnt] at hrel
    refine ZfS (r:=none) (m:=0) (callsIn_of_wp_marks hf hb trivial ?_)
    rw [hnt]
    refine Zk2 (k:=k0 ok0 ρ H w) hpre hc hrel (λe=>by cases e) (λ_ c1 g1 a1 w1 hc1 r1=>?_)
    cases c1 with
    | seq cD cR =>
     cases cD with
     | region id ops draw =>
      cases draw with
      | true=>simp [Zic] at hc1
      | false =>
       simp only [Zic,Ze] at hc1
       refine wpIn_seq (ZnO r1 rfl rfl hc1.1 hp hd λg2 a2 w2 us r2 hus=>?_)
       have r3:=r2.deferred rfl { target:=.fn (.func fc) us.toArray,args := #[] }
       refine wpIn_mono (h1 cR hc1.2 (kD (k0 ok0 ρ H w) g2 s2.H w2 { target:=.fn (.func fc) us.toArray,args := #[] }) g2 _ w2 r3) ?_
       rintro e1 a3 w3 ⟨s4,g4,r4,q1,q2⟩
       subst q1 q2
       have h0:ZaB (cx (k0 ok0 ρ H w) ⟨ρ,noB⟩ H w) (cx (k0 ok0 ρ H w) g2 s2.H w2):=r2.hist
       cases hlv with
       | normal=>exact ZeA hres (by simp) rfl hus hcaps h0 r4 hF x1 rfl (hK _ _ x2)
       | ret=>exact ZeA hres (by simp) rfl hus hcaps h0 r4 hF x1 rfl (hK _ _ x2)
       | panic=>exact ZeA hres (by simp) (Zkw t) hus hcaps h0 r4 hF x1 rfl (hK _ _ x2)
     | _=>simp [Zic] at hc1
    | _=>simp [Zic] at hc1
  cases hk
 cases hk
end
end Go.Eng

namespace Go.Eng
open Go
section
variable {P:Program} {w w':World}
theorem ZmF {ok0:Addr->Prop}{ρ':List Nat}{H':List HO}(h:HR (k0 ok0 [] [] w) ρ' H' w')(hl:ZaB (cx (k0 ok0 [] [] w) ⟨[],noB⟩ [] w) (cx (k0 ok0 [] [] w) ⟨ρ',noB⟩ H' w')) :
  Rel (k0 ok0 [] [] w) 0 ⟨ρ',noB⟩ ⟨[],[],H'⟩ { tmps := #[],defers:=[] } w' :=
 {defers:=⟨[],[],rfl,List.nodup_nil,λD h=>(by cases h)⟩
  rnd:=λl h=>(by cases h)
  tsz:=rfl
  slots:=λt=>by simp [get,VR]
  tops:=λt=>rfl
  boxes:=λt cs e=>by simp [bget] at e
  boxed:=λt b e=>by cases e
  heap:=h.heap
  len:=h.len
  inj:=h.inj
  binj:=λt u b e=>by cases e
  apart:=λt i b e=>by cases e
  own:=h.own
  keep:=h.keep
  hist:=hl }
theorem ZjQ {f:Nat}{args xs rs:List AV}{b:AV}{H' H2:List HO}(h:ZbR P f args [] (.tup xs) H')(hpa:Zdz args=true)(hpr:Zdz rs=true)(hs:ZlF b H' H2)(hlen:xs.length=rs.length)(hr:∀ (j:Nat) x r,xs[j]?=some x->rs[j]?=some r->ZdU H2 x=some r):Zbk P f args (.tup rs):=by
 obtain ⟨h1,h2,h3⟩:=h
 refine ⟨hpr,hpa,h1,by simpa [Zaw] using Zcq hpr,λok0 ρ w vs hhr hv=>?_⟩
 have hρ:ρ=[]:=List.eq_nil_of_length_eq_zero hhr.len
 subst hρ
 refine (h3 ok0 [] w vs hhr hv).mono ?_
 rintro e w2 ⟨v,ρ',rfl,g1,g2,g3⟩
 have hrel:=ZmF g1 g3
 obtain ⟨r1,l1⟩:=hs P _ _ _ _ _ _ hrel rfl
 have hv2:=VR.later l1 _ v h2 g2
 rw [VR] at hv2
 obtain ⟨us,rfl,hus⟩:=hv2
 have hg:Grow w w2:=⟨r1.keep.os,r1.keep.tape,r1.keep.output,r1.keep.size,λi hi=>r1.keep.block i hi (λ⟨j,hj⟩=>by simp at hj)⟩
 have h5:VRL (cx (k0 ok0 [] [] w) ⟨[],noB⟩ [] w2) rs us:=by
  rw [Zco] at hus ⊢
  refine ⟨by omega,λj r u hr' hu=>?_⟩
  have hjl:j<xs.length:=by rw [hlen];exact (List.getElem?_eq_some_iff.1 hr').1
  have hx:=Zv hjl
  exact (Zhr r1 (hr j _ r hx hr') (hus.2 j _ u hx hu)).1
 refine ⟨_,[],rfl,?_,by rw [VR];exact ⟨us,rfl,h5⟩,Zck hg []⟩
 exact
  {heap:=λid o e=>by simp at e
   len:=rfl
   inj:=λi j b e=>by simp at e
   own:=λi b e=>by simp at e
   keep:=r1.keep }
theorem ZmB {H:List HO}(b:AV):ZlF b H H:=λP k n g s a0 w h hs=>⟨by subst hs;exact h,ZaB.refl _⟩
theorem Znr {H:List HO}{x y z p q r:AV}(h1:ZdU H x=some p)(h2:ZdU H y=some q)(h3:ZdU H z=some r):∀ (j:Nat) u v,[x,y,z][j]?=some u->[p,q,r][j]?=some v->ZdU H u=some v
 | 0,u,v,e1,e2=>by simp only [Zt,ZU] at e1 e2;subst e1 e2;exact h1
 | 1,u,v,e1,e2=>by simp only [Zs,Zt,ZU] at e1 e2;subst e1 e2;exact h2
 | 2,u,v,e1,e2=>by simp only [Zs,Zt,ZU] at e1 e2;subst e1 e2;exact h3
 | _+3,u,v,e1,e2=>by simp at e1
end
section
variable {P:Program} {n:Nat} {s:St} {Q:Exit->St->Prop} {t:TypeId}
theorem ZuE (h:Q (.panic (pvl t)) (ZcP [] s)):vc P n (.die t) Q s:=h
theorem tp {next:St->Prop}(h:Q (.panic (pvl t)) s):Zfw next Q (.panic (pvl t)) s:=h
theorem bp {id:Nat}(h:Q (.panic (pvl t)) s):Zdy id Q (.panic (pvl t)) s:=h
theorem pq1 {ic:IC}{ics:List IC}{E K:St->Prop}(h:vc P n ic (preQ E (ZlJ P n ics E K)) s):ZlJ P n (ic::ics) E K s:=h
theorem pn {E next:St->Prop}(h:next s):preQ E next .normal s:=h
theorem pr {E next:St->Prop}(h:E s):preQ E next .ret s:=h
theorem pk0 {E K:St->Prop}(h:K s):ZlJ P n [] E K s:=h
end
end Go.Eng

