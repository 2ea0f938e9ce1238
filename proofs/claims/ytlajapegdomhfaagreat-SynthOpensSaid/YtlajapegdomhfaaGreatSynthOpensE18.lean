/-Part of the proof. -/
import Derived.Test.YtlajapegdomhfaaGreatSynthOpensE13
import Derived.KernelRfl
import Derived.DataReads
import Derived.Carry
import Derived.OpenShut
set_option linter.all false
namespace Go.Eng
open Go
def idx {α:Type}(l:List α)(i:Int):Option α:=if 0<=i then l[i.toNat]? else none
def quoI (k:IntKind)(a b:Int):Option Int:=if b=0 then none else some (k.wrap (a.tdiv b))
def remI (a b:Int):Option Int:=if b=0 then none else some (a.tmod b)
def subI {α:Type}(l:List α)(lo hi:Int):Option (List α):=if 0<=lo/\lo<=hi/\hi<=l.length then some ((l.take hi.toNat).drop lo.toNat)else none
def appI {α:Type}(bytes:Nat)(l m:List α):Option (List α):=if(l.length+m.length)*bytes<=140737488355328/\l.length+m.length<=140737488355328 then some (l++m)else none
def Zgs {α:Type}(bytes:Nat)(n c:Int)(z:α):Option (List α):=if 0<=n/\n<=c/\c*bytes<=140737488355328/\c<=140737488355328 then some (List.replicate n.toNat z)else none
def w64 (x:Int):Int:=IntKind.i64.wrap x
def eI (k:IntKind)(x:Int):List PC:=[.int k x]
def eI64 (x:Int):List PC:=[.int .i64 x]
def eB (b:Bool):List PC:=[.bool b]
def eSl {α:Type}(sz:Nat)(enc:α->List PC)(l:List α):List PC:=[.sl sz false (l.map enc)]
def ZaT {σ ρ:Type}(body:σ->Option (σ⊕ρ)):Nat->σ->Option ρ
 |0,_=>none
 |m+1,x=>match body x with
  |none=>none
  |some (.inl y)=>ZaT body m y
  |some (.inr r)=>some r
def bind_some {α β:Type}{o:Option α}{f:α->Option β}{r:β}(h:o.bind f=some r):∃v,o=some v/\f v=some r:=by
 cases o with
 |none=>simp at h
 |some v=>exact⟨v,rfl,h⟩
def Zby {α:Type}{a b:α}(h:some a=some b):a=b:=Option.some.inj h
def Zl1 {α:Type}{l:List α}{i:Int}{e:α}(enc:α->List PC)(h:idx l i=some e):(0<=i/\i<(l.map enc).length)/\(l.map enc)[i.toNat]?=some (enc e):=by
 unfold idx at h;split at h
 ·rename_i h0;have h1:=(List.getElem?_eq_some_iff.1 h).1;refine⟨⟨h0,?_⟩,by rw[ZN,h];rfl⟩;simp only[ZX];omega
 cases h
def ZsN {α:Type}{l:List α}{sz:Nat}{f:Bool}{k:IntKind}{i:Int}{e:α}(enc:α->List PC)(h:idx l i=some e):
  Zbc (.iaddrS sz) [.p (.sl sz f (l.map enc)),.p (.int k i)]=some (.ppt sz (l.map enc) i.toNat 0):=by
 have h1:=(Zl1 enc h).1;simp only[Zbc,true_and];rw[Zav ⟨h1.1,h1.2⟩]
def ZsM {k:IntKind}{a b r:Int}(h:quoI k a b=some r):Zbc (.bin .quo) [.p (.int k a),.p (.int k b)]=some (.p (.int k r)):=by
 unfold quoI at h;simp only[Zbc,binI,Zaw];split at h
 ·cases h
 rename_i hb;cases h;rw[Zau hb];rfl
def ZwG {k:IntKind}{a b r:Int}(h:remI a b=some r):Zbc (.bin .rem) [.p (.int k a),.p (.int k b)]=some (.p (.int k r)):=by
 unfold remI at h;simp only[Zbc,binI,Zaw];split at h
 ·cases h
 rename_i hb;cases h;rw[Zau hb];rfl
def ZwI {α:Type}{l:List α}{sz:Nat}{f:Bool}(enc:α->List PC):Zbc .len [.p (.sl sz f (l.map enc))]=some (.p (.int .i64 l.length)):=by
 simp[Zbc]
def ZwP {α:Type}{l r:List α}{lo hi:Int}(enc:α->List PC)(h:subI l lo hi=some r):0<=lo/\lo<=hi/\hi<=l.length/\r=(l.take hi.toNat).drop lo.toNat/\r.map enc=((l.map enc).take hi.toNat).drop lo.toNat:=by
 unfold subI at h;split at h
 ·rename_i h1;cases h;exact⟨h1.1,h1.2.1,h1.2.2,rfl,by simp[List.map_drop,List.map_take]⟩
 cases h
def ZgL {α:Type}{l r:List α}{sz:Nat}{f:Bool}{hi:Int}{k':IntKind}(enc:α->List PC)(h:subI l 0 hi=some r):
  Zbc (.slice sz false true false) [.p (.sl sz f (l.map enc)),.p (.int k' hi)]=some (.p (.sl sz false (r.map enc))):=by
 obtain⟨h1,h2,h3,_,h5⟩:=ZwP enc h;simp only[Zbc,Zlg,ZfI,Zaw,Zak,h2,Zg,Zat,List.isEmpty_nil,ZX];rw[Zav ⟨trivial,by omega,by omega,trivial,trivial,by simp⟩,h5];rfl
abbrev iv (x:Int):AV:=.p (.int .i64 x)
abbrev bv (b:Bool):AV:=.p (.bool b)
inductive Za0 where
 |arr (a:AV) (sz:Nat) (frz:Bool) (rows:List (List PC))
 |cel (id:Nat) (cs:List AV)
 |lp (id:Nat) (L:LC) (fr:List (Nat×AV)) (st:LS)
 |fam (id n:Nat) (as:List AV) (sz:Nat) (frz:Bool) (rows:List (List (List PC)))
 |deep (a:AV) (sz:Nat) (u:Bool) (cs:List PC) (rows:List (Int×List (List PC)))
 |rag (a:AV) (sz:Nat) (cs:List PC) (rows:List (List (List PC))) (hole:Option Nat)
def ZLm (cs:List PC)(rows:List (Int×List (List PC))):List (List PC):=List.zipWith (λc r=>[.int .i64 r.1,c]) cs rows
def Lies (H:List HO):Za0->Prop
 |.arr a sz frz rows=>(a=.p (.sl sz true [])/\rows=[])∨∃id ver,a=.osl sz id ver 0 rows.length/\∃f,(frz=false->f=false)/\H[id]?=some (.arr sz ver f rows)
 |.cel id cs=>H[id]?=some (.cells cs)
 |.lp id L fr st=>H[id]?=some (.lp L fr st)
 |.fam id n as sz frz rows=>H[id]?=some (.cells as)/\as.length=n/\rows.length=n∧
  (∀(i:Nat) a r,as[i]?=some a->rows[i]?=some r->(a=.p (.sl sz true [])/\r=[])∨∃id ver,a=.osl sz id ver 0 r.length/\∃f,(frz=false->f=false)/\H[id]?=some (.arr sz ver f r))∧
  ∀(i j q s1 v1 o1 l1 s2 v2 o2 l2:Nat),as[i]?=some (.osl s1 q v1 o1 l1)->as[j]?=some (.osl s2 q v2 o2 l2)->i=j
 |.deep a sz u cs rows=>cs.length=rows.length∧
  ((a=.p (.sl 2 true [])/\rows=[])∨∃id ver,a=.osl 2 id ver 0 rows.length/\H[id]?=some (.arr 2 ver false (ZLm cs rows))/\∀s1 v1 l1,.ow s1 id v1 l1∉cs)∧
  (∀(i:Nat) c r,cs[i]?=some c->rows[i]?=some r->(c=.sl sz true []/\r.2=[])∨∃q ver,c=.ow sz q ver r.2.length/\H[q]?=some (.arr sz ver false r.2))∧
  (u=true->∀(i j q s1 v1 l1 s2 v2 l2:Nat),cs[i]?=some (.ow s1 q v1 l1)->cs[j]?=some (.ow s2 q v2 l2)->i=j)
 |.rag a sz cs rows hole=>cs.length=rows.length∧
  ((a=.p (.sl 1 true [])/\rows=[])∨∃id ver,a=.osl 1 id ver 0 rows.length/\H[id]?=some (.arr 1 ver false (cs.map λc=>[c]))/\∀s1 v1 l1,.ow s1 id v1 l1∉cs)∧
  (∀(i:Nat) c r,hole≠some i->cs[i]?=some c->rows[i]?=some r->(c=.sl sz true []/\r=[])∨∃q ver,c=.ow sz q ver r.length/\H[q]?=some (.arr sz ver false r))∧
  (∀(i:Nat) c,cs[i]?=some c->(∃q ver l,c=.ow sz q ver l)∨c=.sl sz true [])∧
  ∀(i j q s1 v1 l1 s2 v2 l2:Nat),cs[i]?=some (.ow s1 q v1 l1)->cs[j]?=some (.ow s2 q v2 l2)->i=j
def Occ:Za0->Nat->Prop
 |.arr a _ _ _,id=>∃sz ver off len,a=.osl sz id ver off len
 |.cel id' _,id=>id'=id
 |.lp id' _ _ _,id=>id'=id
 |.fam id' _ as _ _ _,id=>id'=id∨∃sz ver off len,.osl sz id ver off len∈as
 |.deep a _ _ cs _,id=>(∃sz ver off len,a=.osl sz id ver off len)∨∃sz ver len,.ow sz id ver len∈cs
 |.rag a _ cs _ hole,id=>(∃sz ver off len,a=.osl sz id ver off len)∨∃(i sz ver len:Nat),hole≠some i/\cs[i]?=some (.ow sz id ver len)
def HP (H:List HO):List Za0->Prop
 |[]=>True
 |i::is=>Lies H i/\(∀id,Occ i id->∀j∈is,¬Occ j id)/\HP H is
def HP.nil (H:List HO):HP H []:=trivial
section
variable {P:Program} {n:Nat} {s s1 s2:St}
def ZeM:Zuf:=λ_ _ _=>none
def Zwj:ZoO P ZeM:=λ_ _ _ _ _ h=>by cases h
def opsD (ops:List IOp)(s:St):St:=(opsF ZeM ops s).getD s
def Zbn.append {a b:List IOp}:∀{s:St},Zbn P a s s1->Zbn P b s1 s2->Zbn P (a++b) s s2:=by
 induction a with
 |nil=>intro s h1 h2;simp only[Zbn]at h1;subst h1;exact h2
 |cons o os ih=>
  intro s h1 h2;obtain⟨s',h3,h4⟩:=h1;exact⟨s',h3,ih h4 h2⟩
def ZpJ {ops:List IOp}(h:(opsF ZeM ops s).isSome=true):Zbn P ops s (opsD ops s):=by
 cases hs:opsF ZeM ops s with
 |none=>rw[hs]at h;cases h
 |some s'=>unfold opsD;rw[hs];exact Zrd Zwj hs
def Zbn.chunk {ops:List IOp}(m:Nat)(h:(opsF ZeM (ops.take m) s).isSome=true)(rest:Zbn P (ops.drop m) (opsD (ops.take m) s) s2):Zbn P ops s s2:=by
 have:=(ZpJ (P:=P) h).append rest
 rwa [List.take_append_drop]at this
def Zb7 {d:Nat}{v:VI}{xs:List IX}{ys:List AV}{r:AV}(hx:xs.map (ev s.fr)=ys:=by kernel_rfl)(h:Zbc v ys=some r):ZaS P (.val d v xs) s ⟨put s.fr d r,s.bx,s.H⟩:=by
 simp only[ZaS,Zbb,hx,h,Zam]
def Zya {α:Type}{l:List α}{i:Int}{e:α}{d:Nat}{x:IX}{m sz off:Nat}{isA:Bool}{cs:List PC}{r:AV}(enc:α->List PC)(h:idx l i=some e)
  (hx:ev s.fr x=.ppt sz (l.map enc) i.toNat off:=by kernel_rfl) (hs:sub off m (enc e)=some cs:=by kernel_rfl) (hm:mk isA (cs.map .p)=some r:=by kernel_rfl):ZaS P (.load d x m isA) s ⟨put s.fr d r,s.bx,s.H⟩:=by
 have h2:=(Zl1 enc h).2;have h0:∀cs:List PC,ZaX (cs.map .p)=true:=λcs=>by
  induction cs with
  |nil=>rfl
  |cons c cs ih=>simp[ZaX,ZdX,ih]
 simp only[ZaS,Zbb,hx,rd,h2,Zak,hs,Zam,h0,Zaw,hm]
def ZzM {d:Option Nat}{f:Nat}{xs:List IX}{args:List AV}{r:AV}(hx:frzL s.H (xs.map (ev s.fr))=some (args,s.H):=by kernel_rfl)(hc:Zld P f args r):ZaS P (.call d f xs) s ⟨putO s.fr d r,s.bx,s.H⟩:=
 ⟨args,s.H,r,s.H,.frz hx,hc.frame _,rfl⟩
def Zye {d:Nat}{f:Nat}{xs:List IX}{args:List AV}{r:AV}(hx:weakVs (xs.map (ev s.fr))=args:=by kernel_rfl)(hc:Zld P f args r):ZaS P (.callP d f xs) s ⟨put s.fr d r,s.bx,s.H⟩:=
 ⟨r,hx▸hc,rfl⟩
def ZxZ {l:Nat}{Q:Exit->St->Prop}(h:Q .normal s):vc P n (.label l) Q s:=h
def Zzt {l:Nat}{Q:Exit->St->Prop}(h:Q (.goto l) s):vc P n (.goto l) Q s:=h
def ZcE {a:IC}{Q:Exit->St->Prop}(h:EvX P n (.loop a) s Q):vc P n (.loop a) Q s:=h
def ZuZ {a:IC}{Q:Exit->St->Prop}(h:EvX P n (.scope a) s Q):vc P n (.scope a) Q s:=h
def ZfK {x:IX}{a b:IC}{Q:Exit->St->Prop}(hx:ev s.fr x=.p (.bool true))(h:vc P n a Q (Zlb x s)):vc P n (.cond x a b) Q s:=by
 simp only[vc,hx,Zaw];exact h
def Zox {x:IX}{a b:IC}{Q:Exit->St->Prop}(hx:ev s.fr x=.p (.bool false))(h:vc P n b Q (Zlb x s)):vc P n (.cond x a b) Q s:=by
 simp only[vc,hx,Zg,Zat];exact h
def ZAP {x:IX}{a b:IC}{Q:Exit->St->Prop}{c:Bool}{α:Type}{A B:Option α}{r:α}(hx:ev s.fr x=.p (.bool c))(h:(if c=true then A else B)=some r)
  (h1:c=true->A=some r->vc P n a Q (Zlb x s)) (h2:c=false->B=some r->vc P n b Q (Zlb x s)):vc P n (.cond x a b) Q s:=by
 simp only[vc,hx];cases c with
 |true=>simp only[Zaw]at h⊢;exact h1 rfl h
 |false=>simp only[Zg,Zat]at h⊢;exact h2 rfl h
def Zg5 {α:Type}{c:Bool}{A B:Option α}{r:α}(h:(if c=true then A else B)=some r):(c=true/\A=some r)∨(c=false/\B=some r):=by
 cases c with
 |true=>exact .inl ⟨rfl,by simpa using h⟩
 |false=>exact .inr ⟨rfl,by simpa using h⟩
def ZcN:∀(ic:IC) {Q Q':Exit->St->Prop} {s:St},(∀e s,Q e s->Q' e s)->vc P n ic Q s->vc P n ic Q' s
 |.skip,Q,Q',s,hq,h=>hq _ _ h
 |.reg ops keep,Q,Q',s,hq,h=>let ⟨s',h1,h2⟩:=h;⟨s',h1,hq _ _ h2⟩
 |.regD ops keep,Q,Q',s,hq,h=>let ⟨h0,s',h1,h2⟩:=h;⟨h0,s',h1,hq _ _ h2⟩
 |.die _,Q,Q',s,hq,h=>hq _ _ h
 |.regF fs ops keep,Q,Q',s,hq,h=>let ⟨s0,h0,h6,s',h1,h2⟩:=h;⟨s0,h0,h6,s',h1,hq _ _ h2⟩
 |.seq a b,Q,Q',s,hq,h=>ZcN a (λe s h=>by
   cases e with
   |normal=>exact ZcN b hq h
   |_=>exact hq _ _ h) h
 |.cond x a b,Q,Q',s,hq,h=>by
  simp only[vc]at h⊢;split
  ·rename_i t hx;rw[hx]at h;simp only at h;split
   ·rename_i ht;rw[Zav ht]at h;exact ZcN a hq h
   rename_i ht;rw[Zau ht]at h;exact ZcN b hq h
  rename_i hx;split at h
  ·rename_i t h5;exact absurd h5 (hx t)
  exact h
 |.block id a,Q,Q',s,hq,h=>ZcN a (λe s h=>by
   cases e with
   |exit j=>
    simp only[ZeY]at h⊢;split
    ·rename_i e;rw[Zav e]at h;exact hq _ _ h
    rename_i e;rw[Zau e]at h;exact hq _ _ h
   |_=>exact hq _ _ h) h
 |.loop a,Q,Q',s,hq,h=>EvX.mono h hq
 |.exit id,Q,Q',s,hq,h=>hq _ _ h
 |.rangeF x ps a b,Q,Q',s,hq,h=>EvX.mono h hq
 |.box a,Q,Q',s,hq,h=>EvX.mono h hq
 |.scope a,Q,Q',s,hq,h=>EvX.mono h hq
 |.label l,Q,Q',s,hq,h=>hq _ _ h
 |.goto l,Q,Q',s,hq,h=>hq _ _ h
 |.ret,Q,Q',s,hq,h=>hq _ _ h
 |.kp ks a,Q,Q',s,hq,h=>ZcN a hq h
 |.pu fs a,Q,Q',s,hq,h=>ZcN a (λe s h=>by
   cases e with
   |normal=>obtain⟨s2,h3,h4⟩:=h;exact⟨s2,h3,hq _ _ h4⟩
   |_=>exact hq _ _ h) h
@[reducible] def ZpO (R:St->Prop):Exit->St->Prop:=λe s'=>e=.normal/\R s'
def Zx0 {a b:IC}{Q:Exit->St->Prop}(R:St->Prop)(h1:vc P n a (ZpO R) s)(h2:∀s',R s'->vc P n b Q s'):vc P n (.seq a b) Q s:=by
 refine ZcN a (λe s' h=>?_) h1;obtain⟨rfl,h⟩:=h;exact h2 s' h
def Zpg {res:List RV}{r:AV}(h:(resL s res).map ZcZ=some r):∃xs,resL s res=some xs/\ZcZ xs=r:=by
 cases hs:resL s res with
 |none=>rw[hs]at h;cases h
 |some xs=>rw[hs]at h;exact⟨xs,rfl,by simpa using h⟩
@[reducible] def isQ (e:Exit)(s:St):Exit->St->Prop:=λe1 s1=>e1=e/\s1=s
def vcd:∀(ic:IC) {Q:Exit->St->Prop} {s:St},vc P n ic Q s->∃e s',vc P n ic (isQ e s') s/\Q e s'
 |.skip,Q,s,h=>⟨.normal,s,⟨rfl,rfl⟩,h⟩
 |.reg ops keep,Q,s,h=>let ⟨s',h1,h2⟩:=h;⟨.normal,_,⟨s',h1,rfl,rfl⟩,h2⟩
 |.regD ops keep,Q,s,h=>let ⟨h0,s',h1,h2⟩:=h;⟨.normal,_,⟨h0,s',h1,rfl,rfl⟩,h2⟩
 |.die t,Q,s,h=>⟨_,_,⟨rfl,rfl⟩,h⟩
 |.regF fs ops keep,Q,s,h=>let ⟨s0,h0,h5,s',h1,h2⟩:=h;⟨.normal,_,⟨s0,h0,h5,s',h1,rfl,rfl⟩,h2⟩
 |.seq a b,Q,s,h=>by
  obtain⟨e1,s1,h1,h2⟩:=vcd a h;cases e1 with
  |normal=>
   obtain⟨e,s',h3,h4⟩:=vcd b h2;exact⟨e,s',ZcN a (λe1 s2 ⟨x,y⟩=>by subst x y;exact h3) h1,h4⟩
  |_=>exact⟨_,s1,ZcN a (λe1 s2 ⟨x,y⟩=>by subst x y;exact⟨rfl,rfl⟩) h1,h2⟩
 |.cond x a b,Q,s,h=>by
  simp only[vc]at h;split at h
  ·rename_i t hx;cases t with
   |true=>
    simp only[Zaw]at h;obtain⟨e,s',h1,h2⟩:=vcd a h;exact⟨e,s',by simp only[vc,hx];exact h1,h2⟩
   |false=>
    simp only[Zg,Zat]at h;obtain⟨e,s',h1,h2⟩:=vcd b h;exact⟨e,s',by simp only[vc,hx];exact h1,h2⟩
  exact h.elim
 |.block id a,Q,s,h=>by
  obtain⟨e1,s1,h1,h2⟩:=vcd a (Q:=ZeY id Q) h;cases e1 with
  |exit j=>
   simp only[ZeY]at h2;by_cases e:j=id
   ·rw[Zav e]at h2;exact⟨.normal,s1,ZcN a (λe1 s2 ⟨x,y⟩=>by subst x y;simp only[ZeY,e,Zaw];exact⟨rfl,rfl⟩) h1,h2⟩
   rw[Zau e]at h2;exact⟨.exit j,s1,ZcN a (λe1 s2 ⟨x,y⟩=>by subst x y;simp only[ZeY,e,Zat];exact⟨rfl,rfl⟩) h1,h2⟩
  |_=>exact⟨_,s1,ZcN a (λe1 s2 ⟨x,y⟩=>by subst x y;exact⟨rfl,rfl⟩) h1,h2⟩
 |.loop a,Q,s,h=>let ⟨e,s',h1,h2⟩:=h;⟨e,s',⟨e,s',h1,rfl,rfl⟩,h2⟩
 |.scope a,Q,s,h=>let ⟨e,s',h1,h2⟩:=h;⟨e,s',⟨e,s',h1,rfl,rfl⟩,h2⟩
 |.rangeF x ps a b,Q,s,h=>let ⟨e,s',h1,h2⟩:=h;⟨e,s',⟨e,s',h1,rfl,rfl⟩,h2⟩
 |.box a,Q,s,h=>let ⟨e,s',h1,h2⟩:=h;⟨e,s',⟨e,s',h1,rfl,rfl⟩,h2⟩
 |.exit id,Q,s,h=>⟨_,s,⟨rfl,rfl⟩,h⟩
 |.label l,Q,s,h=>⟨_,s,⟨rfl,rfl⟩,h⟩
 |.goto l,Q,s,h=>⟨_,s,⟨rfl,rfl⟩,h⟩
 |.ret,Q,s,h=>⟨_,s,⟨rfl,rfl⟩,h⟩
 |.kp ks a,Q,s,h=>by
  obtain⟨e,s',h1,h2⟩:=vcd a (Q:=Q) (s:=Zcj ks s) h;exact⟨e,s',h1,h2⟩
 |.pu fs a,Q,s,h=>by
  obtain⟨e,s',h1,h2⟩:=vcd a (Q:=puQ fs Q) (s:=s) h;cases e with
  |normal=>
   obtain⟨s2,h3,h4⟩:=h2;exact⟨.normal,s2,ZcN a (λe1 s1 ⟨x,y⟩=>by subst x y;exact⟨s2,h3,rfl,rfl⟩) h1,h4⟩
  |_=>exact⟨_,s',ZcN a (λe1 s1 ⟨x,y⟩=>by subst x y;exact⟨rfl,rfl⟩) h1,h2⟩
def RunD (P:Program)(n:Nat)(b:IC)(back e:Exit)(sF:St):Nat->St->Prop
 |0,_=>False
 |m+1,s=>∃e1 s1,vc P n b (isQ e1 s1) s/\((e1=back/\RunD P n b back e sF m s1)∨(e1≠back/\e1=e/\s1=sF))
def RunD.loop {b:IC}{e:Exit}{sF:St}{m:Nat}{s:St}(h:RunD P n b .normal e sF m s):EvI P n (.loop b) s (isQ e sF):=by
 refine EvI.loopR (R:=λ(m:Nat) s=>RunD P n b .normal e sF m s) (λm=>m) (λm s h=>?_) m s h;cases m with
 |zero=>exact h.elim
 |succ m=>
  obtain⟨e1,s1,h1,h2⟩:=h;refine(Zbp b _ s h1).mono λe' s' ⟨x,y⟩=>?_
  subst x y;rcases h2 with⟨rfl,h2⟩|⟨h0,rfl,rfl⟩
  ·exact⟨m,h2,by omega⟩
  cases e' with
  |normal=>exact absurd rfl h0
  |_=>exact⟨rfl,rfl⟩
def Zb4 {σ ρ:Type}{b:IC}(R:σ->St->Prop)(body:σ->Option (σ⊕ρ))(Qr:ρ->Exit->St->Prop)
  (hb:∀x o s,body x=some o->R x s->vc P n b (Zk9 (λs'=>∃y,o=.inl y/\R y s') (λe s'=>∃r,o=.inr r/\Qr r e s')) s):
  ∀(N:Nat) (x:σ) (r:ρ) (s:St),ZaT body N x=some r->R x s->EvX P n (.loop b) s (Qr r):=by
 intro N x r s h hR;have key:∃m e sF,RunD P n b .normal e sF m s/\Qr r e sF:=by
  induction N generalizing x s with
  |zero=>simp[ZaT]at h
  |succ N ih=>
   rw[ZaT]at h;cases ho:body x with
   |none=>simp[ho]at h
   |some o=>
    rw[ho]at h;obtain⟨e1,s1,h1,h2⟩:=vcd b (hb x o s ho hR);cases e1 with
    |normal=>
     obtain⟨y,rfl,hy⟩:=h2;obtain⟨m,e,sF,h3,h4⟩:=ih y s1 h hy;exact⟨m+1,e,sF,⟨.normal,s1,h1,.inl ⟨rfl,h3⟩⟩,h4⟩
    |_=>
     obtain⟨r',rfl,hr⟩:=h2;simp only[Zan]at h;subst h;exact⟨1,_,s1,⟨_,s1,h1,.inr ⟨by simp,rfl,rfl⟩⟩,hr⟩
 obtain⟨m,e,sF,h1,h2⟩:=key;exact⟨e,sF,h1.loop,h2⟩
def EvI.scope {b:IC}{Q:Exit->St->Prop}{s:St}(h:vc P n b (Zsj Q) s):EvX P n (.scope b) s Q:=by
 obtain⟨e,s',h1,h2⟩:=vcd b h;have h3:vc P n b (Zsj (isQ e s')) s:=by
  refine ZcN b (λe1 s1 h=>?_) h1;obtain⟨x,y⟩:=h;subst x y;cases e1 with
  |goto l=>exact h2.elim
  |_=>exact⟨rfl,rfl⟩
 refine⟨e,s',EvI.scope0 h3,?_⟩;cases e with
 |goto l=>exact h2.elim
 |_=>exact h2
end
end Go.Eng

namespace Go.Eng
open Go
section
variable {H H':List HO} {items:List Za0}
def Lies.same {i:Za0}(h:Lies H i)(hs:∀id,Occ i id->H'[id]?=H[id]?):Lies H' i:=by
 cases i with
 |arr a sz frz rows=>
  rcases h with h|⟨id,ver,rfl,f,hf,h⟩
  ·exact .inl h
  exact .inr ⟨id,ver,rfl,f,hf,by rw[hs id ⟨sz,ver,0,rows.length,rfl⟩];exact h⟩
 |cel id cs=>exact(hs id rfl).trans h
 |lp id L fr st=>exact(hs id rfl).trans h
 |fam id n as sz frz rows=>
  obtain⟨h1,h2,h3,h4,h5⟩:=h;refine⟨(hs id (.inl rfl)).trans h1,h2,h3,λi a r ha hr=>?_,h5⟩;rcases h4 i a r ha hr with h|⟨q,ver,rfl,f,hf,h⟩
  ·exact .inl h
  exact .inr ⟨q,ver,rfl,f,hf,(hs q (.inr ⟨sz,ver,0,r.length,List.mem_of_getElem? ha⟩)).trans h⟩
 |deep a sz u cs rows=>
  obtain⟨h1,h2,h3,h4⟩:=h;refine⟨h1,h2.imp id λ⟨q,ver,e,h,h'⟩=>⟨q,ver,e,(hs q (.inl ⟨2,ver,0,_,e⟩)).trans h,h'⟩,λi c r hc hr=>?_,h4⟩;rcases h3 i c r hc hr with h|⟨q,ver,rfl,h⟩
  ·exact .inl h
  exact .inr ⟨q,ver,rfl,(hs q (.inr ⟨sz,ver,_,List.mem_of_getElem? hc⟩)).trans h⟩
 |rag a sz cs rows hole=>
  obtain⟨h1,h2,h3,h4⟩:=h;refine⟨h1,h2.imp id λ⟨q,ver,e,h,h'⟩=>⟨q,ver,e,(hs q (.inl ⟨1,ver,0,_,e⟩)).trans h,h'⟩,λi c r hh hc hr=>?_,h4⟩;rcases h3 i c r hh hc hr with h|⟨q,ver,rfl,h⟩
  ·exact .inl h
  exact .inr ⟨q,ver,rfl,(hs q (.inr ⟨i,sz,ver,_,hh,hc⟩)).trans h⟩
def Lies.lt {i:Za0}(h:Lies H i):∀id,Occ i id->id<H.length:=by
 intro id ho;cases i with
 |arr a sz frz rows=>
  obtain⟨sz',ver,off,len,rfl⟩:=ho;rcases h with⟨h,_⟩|⟨id',ver',e,f,_,h⟩
  ·cases h
  cases e;exact(List.getElem?_eq_some_iff.1 h).1
 |cel id' cs=>cases ho;exact(List.getElem?_eq_some_iff.1 h).1
 |lp id' L fr st=>cases ho;exact(List.getElem?_eq_some_iff.1 h).1
 |fam id' n as sz frz rows=>
  obtain⟨h1,h2,h3,h4,h5⟩:=h;rcases ho with rfl|⟨s1,v1,o1,l1,hm⟩
  ·exact(List.getElem?_eq_some_iff.1 h1).1
  obtain⟨i,hi⟩:=List.getElem?_of_mem hm;have h0:=(List.getElem?_eq_some_iff.1 hi).1;rcases h4 i _ rows[i] hi (ZL (by omega))with⟨e,_⟩|⟨q,ver,e,f,_,h⟩
  ·cases e
  cases e;exact(List.getElem?_eq_some_iff.1 h).1
 |deep a sz u cs rows=>
  obtain⟨h1,h2,h3,h4⟩:=h;rcases ho with⟨s1,v1,o1,l1,rfl⟩|⟨s1,v1,l1,hm⟩
  ·rcases h2 with⟨e,_⟩|⟨q,ver,e,h,_⟩
   ·cases e
   cases e;exact(List.getElem?_eq_some_iff.1 h).1
  obtain⟨i,hi⟩:=List.getElem?_of_mem hm;have h0:=(List.getElem?_eq_some_iff.1 hi).1;rcases h3 i _ rows[i] hi (ZL (by omega))with⟨e,_⟩|⟨q,ver,e,h⟩
  ·cases e
  cases e;exact(List.getElem?_eq_some_iff.1 h).1
 |rag a sz cs rows hole=>
  obtain⟨h1,h2,h3,h4⟩:=h;rcases ho with⟨s1,v1,o1,l1,rfl⟩|⟨i,s1,v1,l1,hh,hi⟩
  ·rcases h2 with⟨e,_⟩|⟨q,ver,e,h,_⟩
   ·cases e
   cases e;exact(List.getElem?_eq_some_iff.1 h).1
  have h0:=(List.getElem?_eq_some_iff.1 hi).1;rcases h3 i _ rows[i] hh hi (ZL (by omega))with⟨e,_⟩|⟨q,ver,e,h⟩
  ·cases e
  cases e;exact(List.getElem?_eq_some_iff.1 h).1
def HP.lies:∀{items:List Za0},HP H items->∀i∈items,Lies H i
 |[],_,i,hi=>by cases hi
 |j::is,h,i,hi=>by
  rcases List.mem_cons.1 hi with rfl|hi
  ·exact h.1
  exact HP.lies h.2.2 i hi
theorem HP.get (h:HP H items)(k:Nat){i:Za0}(hk:items[k]?=some i):Lies H i:=h.lies i (List.mem_of_getElem? hk)
def HP.same:∀{items:List Za0},HP H items->(∀i∈items,∀id,Occ i id->H'[id]?=H[id]?)->HP H' items
 |[],_,_=>trivial
 |i::is,h,hs=>⟨h.1.same (hs i (by simp)),h.2.1,HP.same h.2.2 λj hj=>hs j (by simp[hj])⟩
def HP.push (h:HP H items)(o:HO):HP (H++[o]) items:=
 h.same λi hi id ho=>by
  have:=(h.lies i hi).lt id ho;rw[ZG this]
def HP.cons (h:HP H items){i:Za0}(hi:Lies H i)(hn:∀id,Occ i id->∀j∈items,¬Occ j id):HP H (i::items):=⟨hi,hn,h⟩
def HP.nilArr (h:HP H items)(sz:Nat)(frz:Bool):HP H (.arr (.p (.sl sz true [])) sz frz []::items):=
 h.cons (.inl ⟨rfl,rfl⟩) (λid ⟨_,_,_,_,e⟩=>by cases e)
def HP.replace:∀{items:List Za0} {k:Nat} {i i':Za0},HP H items->items[k]?=some i->Lies H' i'->(∀id,Occ i' id->Occ i id∨H.length<=id)→
  (∀id,id<H.length->¬Occ i id->H'[id]?=H[id]?)->HP H' (items.set k i')
 |[],k,i,i',h,hk,_,_,_=>by simp at hk
 |j::is,0,i,i',h,hk,hl,ho,hs=>by
  simp only[ZJ,Zan]at hk;subst hk;refine⟨hl,λid hid x hx h0=>?_,HP.same h.2.2 λx hx id h0=>hs id ((HP.lies h.2.2 x hx).lt id h0) λhj=>h.2.1 id hj x hx h0⟩;rcases ho id hid with h1|h1
  ·exact h.2.1 id h1 x hx h0
  have:=(HP.lies h.2.2 x hx).lt id h0;omega
 |j::is,k+1,i,i',h,hk,hl,ho,hs=>by
  simp only[ZI]at hk;have hi:i∈is:=List.mem_of_getElem? hk;refine⟨h.1.same λid hid=>hs id (h.1.lt id hid) λh2=>h.2.1 id hid i hi h2,λid hid x hx h0=>?_,HP.replace h.2.2 hk hl ho hs⟩;rcases List.mem_or_eq_of_mem_set hx with h1|rfl
  ·exact h.2.1 id hid x h1 h0
  rcases ho id h0 with h1|h1
  ·exact h.2.1 id hid i hi h1
  have:=h.1.lt id hid;omega
def ZoE {a:AV}{sz:Nat}{frz:Bool}{rows:List (List PC)}(h:Lies H (.arr a sz frz rows)):a=.p (.sl sz true [])∨∃id ver,a=.osl sz id ver 0 rows.length:=by
 rcases h with h|⟨id,ver,h,_⟩
 ·exact .inl h.1
 exact .inr ⟨id,ver,h⟩
inductive OwnF (sz n:Nat):AV->Prop
 |a:OwnF sz n (.p (.sl sz true []))
 |b (id ver:Nat):OwnF sz n (.osl sz id ver 0 n)
def Zc7 {a:AV}{sz:Nat}{frz:Bool}{rows:List (List PC)}(h:Lies H (.arr a sz frz rows)):OwnF sz rows.length a:=by
 rcases ZoE h with rfl|⟨_,_,rfl⟩
 ·exact .a
 exact .b ..
def HP.elem {α:Type}{k:Nat}{a:AV}{sz:Nat}{frz:Bool}{l:List α}{i:Int}{e:α}(enc:α->List PC)(hH:HP H items)(hk:items[k]?=some (.arr a sz frz (l.map enc)))(h:idx l i=some e):
  ∃id ver f,(frz=false->f=false)/\H[id]?=some (.arr sz ver f (l.map enc))/\a=.osl sz id ver 0 l.length/\∀kk:IntKind,Zbc (.iaddrS sz) [a,.p (.int kk i)]=some (.optr sz id ver (0+i.toNat) 0):=by
 have h1:=(Zl1 enc h).1;rcases hH.get k hk with⟨_,hl⟩|⟨id,ver,rfl,f,hf,hid⟩
 ·have:l=[]:=by cases l with
   |nil=>rfl
   |cons x xs=>simp at hl
  subst this;simp at h1;omega
 refine⟨id,ver,f,hf,hid,by simp,λkk=>?_⟩;simp only[Zbc];rw[Zav ⟨trivial,h1.1,h1.2⟩]
def HP.len {α:Type}{k:Nat}{a:AV}{sz:Nat}{frz:Bool}{l:List α}(enc:α->List PC)(hH:HP H items)(hk:items[k]?=some (.arr a sz frz (l.map enc))):Zbc .len [a]=some (.p (.int .i64 l.length)):=by
 rcases hH.get k hk with⟨rfl,hl⟩|⟨id,ver,rfl,f,hf,hid⟩
 ·have:l=[]:=by cases l with
   |nil=>rfl
   |cons x xs=>simp at hl
  subst this;rfl
 simp[Zbc]
def HP.pure {α:Type}{k:Nat}{a:AV}{sz:Nat}{frz:Bool}{l:List α}(enc:α->List PC)(hH:HP H items)(hk:items[k]?=some (.arr a sz frz (l.map enc))):Zsb H a=some (.p (.sl sz false (l.map enc)))/\Zmr H a=some (.p (.sl sz false (l.map enc))):=by
 rcases hH.get k hk with⟨rfl,hl⟩|⟨id,ver,rfl,f,hf,hid⟩
 ·rw[hl];exact⟨rfl,rfl⟩
 simp only[Zmr,Zsb,hid,and_self,Zaw,sub,Zaj,Nat.le_refl,ZB,Zad,Zam]
def ZtC:List Nat->Bool
 |[]=>true
 |k::ks=>!ks.elem k&&ZtC ks
def HP.apart {items:List Za0}(h:HP H items){j k:Nat}{x y:Za0}(hj:items[j]?=some x)(hk:items[k]?=some y)(h0:j≠k){id:Nat}(hx:Occ x id):¬Occ y id:=by
 induction items generalizing j k with
 |nil=>simp at hj
 |cons i is ih=>
  cases j with
  |zero=>
   cases k with
   |zero=>exact absurd rfl h0
   |succ k=>
    simp only[ZJ,Zan]at hj;simp only[ZI]at hk;subst hj;exact h.2.1 id hx y (List.mem_of_getElem? hk)
  |succ j=>
   simp only[ZI]at hj;cases k with
   |zero=>
    simp only[ZJ,Zan]at hk;subst hk;exact λhy=>h.2.1 id hy x (List.mem_of_getElem? hj) hx
   |succ k=>
    simp only[ZI]at hk;exact ih h.2.2 hj hk (by omega)
def HP.pick (h:HP H items):∀(ks:List Nat),ZtC ks=true->HP H (ks.filterMap λk=>items[k]?)
 |[],_=>trivial
 |k::ks,hn=>by
  simp only[ZtC,Ze,Zh]at hn;have ih:=HP.pick h ks hn.2;cases hk:items[k]? with
  |none=>simpa[List.filterMap_cons,hk]using ih
  |some i=>
   simp only[List.filterMap_cons,hk];refine⟨h.get k hk,λid ho j hj h2=>?_,ih⟩;obtain⟨m,hm,h1⟩:=List.mem_filterMap.1 hj;have h0:k≠m:=by
    intro e;subst e;have:List.elem k ks=true:=by simpa using hm
    rw[hn.1]at this;cases this
   exact h.apart hk h1 h0 ho h2
def HP.drop (h:HP H items)(k:Nat):HP H (items.eraseIdx k):=by
 induction items generalizing k with
 |nil=>exact h
 |cons i is ih=>
  cases k with
  |zero=>exact h.2.2
  |succ k=>exact⟨h.1,λid ho j hj=>h.2.1 id ho j (List.mem_of_mem_eraseIdx hj),ih h.2.2 k⟩
end
section
variable {P:Program} {n:Nat} {s:St}
def ZwV {sz n:Nat}{a:AV}(h:OwnF sz n a):Zi8 a=true:=by cases h<;>rfl
def Zu3 {d:Nat}{x y:IX}{sz bytes:Nat}{a a' b:AV}{new:List (List PC)}{H H':List HO}(hs:s.H=H)(hx:ev s.fr x=a)(hb:ev s.fr y=b)(hy:ZdD H sz b=some new)(h:appV H sz bytes a new=some (a',H'))(h0:Zi8 b=true:=by first|rfl|exact ZpP (λ_=>rfl) _|exact ZwV (by assumption)):
  ZaS P (.app d x y sz bytes) s ⟨put s.fr d a',s.bx,H'⟩:=by
 subst hs hb;simp only[ZaS,Zbb,hx,h0,Zaw,hy,Zak,h,Zam]
def Zid {d:Nat}{x y:IX}{zero:List PC}{bytes:Nat}{m c:Int}{H H':List HO}{a:AV}(hs:s.H=H)(hx:ev s.fr x=.p (.int .i64 m))(hy:ev s.fr y=.p (.int .i64 c))
  (ha:a=.osl zero.length H.length 0 0 m.toNat) (hH:H'=H++[.arr zero.length 0 false (List.replicate m.toNat zero)]) (h:0<=m/\m<=c/\c*bytes<=140737488355328/\c<=140737488355328):
  ZaS P (.mkSl d x y zero bytes) s ⟨put s.fr d a,s.bx,H'⟩:=by
 subst hs ha hH;simp only[ZaS,Zbb,hx,hy];rw[Zav h]
def ZhV {α:Type}{l:List α}{i:Int}{e:α}{d:Nat}{x:IX}{m sz id ver off:Nat}{f isA:Bool}{cs:List PC}{r:AV}{H:List HO}(enc:α->List PC)(h:idx l i=some e)(hid:H[id]?=some (.arr sz ver f (l.map enc)))(hH:s.H=H:=by kernel_rfl)
  (hx:ev s.fr x=.optr sz id ver (0+i.toNat) off:=by kernel_rfl) (hs:sub off m (enc e)=some cs:=by kernel_rfl) (hm:mk isA (cs.map .p)=some r:=by kernel_rfl) (h1:Znl cs=true:=by rfl):ZaS P (.load d x m isA) s ⟨put s.fr d r,s.bx,s.H⟩:=by
 have h2:=(Zl1 enc h).2;have h0:∀cs:List PC,ZaX (cs.map .p)=true:=λcs=>by
  induction cs with
  |nil=>rfl
  |cons c cs ih=>simp[ZaX,ZdX,ih]
 subst hH;simp only[ZaS,Zbb,hx,rd,hid,and_self,Zaw,Zaj,h2,Zak,hs,Zam,ZKO h1,h0,hm]
def Zkc {x y:IX}{m:Nat}{v p:AV}{H H':List HO}(hH:s.H=H:=by kernel_rfl)(hx:ev s.fr x=p:=by kernel_rfl)(hy:ev s.fr y=v:=by kernel_rfl)(h0:decide ((cellsOf v).length=m)&&ZaX (cellsOf v)=true:=by kernel_rfl)(hw:∀bx,wrt bx H (cellsOf v) p=some ⟨bx,H'⟩):
  ZaS P (.store x y m) s ⟨s.fr,s.bx,H'⟩:=by
 subst hH hx hy;simp only[Ze,Zas]at h0;simp only[ZaS,Zbb,h0,and_self,Zaw,hw,Zam]
def ZzN {d:Nat}{x:IX}{v:AV}{id:Nat}{H H':List HO}(hs:s.H=H:=by kernel_rfl)(hx:ev s.fr x=v:=by kernel_rfl)(h0:ZaX (cellsOf v)=true:=by kernel_rfl)(hid:id=H.length)(hH:H'=H++[.cells (cellsOf v)]):
  ZaS P (.boxH d x) s ⟨put s.fr d (.ptr id 0),s.bx,H'⟩:=by
 subst hs hx hid hH;simp only[ZaS,Zbb,h0,Zaw]
def ZzH {d:Nat}{zero:List AV}{id:Nat}{H H':List HO}(hs:s.H=H)(hid:id=H.length)(hH:H'=H++[.cells zero]):
  ZaS P (.newH d zero) s ⟨put s.fr d (.ptr id 0),s.bx,H'⟩:=by
 subst hs hid hH;simp only[ZaS,Zbb]
def ZgR {d:Nat}{x:IX}{m id off:Nat}{isA:Bool}{cs c:List AV}{r:AV}{H:List HO}(hs:s.H=H:=by kernel_rfl)(hx:ev s.fr x=.ptr id off:=by kernel_rfl)(hl:Lies H (.cel id cs))(h0:sub off m cs=some c:=by kernel_rfl)(h1:ZaX c=true:=by kernel_rfl)(hm:mk isA c=some r:=by kernel_rfl):
  ZaS P (.load d x m isA) s ⟨put s.fr d r,s.bx,s.H⟩:=by
 subst hs;have h2:s.H[id]?=some (.cells cs):=hl;simp only[ZaS,Zbb,hx,rd,h2,h0,Zak,h1,Zaw,hm,Zam]
def ZjM {H:List HO}:frzL H []=some ([],H):=rfl
def Zeu {H H1 H2:List HO}{x x':AV}{xs xs':List AV}(h1:frzV H x=some (x',H1))(h2:frzL H1 xs=some (xs',H2)):frzL H (x::xs)=some (x'::xs',H2):=by
 simp only[frzL,h1,Zak,h2,Zam]
def Zvn {H:List HO}:frzC H []=some ([],H):=rfl
def Zdx {H H1 H2:List HO}{x x':AV}{xs xs':List AV}(h1:frz1 H x=some (x',H1))(h2:frzC H1 xs=some (xs',H2)):frzC H (x::xs)=some (x'::xs',H2):=by
 simp only[frzC,h1,Zak,h2,Zam]
def Zvm {H H':List HO}{cs cs':List AV}(h:frzC H cs=some (cs',H')):frzV H (.agg cs)=some (.agg cs',H'):=by
 simp only[frzV,h,Zam]
def Zi7 {d:Option Nat}{f:Nat}{xs:List IX}{ys args:List AV}{r:AV}{H H':List HO}(hs:s.H=H)(hy:xs.map (ev s.fr)=ys)(hf:frzL H ys=some (args,H'))(hc:Zld P f args r):ZaS P (.call d f xs) s ⟨putO s.fr d r,s.bx,H'⟩:=by
 subst hs hy;exact⟨args,H',r,H',.frz hf,hc.frame _,rfl⟩
def Zf5 {d:Option Nat}{f:Nat}{xs:List IX}{ys args:List AV}{r:AV}{H H1 H':List HO}(hs:s.H=H)(hy:xs.map (ev s.fr)=ys)(hf:frzL H ys=some (args,H1))(hc:Zcg P f args H1 r H'):ZaS P (.call d f xs) s ⟨putO s.fr d r,s.bx,H'⟩:=by
 subst hs hy;exact⟨args,H1,r,H',.frz hf,hc,rfl⟩
def Zg8 (P:Program)(fv:AV)(xs:List AV)(H:List HO)(r:AV)(H':List HO):Prop:=
 ∃f first cap args H1,fv=.fn f first cap/\Pass H (first++xs++cap) args H1/\Zcg P f args H1 r H'
def Zg8.of {f:Nat}{first cap xs args:List AV}{H:List HO}{r:AV}{H':List HO}(hf:frzL H (first++xs++cap)=some (args,H))(hc:Zcg P f args H r H'):Zg8 P (.fn f first cap) xs H r H':=
 ⟨f,first,cap,args,H,rfl,.frz hf,hc⟩
def Zdm {d:Option Nat}{fx:IX}{xs:List IX}{fv:AV}{ys:List AV}{r:AV}{H H':List HO}(hs:s.H=H:=by kernel_rfl)(hf:ev s.fr fx=fv:=by kernel_rfl)(hy:xs.map (ev s.fr)=ys:=by kernel_rfl)(hc:Zg8 P fv ys H r H'):ZaS P (.callV d fx xs) s ⟨putO s.fr d r,s.bx,H'⟩:=by
 subst hs hf hy;obtain⟨f,first,cap,args,H1,h1,h2,h3⟩:=hc;exact⟨f,first,cap,args,H1,r,H',h1,h2,h3,rfl⟩
def ZnR (H:List HO):List AV->Option (List AV)
 |[]=>some []
 |y::ys=>(Zmr H y).bind λx=>(ZnR H ys).map (x:: ·)
def Ztc:∀{rs:List RV} {ys:List AV},rawL s rs=some ys->resL s rs=ZnR s.H ys
 |[],ys,h=>by simp only[rawL,Zan]at h;subst h;rfl
 |r::rs,ys,h=>by
  simp only[rawL]at h;cases h1:rawV s r with
  |none=>simp[h1]at h
  |some y=>
   simp only[h1,Zak]at h;cases h2:rawL s rs with
   |none=>simp[h2]at h
   |some zs=>
    simp only[h2,Zam,Zan]at h;subst h;simp only[resL,ZnR,Ztc h2];have:resV s r=Zmr s.H y:=by
     cases r with
     |tmp t=>simp only[rawV,Zan]at h1;subst h1;rfl
     |cell t m b=>simp only[rawV]at h1;simp only[resV,h1,Zak]
    rw[this]
def Zci {res:List RV}{ys xs:List AV}{r:AV}{H:List HO}(hs:s.H=H)(hr:rawL s res=some ys)(hp:ZnR H ys=some xs)(ht:ZcZ xs=r):∃xs,resL s res=some xs/\ZcZ xs=r:=by
 subst hs;exact⟨xs,by rw[Ztc hr,hp],ht⟩
def Zbi {H:List HO}:ZnR H []=some []:=rfl
def ZaU {H:List HO}{x x':AV}{xs xs':List AV}(h1:Zmr H x=some x')(h2:ZnR H xs=some xs'):ZnR H (x::xs)=some (x'::xs'):=by
 simp only[ZnR,h1,Zak,h2,Zam]
def ZiK {H:List HO}:Zos H []=some []:=rfl
def ZbM {H:List HO}{x x':AV}{xs xs':List AV}(h1:Zsb H x=some x')(h2:Zos H xs=some xs'):Zos H (x::xs)=some (x'::xs'):=by
 simp only[Zos,h1,Zak,h2,Zam]
def ZiJ {H:List HO}{cs cs':List AV}(h:Zos H cs=some cs'):Zmr H (.agg cs)=some (.agg cs'):=by
 simp only[Zmr,h,Zam]
def ZyW:frzS [] s=some s:=rfl
def Zxu {t:Nat}{ts:List Nat}{a x:AV}{H H1:List HO}{s0:St}(hs:s.H=H)(hg:Zro s t=a)(hf:frzV H a=some (x,H1))(h:frzS ts ⟨s.fr,s.bx,H1⟩=some s0):frzS (t::ts) s=some s0:=by
 subst hs hg;simp only[frzS,hf,Zak,h]
def ZiZ {a b:IC}{Q:Exit->St->Prop}(ks:List Nat)(R:St->Prop)(h1:vc P n a (ZpO λs=>R (Zcj ks s)) s)(h2:∀s',R s'->vc P n b Q s'):vc P n (.seq a (.kp ks b)) Q s:=by
 refine ZcN a (λe s' h=>?_) h1;obtain⟨rfl,h⟩:=h;exact h2 _ h
def Unr (P:Program)(n:Nat)(a:IC)(Q:Exit->St->Prop):Nat->St->Prop
 |0,_=>False
 |m+1,s=>vc P n a (Zk9 (Unr P n a Q m) Q) s
def ZsP {a:IC}{Q:Exit->St->Prop}(m:Nat)(h:Unr P n a Q m s):vc P n (.loop a) Q s:=by
 have key:∃e sF,RunD P n a .normal e sF m s/\Q e sF:=by
  induction m generalizing s with
  |zero=>exact h.elim
  |succ m ih=>
   obtain⟨e1,s1,h1,h2⟩:=vcd a (show vc P n a (Zk9 (Unr P n a Q m) Q) s from h);cases e1 with
   |normal=>
    obtain⟨e,sF,h3,h4⟩:=ih h2;exact⟨e,sF,⟨.normal,s1,h1,.inl ⟨rfl,h3⟩⟩,h4⟩
   |_=>exact⟨_,s1,⟨_,s1,h1,.inr ⟨by simp,rfl,rfl⟩⟩,h2⟩
 obtain⟨e,sF,h1,h2⟩:=key;exact⟨e,sF,h1.loop,h2⟩
def Zeb {a:IC}{Q:Exit->St->Prop}{m:Nat}(h:vc P n a (Zk9 (Unr P n a Q m) Q) s):Unr P n a Q (m+1) s:=h
def ZsI (P:Program)(n l:Nat)(tail:IC)(Q:Exit->St->Prop)(s:St):Prop:=
 ∃(σ ρ:Type) (R:σ->St->Prop) (body:σ->Option (σ⊕ρ)) (Qr:ρ->Exit->St->Prop) (N:Nat) (x:σ) (r:ρ),ZaT body N x=some r/\R x s∧
  (∀x o s,body x=some o->R x s->vc P n tail (ZyR l (λs'=>∃y,o=.inl y/\R y s') (λe s'=>∃r,o=.inr r/\Qr r e s')) s)∧
  (∀e s',(∀l',e≠.goto l')->Qr r e s'->Q e s')
def RunD.scope {pre tail:IC}{l:Nat}{e:Exit}{s0 sF:St}(hf:Zff pre l=none){m:Nat}(h3:vc P n pre (isQ .normal s0) s)(h4:∀l',e≠.goto l')(h:RunD P n tail (.goto l) e sF m s0):
  EvI P n (.scope (.seq pre (.seq (.label l) tail))) s (isQ e sF):=by
 have h0:Zff (.seq pre (.seq (.label l) tail)) l=some (.seq .skip tail):=by simp[Zff,hf]
 intro c hc k g a w hr;cases c<;>simp only[chkC,Zg]at hc;rename_i c1;obtain⟨rest',e1,e2⟩:=(ZuM hc).1 _ h0;have step:∀m s',RunD P n tail (.goto l) e sF m s'->vc P n tail (ZyR l (λs'=>∃m',m'<m/\RunD P n tail (.goto l) e sF m' s') (isQ e sF)) s':=by
  intro m s' h;cases m with
  |zero=>exact h.elim
  |succ m=>
   obtain⟨e1,s1,h1,h2⟩:=h;refine ZcN tail (λe' s2 ⟨x,y⟩=>?_) h1;subst x y;rcases h2 with⟨rfl,h2⟩|⟨h7,rfl,rfl⟩
   ·exact⟨rfl,m,by omega,h2⟩
   cases e' with
   |goto l'=>exact absurd rfl (h4 l')
   |_=>exact⟨rfl,rfl⟩
 have first:vc P n (.seq pre (.seq (.label l) tail)) (ZyR l (λs'=>∃m',RunD P n tail (.goto l) e sF m' s') (isQ e sF)) s:=by
  refine ZcN pre (λe1 s' ⟨x,y⟩=>?_) h3;subst x y;refine ZcN tail (λe s' h=>?_) (step m _ h);cases e with
  |goto l'=>exact⟨h.1,let ⟨m,_,hm⟩:=h.2;⟨m,hm⟩⟩
  |_=>exact h
 refine Zql l (λ(m:Nat) a w=>∃g s,Rel k n g s a w/\RunD P n tail (.goto l) e sF m s) (λm=>m) e1 (wpIn_mono (Zbp _ _ _ first c1 hc k g a w hr) ?_) (λm a w hp=>?_)
 ·rintro e a' w' ⟨s',g',h1,h2⟩;cases e with
  |goto l'=>
   obtain⟨rfl,m,hm⟩:=h2;exact⟨rfl,m,g',s',h1,hm⟩
  |_=>exact⟨s',g',h1,h2⟩
 obtain⟨g,s,hr,hJ⟩:=hp;refine wpIn_mono (Zbp (.seq .skip tail) _ _ (step m s hJ) rest' e2 k g a w hr) ?_;rintro e a' w' ⟨s',g',h1,h2⟩;cases e with
 |goto l'=>
  obtain⟨rfl,m',h5,h6⟩:=h2;exact⟨rfl,m',⟨g',s',h1,h6⟩,h5⟩
 |_=>exact⟨s',g',h1,h2⟩
def ZvT {pre tail:IC}{Q:Exit->St->Prop}(l:Nat)(hf:(Zff pre l).isNone=true)(h:vc P n pre (ZpO (ZsI P n l tail Q)) s):EvX P n (.scope (.seq pre (.seq (.label l) tail))) s Q:=by
 obtain⟨e0,s0,h0,rfl,σ,ρ,R,body,Qr,N,x,r,h1,hR,hb,hq⟩:=vcd pre h;have key:∃m e sF,RunD P n tail (.goto l) e sF m s0/\Qr r e sF/\∀l',e≠.goto l':=by
  clear h h0;induction N generalizing x s0 with
  |zero=>simp[ZaT]at h1
  |succ N ih=>
   rw[ZaT]at h1;cases ho:body x with
   |none=>simp[ho]at h1
   |some o=>
    rw[ho]at h1;obtain⟨e1,s1,h2,h3⟩:=vcd tail (hb x o s0 ho hR);cases e1 with
    |goto l'=>
     obtain⟨rfl,y,rfl,hy⟩:=h3;obtain⟨m,e,sF,h4,h5⟩:=ih s1 y h1 hy;exact⟨m+1,e,sF,⟨.goto l',s1,h2,.inl ⟨rfl,h4⟩⟩,h5⟩
    |_=>
     obtain⟨r',rfl,hr⟩:=h3;simp only[Zan]at h1;subst h1;exact⟨1,_,s1,⟨_,s1,h2,.inr ⟨by simp,rfl,rfl⟩⟩,hr,by simp⟩
 obtain⟨m,e,sF,h2,h3,h4⟩:=key;exact⟨e,sF,RunD.scope (by simpa using hf) h0 h4 h2,hq e sF h4 h3⟩
def ZsI.mk {tail:IC}{Q:Exit->St->Prop}{l:Nat}{σ ρ:Type}(R:σ->St->Prop)(body:σ->Option (σ⊕ρ))(Qr:ρ->Exit->St->Prop){N:Nat}{x:σ}{r:ρ}(h:ZaT body N x=some r)(hR:R x s)
  (hb:∀x o s,body x=some o->R x s->vc P n tail (ZyR l (λs'=>∃y,o=.inl y/\R y s') (λe s'=>∃r,o=.inr r/\Qr r e s')) s)
  (hq:∀e s',(∀l',e≠.goto l')->Qr r e s'->Q e s'):ZsI P n l tail Q s:=⟨σ,ρ,R,body,Qr,N,x,r,h,hR,hb,hq⟩
end
end Go.Eng

namespace Go.Eng
open Go
inductive CD where
 |int (k:IntKind)
 |bool
 |sl (sz:Nat) (row:List CD)
mutual
def okPC:CD->PC->Prop
 |.int k,.int k' n=>k'=k/\(Lit.int k n).wf=true
 |.bool,.bool _=>True
 |.sl sz row,.sl sz' full rows=>sz'=sz/\full=false/\rows.length<=maxLen/\∀r∈rows,Zep row r
 |_,_=>False
def Zep:List CD->List PC->Prop
 |[],[]=>True
 |d::ds,x::xs=>okPC d x/\Zep ds xs
 |_,_=>False
end
def Zh3 (P:Program):Nat->List Field->Nat->Bool
 |off,[],n=>decide (off=n)
 |off,f::fs,n=>decide (f.offset=off)&&Zh3 P (off+P.cellsOf f.type) fs n
mutual
def chkT (P:Program):Nat->TypeId->List CD->Bool
 |0,_,_=>false
 |n+1,t,D=>match P.underlying t with
  |some .bool=>(match D with
   |[.bool]=>true
   |_=>false)
  |some (.int k)=>(match D with
   |[.int k']=>decide (k'=k)
   |_=>false)
  |some (.slice e)=>(match D with
   |[.sl sz row]=>decide (P.cellsOf e=sz)&&chkT P n e row
   |_=>false)
  |some (.struct fs)=>decide (D.length=P.cellsOf t)&&Zh3 P 0 fs.toList (P.cellsOf t)&&ZxE P n D fs.toList
  |some (.array m e)=>decide (D.length=P.cellsOf t)&&decide (P.cellsOf t=m*P.cellsOf e)&&ZxF P n D e m
  |_=>false
def ZxE (P:Program):Nat->List CD->List Field->Bool
 |_,_,[]=>true
 |0,_,_::_=>false
 |n+1,D,f::fs=>chkT P n f.type ((D.drop f.offset).take (P.cellsOf f.type))&&ZxE P n D fs
def ZxF (P:Program):Nat->List CD->TypeId->Nat->Bool
 |_,_,_,0=>true
 |0,_,_,_+1=>false
 |n+1,D,e,m+1=>chkT P n e ((D.drop (m*P.cellsOf e)).take (P.cellsOf e))&&ZxF P n D e m
end
def RdL (ok:Addr->Prop)(w:World):List PC->List Value->Prop
 |[],vs=>vs=[]
 |x::xs,vs=>∃u us,vs=u::us/\PR ok w x u/\RdL ok w xs us
def RdL.append {ok:Addr->Prop}{w:World}:∀{xs ys:List PC} {us vs:List Value},RdL ok w xs us->RdL ok w ys vs->RdL ok w (xs++ys) (us++vs)
 |[],ys,us,vs,h1,h2=>by simp only[RdL]at h1;subst h1;exact h2
 |x::xs,ys,us,vs,h1,h2=>by
  obtain⟨u,us',rfl,h3,h4⟩:=h1;exact⟨u,us'++vs,rfl,h3,h4.append h2⟩
def Zkx:∀{D E:List CD} {xs ys:List PC},Zep D xs->Zep E ys->Zep (D++E) (xs++ys)
 |[],E,[],ys,_,h2=>h2
 |d::D,E,x::xs,ys,h1,h2=>by
  simp only[Zep,Zz]at h1⊢;exact⟨h1.1,Zkx h1.2 h2⟩
 |[],_,_::_,_,h1,_=>by simp[Zep]at h1
 |_::_,_,[],_,h1,_=>by simp[Zep]at h1
def ZnX:∀{D:List CD} {xs:List PC},Zep D xs->xs.length=D.length
 |[],[],_=>rfl
 |d::D,x::xs,h=>by
  simp only[Zep]at h;simp[ZnX h.2]
 |[],_::_,h=>by simp[Zep]at h
 |_::_,[],h=>by simp[Zep]at h
def ZnD {ok:Addr->Prop}{w:World}:∀{xs:List PC} {us:List Value},RdL ok w xs us->us.length=xs.length
 |[],us,h=>by simp only[RdL]at h;subst h;rfl
 |x::xs,us,h=>by
  obtain⟨u,us',rfl,_,h⟩:=h;simp[ZnD h]
def ZxR {ok:Addr->Prop}{w:World}:∀{xs:List PC} {us:List Value},RdL ok w xs us->∀(j:Nat) x,xs[j]?=some x->∃u,us[j]?=some u/\PR ok w x u
 |[],us,h,j,x,hj=>by simp at hj
 |y::ys,us,h,j,x,hj=>by
  obtain⟨u,us',rfl,h1,h2⟩:=h;cases j with
  |zero=>simp at hj;subst hj;exact⟨u,rfl,h1⟩
  |succ j=>exact ZxR h2 j x (by simpa using hj)
def ZjZ {α β:Type}{f:α->Option β}:∀{l:List α} {r:List β},l.mapM f=some r->r.length=l.length/\∀(i:Nat) x,l[i]?=some x->∃y,f x=some y/\r[i]?=some y
 |[],r,h=>by simp at h;subst h;simp
 |a::l,r,h=>by
  rw[List.mapM_cons]at h;cases h1:f a with
  |none=>simp[h1]at h
  |some b=>
   cases h2:l.mapM f with
   |none=>simp[h1,h2]at h
   |some r'=>
    simp[h1,h2]at h;subst h;obtain⟨e1,e2⟩:=ZjZ h2;refine⟨by simp[e1],λi x hx=>?_⟩;cases i with
    |zero=>simp at hx;subst hx;exact⟨b,h1,rfl⟩
    |succ i=>exact e2 i x (by simpa using hx)
section
variable {P:Program} {w:World} {ok:Addr->Prop}
def Zzc (P:Program)(w:World)(ok:Addr->Prop){H:Type}(enc:TypeId×Value->H)(fuel:Nat)(t:TypeId)(D:List CD):Prop:=
 ∀(cs:List Value) (d:DataW H) (ps:List MemPlace),DataW.trod enc P w 0 (λ_=>true) true fuel t cs=some (d,ps)->∃xs,Zep D xs/\RdL ok w xs cs
def Zp2 {H:Type}{enc:TypeId×Value->H}{fuel:Nat}:∀{n:Nat} {fs:List Field} {D:List CD} {cs:List Value} {off N:Nat} {rs:List (DataW H×List MemPlace)},
  (∀m t D,chkT P m t D=true->Zzc P w ok enc fuel t D)->ZxE P n D fs=true->Zh3 P off fs N=true->D.length=N->cs.length=N->off<=N→
  (fs.mapM λf=>DataW.trod enc P w 0 (λ_=>true) true fuel f.type ((cs.drop f.offset).take (P.cellsOf f.type)))=some rs→
  ∃xs,Zep (D.drop off) xs/\RdL ok w xs (cs.drop off)
 |n,[],D,cs,off,N,rs,_,_,hl,hD,hc,_,_=>by
  simp only[Zh3,Zas]at hl;subst hl;exact⟨[],by rw[List.drop_eq_nil_of_le (by omega)];simp[Zep],by rw[List.drop_eq_nil_of_le (by omega)];simp[RdL]⟩
 |0,f::fs,D,cs,off,N,rs,_,hk,_,_,_,_,_=>by simp[ZxE]at hk
 |n+1,f::fs,D,cs,off,N,rs,ih,hk,hl,hD,hc,h5,h=>by
  simp only[ZxE,Ze]at hk;simp only[Zh3,Ze,Zas]at hl;obtain⟨rfl,hl⟩:=hl;rw[List.mapM_cons]at h;cases h1:DataW.trod enc P w 0 (λ_=>true) true fuel f.type ((cs.drop f.offset).take (P.cellsOf f.type))with
  |none=>simp[h1]at h
  |some r=>
   cases h2:(fs.mapM λf=>DataW.trod enc P w 0 (λ_=>true) true fuel f.type ((cs.drop f.offset).take (P.cellsOf f.type)))with
   |none=>simp[h1,h2]at h
   |some rs'=>
    obtain⟨d,ps⟩:=r;obtain⟨xs,x1,x2⟩:=ih n f.type _ hk.1 _ d ps h1;have h3:=ZnD x2;have h4:=ZnX x1;have h0:f.offset+P.cellsOf f.type<=N:=by
     have:∀(fs:List Field) (off:Nat),Zh3 P off fs N=true->off<=N:=by
      intro fs;induction fs with
      |nil=>intro off h;simp only[Zh3,Zas]at h;omega
      |cons g gs ihg=>
       intro off h;simp only[Zh3,Ze,Zas]at h;have:=ihg _ h.2;omega
     exact this fs _ hl
    obtain⟨ys,y1,y2⟩:=Zp2 ih hk.2 hl hD hc h0 h2;refine⟨xs++ys,?_,?_⟩
    ·have:=Zkx x1 y1
     rwa [←List.drop_drop,List.take_append_drop]at this
    have:=x2.append y2
    rwa [←List.drop_drop,List.take_append_drop]at this
def Zru {H:Type}{enc:TypeId×Value->H}{fuel:Nat}{e:TypeId}{D:List CD}{cs:List Value}
  (ih:∀m t D,chkT P m t D=true->Zzc P w ok enc fuel t D):∀{m n:Nat},ZxF P n D e m=true->m*P.cellsOf e<=D.length->D.length=cs.length→
  (∀i,i<m->∃d ps,DataW.trod enc P w 0 (λ_=>true) true fuel e ((cs.drop (i*P.cellsOf e)).take (P.cellsOf e))=some (d,ps))→
  ∃xs,Zep (D.take (m*P.cellsOf e)) xs/\RdL ok w xs (cs.take (m*P.cellsOf e))
 |0,n,_,_,_,_=>⟨[],by simp[Zep],by simp[RdL]⟩
 |m+1,0,hk,_,_,_=>by simp[ZxF]at hk
 |m+1,n+1,hk,h0,hl,h=>by
  simp only[ZxF,Ze]at hk;have e1:(m+1)*P.cellsOf e=m*P.cellsOf e+P.cellsOf e:=by rw[Zah,Nat.one_mul]
  obtain⟨xs,x1,x2⟩:=Zru ih hk.2 (by omega) hl (λi hi=>h i (by omega));obtain⟨d,ps,h1⟩:=h m (by omega);obtain⟨ys,y1,y2⟩:=ih n e _ hk.1 _ d ps h1;refine⟨xs++ys,?_,?_⟩
  ·have:=Zkx x1 y1
   rwa [e1,List.take_add]
  have:=x2.append y2
  rwa [e1,List.take_add]
def Znp {β:Type}{f:Nat->Option β}{n:Nat}{r:List β}(h:(List.range n).mapM f=some r):r.length=n/\∀i,i<n->∃y,f i=some y/\r[i]?=some y:=by
 obtain⟨h1,h2⟩:=ZjZ h;simp only[ZZ]at h1;exact⟨h1,λi hi=>h2 i i (by simp[hi])⟩
def cells?_get {a:Addr}{m:Nat}{cs:List Value}(h:w.cells? 0 a m=some cs):cs.length=m/\∀j,j<m->∃u,w.cell? (a.add j)=some u/\cs[j]?=some u:=by
 unfold World.cells? at h;rw[Zav (Nat.zero_le _)]at h;exact Znp h
def Ztx (h4:∀a u,w.cell? a=some u->ok a){H:Type}{enc:TypeId×Value->H}:∀(fuel n:Nat) (t:TypeId) (D:List CD),chkT P n t D=true->Zzc P w ok enc fuel t D
 |0,n,t,D,_=>λcs d ps h=>by simp[DataW.trod]at h
 |fuel+1,0,t,D,hk=>by simp[chkT]at hk
 |fuel+1,n+1,t,D,hk=>by
  have ih:∀m t D,chkT P m t D=true->Zzc P w ok enc fuel t D:=λm t D h=>Ztx h4 fuel m t D h
  intro cs d ps h;rw[chkT.eq_def]at hk;simp only at hk;rw[DataW.trod.eq_def]at h;simp only at h;cases hu:P.underlying t with
  |none=>rw[hu]at hk;cases hk
  |some u=>
   rw[hu]at hk h;cases u with
   |bool=>
    simp only at hk;split at hk
    ·rcases cs with _|⟨v,_|⟨v2,rest⟩⟩
     ·simp at h
     ·cases v<;>simp at h;rename_i b;exact⟨[.bool b],by simp[Zep,okPC],_,[],rfl,by rw[PR],rfl⟩
     simp at h
    cases hk
   |int k=>
    simp only at hk;split at hk
    ·simp only[Zas]at hk;subst hk;rcases cs with _|⟨v,_|⟨v2,rest⟩⟩
     ·simp at h
     ·cases v<;>simp at h;rename_i k' n';obtain⟨⟨rfl,hw⟩,_⟩:=h;exact⟨[.int k' n'],by simp[Zep,okPC,hw],_,[],rfl,by rw[PR],rfl⟩
     simp at h
    cases hk
   |slice e=>
    simp only at hk;split at hk
    ·rename_i sz row;simp only[Ze,Zas]at hk;obtain⟨rfl,hk⟩:=hk;rcases cs with _|⟨v,_|⟨v2,rest⟩⟩
     ·simp at h
     ·cases v with
      |slice A len cap=>
       cases A with
       |none=>
        cases len with
        |zero=>exact⟨[.sl (P.cellsOf e) false []],by simp[Zep,okPC],_,[],rfl,by rw[PR];exact⟨none,cap,rfl,by simp,by simp,by simp⟩,rfl⟩
        |succ len=>simp at h
       |some a=>
        simp only at h;split at h
        ·rename_i hb;cases he:(List.range len).mapM λi=>(w.cells? 0 (a.add (i*P.cellsOf e)) (P.cellsOf e)).bind (DataW.trod enc P w 0 (λ_=>true) true fuel e)with
         |none=>rw[he]at h;simp at h
         |some es=>
          obtain⟨h1,h2⟩:=Znp he;have key:∀m,m<=len->∃rows:List (List PC),rows.length=m/\(∀r∈rows,Zep row r)/\∀(i:Nat) r,rows[i]?=some r->r.length=P.cellsOf e/\RowR ok w r (a.add (i*P.cellsOf e)):=by
           intro m;induction m with
           |zero=>intro _;exact⟨[],rfl,by simp,by simp⟩
           |succ m ihm=>
            intro hm;obtain⟨rows,r1,r2,r3⟩:=ihm (by omega);obtain⟨y,hy,_⟩:=h2 m (by omega);cases hc:w.cells? 0 (a.add (m*P.cellsOf e)) (P.cellsOf e)with
            |none=>rw[hc]at hy;simp at hy
            |some cs'=>
             rw[hc]at hy;simp only[Zak]at hy;obtain⟨d',ps'⟩:=y;obtain⟨xs,x1,x2⟩:=ih n e row hk cs' d' ps' hy;obtain⟨c1,c2⟩:=cells?_get hc;have hg:=ZnD x2;refine⟨rows++[xs],by simp[r1],?_,λi r hi=>?_⟩
             ·intro r hr;rcases List.mem_append.1 hr with hr|hr
              ·exact r2 r hr
              simp at hr;subst hr;exact x1
             rw[List.getElem?_append]at hi;split at hi
             ·exact r3 i r hi
             rename_i hh;have ha:i-rows.length=0:=by
              rcases Nat.eq_zero_or_pos (i-rows.length)with h0|h0
              ·exact h0
              rw[ZM (by simp;omega)]at hi;cases hi
             rw[ha]at hi;simp at hi;subst hi;have:i=m:=by omega
             subst this;refine⟨by omega,?_⟩;rw[ZjQ];intro j x hj;obtain⟨u,h3,h8⟩:=ZxR x2 j x hj;have h9:j<P.cellsOf e:=by
              have:=(List.getElem?_eq_some_iff.1 h3).1;omega
             obtain⟨u',h7,h6⟩:=c2 j h9;rw[h3]at h6;cases h6;exact⟨u,h7,h4 _ _ h7,h8⟩
          obtain⟨rows,r1,r2,r3⟩:=key len (Nat.le_refl _);refine⟨[.sl (P.cellsOf e) false rows],?_,_,[],rfl,?_,rfl⟩
          ·simp only[Zep,okPC,true_and,Zap];exact⟨by omega,r2⟩
          rw[PR];exact⟨some a,cap,by rw[r1],by omega,by simp,λ_=>⟨a,rfl,by rw[Zgw];exact r3⟩⟩
        cases h
      |_=>simp at h
     simp at h
    cases hk
   |struct fs=>
    simp only[Ze,Zas]at hk;obtain⟨⟨hD,hl⟩,hf⟩:=hk;simp only at h;split at h
    ·rename_i h5;cases hm:(fs.toList.mapM λf=>DataW.trod enc P w 0 (λ_=>true) true fuel f.type ((cs.drop f.offset).take (P.cellsOf f.type)))with
     |none=>rw[hm]at h;simp at h
     |some rs=>
      obtain⟨xs,x1,x2⟩:=Zp2 ih hf hl hD h5 (Nat.zero_le _) hm;exact⟨xs,by simpa using x1,by simpa using x2⟩
    cases h
   |array m e=>
    simp only[Ze,Zas]at hk;obtain⟨⟨hD,hl⟩,hf⟩:=hk;simp only at h;split at h
    ·rename_i h5;cases hm:((List.range m).mapM λi=>DataW.trod enc P w 0 (λ_=>true) true fuel e ((cs.drop (i*P.cellsOf e)).take (P.cellsOf e)))with
     |none=>rw[hm]at h;simp at h
     |some rs=>
      obtain⟨_,h2⟩:=Znp hm;obtain⟨xs,x1,x2⟩:=Zru ih hf (by omega) (by omega) (λi hi=>let ⟨y,hy,_⟩:=h2 i hi;⟨y.1,y.2,hy⟩);refine⟨xs,?_,?_⟩
      ·rwa [Zae (by omega)]at x1
      rwa [Zae (by omega)]at x2
    cases h
   |_=>cases hk
end
end Go.Eng

namespace Go.Eng
open Go Go.RowKit Go.ChangeShapes
def cx0 (w:World):Cx:=cx (k0 (λ_=>True) [] [] w) ⟨[],noB⟩ [] w
def ok0 {w:World}(a:Addr):(cx0 w).ok a:=⟨.inl trivial,λt e=>(by cases e),λid e=>by simp at e⟩
def ZrG {c:Cx}:∀{xs:List PC} {us:List Value},RdL c.ok c.w xs us->VRL c (xs.map .p) us
 |[],us,h=>by simp only[RdL]at h;subst h;rw[Z4,VRL]
 |x::xs,us,h=>by
  obtain⟨u,us',rfl,h1,h2⟩:=h;rw[Z3,VRL];exact⟨u,us',rfl,by rw[VR];exact h1,ZrG h2⟩
def open_agg {H:Type}{enc:TypeId×Value->H}{P:Program}{W:World}{base n:Nat}{t:TypeId}{v:Value}{d:DataW H}{ps:List MemPlace}{D:List CD}
  (hc:chkT P n t D=true) (h0:(match P.underlying t with|some (.struct _)=>true|some (.array _ _)=>true|_=>false)=true)
  (hv:Value.okWide P W .any base t v) (h:DataW.Trod enc P W 0 (λ_=>true) true t v d ps):∃xs,Zep D xs/\VR (cx0 W) (.agg (xs.map .p)) v:=by
 obtain⟨fuel,h⟩:=h;obtain⟨xs,x1,x2⟩:=Ztx (ok:=(cx0 W).ok) (λa u _=>ok0 a) fuel n t D hc _ d ps h;refine⟨xs,x1,?_⟩;have:∃cs,v=.agg cs:=by
  unfold Value.okWide at hv;split at hv
  ·obtain⟨cs,e,_⟩:=hv;exact⟨cs,e⟩
  ·obtain⟨cs,e,_⟩:=hv;exact⟨cs,e⟩
  rename_i h1 h2;split at h0
  ·rename_i hu;exact absurd hu (h1 _)
  ·rename_i hu;exact absurd hu (h2 _ _)
  cases h0
 obtain⟨cs,rfl⟩:=this;rw[VR];exact⟨cs.toList,rfl,ZrG x2⟩
def Zw0 {α:Type}{D:List CD}{enc:α->List PC}{R:α->Prop}(h:∀xs,Zep D xs->∃v,xs=enc v/\R v):∀{rows:List (List PC)},(∀r∈rows,Zep D r)->∃l:List α,rows=l.map enc/\∀x∈l,R x
 |[],_=>⟨[],rfl,by simp⟩
 |r::rs,hr=>by
  obtain⟨v,rfl,hv⟩:=h r (hr r (by simp));obtain⟨l,rfl,hl⟩:=Zw0 h (rows:=rs) λr hm=>hr r (by simp[hm])
  exact⟨v::l,rfl,λx hx=>by rcases List.mem_cons.1 hx with rfl|hx;exact hv;exact hl x hx⟩
def InK (k:IntKind)(n:Int):Prop:=(Lit.int k n).wf=true
def InK.u8 {n:Int}(h:InK .u8 n):0<=n/\n<=255:=by
 simpa[InK,Lit.wf,IntKind.min,IntKind.max,IntKind.signed,IntKind.bits]using h
def Ze4 {k:IntKind}{x:PC}(h:okPC (.int k) x):∃n,x=.int k n/\InK k n:=by
 cases x with
 |int k' n=>simp only[okPC]at h;obtain⟨rfl,h⟩:=h;exact⟨n,rfl,h⟩
 |_=>simp[okPC]at h
def ZpL {x:PC}(h:okPC .bool x):∃b,x=.bool b:=by
 cases x with
 |bool b=>exact⟨b,rfl⟩
 |_=>simp[okPC]at h
def Znk {sz:Nat}{D:List CD}{x:PC}{α:Type}{enc:α->List PC}{R:α->Prop}(hr:∀xs,Zep D xs->∃v,xs=enc v/\R v)(h:okPC (.sl sz D) x):∃l:List α,x=.sl sz false (l.map enc)/\l.length<=maxLen/\∀x∈l,R x:=by
 cases x with
 |sl sz' full rows=>
  simp only[okPC]at h;obtain⟨rfl,rfl,h1,h2⟩:=h;obtain⟨l,rfl,hl⟩:=Zw0 hr h2;exact⟨l,rfl,by simpa using h1,hl⟩
 |_=>simp[okPC]at h
def ZbO {d:CD}{D:List CD}{xs:List PC}(h:Zep (d::D) xs):∃x ys,xs=x::ys/\okPC d x/\Zep D ys:=by
 cases xs with
 |nil=>simp[Zep]at h
 |cons x ys=>simp only[Zep]at h;exact⟨x,ys,rfl,h.1,h.2⟩
def ZpK {xs:List PC}(h:Zep [] xs):xs=[]:=by
 cases xs with
 |nil=>rfl
 |cons x ys=>simp[Zep]at h
def Ztm {k:IntKind}:∀xs,Zep [.int k] xs->∃v,xs=eI k v/\InK k v:=λxs h=>by
 obtain⟨x,ys,rfl,h1,h2⟩:=ZbO h;obtain⟨n,rfl,hn⟩:=Ze4 h1;rw[ZpK h2];exact⟨n,rfl,hn⟩
def stays {H:Type}{enc:TypeId×Value->H}{P:Program}{t:TypeId}(hl:laidOutB P=true)(hr:P.readableRec t=true)(h0:t<P.types.size){W W':World}{v:Value}{d:DataW H}{ps:List MemPlace}
  (h:DataW.Trod enc P W 0 (λ_=>true) true t v d ps) (hb:Below W.heap.size W W') (h2:∀x∈ps,x.block<W.heap.size) {sp:Nat->Bool} (h1:∀x∈ps,sp x.block=true):
  DataW.Trod enc P W' 0 sp true t v d ps:=
 WideElems.Trod_stays hl hr h0 h (λx hx=>hb.same (h2 x hx)) h1
def Zld.run_law {P:Program}{f:Nat}{args:List AV}(h:Zld P f args (.p (.bool true)))(w:World)(vs:List Value)(hv:VRL (cx0 w) args vs):
  Calls P f vs.toArray w λe w'=>e=.returned (.bool true)/\Below w.heap.size w w':=h.run_bool (λ_=>True) w vs hv
end Go.Eng

namespace Go.Eng
open Go
def FrOK (fr:List (Nat×AV)):List (Nat×AV)->Prop
 |[]=>True
 |(t,v)::r=>get fr t=v/\Za7 v=true/\FrOK fr r
theorem FrOK.get {fr:List (Nat×AV)}:∀{fr0:List (Nat×AV)},FrOK fr fr0->∀t,Za7 (get fr0 t)=true/\(get fr0 t=.any∨get fr0 t=get fr t)
 |[],_,t=>⟨rfl,.inl rfl⟩
 |(u,v)::r,h,t=>by
  obtain⟨h1,h2,h3⟩:=h;simp only[Eng.get];by_cases e:u=t
  ·subst e;rw[Zav rfl];exact⟨h2,.inr h1.symm⟩
  rw[Zau e];exact FrOK.get h3 t
def Zmq (fr:List (Nat×AV)):List Nat->List AV->List (Nat×AV)
 |t::ts,v::vs=>Zmq (put fr t v) ts vs
 |_,_=>fr
section
variable {P:Program} {k:K0} {n:Nat} {g:G} {s:St} {a:Act} {w:World}
def getElem?_set' {α:Type}{l:List α}{i:Nat}{x y:α}(h:l[i]?=some x)(j:Nat):(l.set i y)[j]?=if i=j then some y else l[j]?:=by
 have h0:=(List.getElem?_eq_some_iff.1 h).1;rw[ZP];by_cases e:i=j
 ·subst e;simp[h0]
 simp[e]
def Rel.setLp (h:Rel k n g s a w){id l:Nat}{L:LC}{fr:List (Nat×AV)}{st st':LS}{r r':Loop}(hH:s.H[id]?=some (.lp L fr st))(hρ:g.ρ[id]?=some l)(hr:w.heap[l]?=some (.loop r))
  (hs:r'.params=r.params/\r'.assign=r.assign/\r'.body=r.body/\r'.tmps=r.tmps) (h7:StR st' r'):
  Rel k n g ⟨s.fr,s.bx,s.H.set id (.lp L fr st')⟩ a (w.putObj l (.loop r'))/\ZbA (cx k g s.H w) (cx k g (s.H.set id (.lp L fr st')) (w.putObj l (.loop r'))):=by
 have u:Off w (w.putObj l (.loop r')) l:=.put _ (λvs e f h=>by rw[hr]at h;cases h);have h3:=getElem?_set' (y:=HO.lp L fr st') hH;have h6:l<w.heap.size:=(Array.getElem?_eq_some_iff.1 hr).1;have hl:ZbA (cx k g s.H w) (cx k g (s.H.set id (.lp L fr st')) (w.putObj l (.loop r'))):=
  {stay:=λa x ho hc=>by
    refine⟨u.cell hc,ho.1,ho.2.1,λj hj=>?_⟩;obtain⟨sz,ver,rows,h1,h2⟩:=ho.2.2 j hj;refine⟨sz,ver,rows,?_,h2⟩;rw[h3,Zau (λe=>by subst e;rw[hH]at h1;cases h1)];exact h1
   arr:=λj sz ver frz rows e=>by
    have e':s.H[j]?=some (.arr sz ver frz rows):=e;refine⟨ver,frz,rows,?_,Nat.le_refl _,λ_=>⟨Nat.le_refl _,rfl,λb vs _ hb=>⟨vs,u.blk hb,rfl⟩⟩⟩;show(s.H.set id _)[j]?=_;rw[h3,Zau (λe1=>by subst e1;rw[hH]at e';cases e')];exact e'
   cells:=λj cs e=>by
    have e':s.H[j]?=some (.cells cs):=e;refine⟨⟨cs,?_⟩,rfl⟩;show(s.H.set id _)[j]?=_;rw[h3,Zau (λe1=>by subst e1;rw[hH]at e';cases e')];exact e'
   lp:=λj L' fr' st1 e=>by
    have e':s.H[j]?=some (.lp L' fr' st1):=e;refine⟨?_,rfl⟩;by_cases hj:id=j
    ·subst hj;rw[hH]at e';cases e';exact⟨st',by show(s.H.set id _)[id]?=_;rw[h3,Zav rfl]⟩
    exact⟨st1,by show(s.H.set id _)[j]?=_;rw[h3,Zau hj];exact e'⟩}
 refine⟨?_,hl⟩;have h4:∀b,b≠l->∀o,w.heap[b]?=some o->(w.putObj l (.loop r')).heap[b]?=some o:=λb hb o ho=>(u.block b hb).trans ho
 exact
  {defers:=h.defers.mono λD _ hD=>h4 D (λe=>by subst e;rw[hr]at hD;cases hD) _ hD
   rnd:=λl' h8=>by
    obtain⟨r1,h1⟩:=h.rnd l' h8;by_cases e:l'=l
    ·subst e;exact⟨r',World.putObj_heap_same h6⟩
    exact⟨r1,h4 l' e _ h1⟩
   tsz:=h.tsz
   slots:=λt=>ZbP hl (λ_ _ e=>e) (h.tops t) (h.slots t)
   tops:=h.tops
   boxes:=λt cs e=>let ⟨b,hb,h5⟩:=h.boxes t cs e;⟨b,hb,h5.later hl (h4 b (λe=>by
    subst e;obtain⟨_,vs,⟨et,h5⟩,_⟩:=h5;rw[show w.heap[b]?=_ from h5]at hr;cases hr))⟩
   boxed:=h.boxed
   heap:=λj o e=>by
    simp only[h3]at e;by_cases hj:id=j
    ·subst hj;simp only[Zaw,Zan]at e;subst e;obtain⟨b,hb,hq⟩:=h.heap id _ hH;rw[hρ]at hb;cases hb;obtain⟨hm,h0,r1,q1,q2,q3,q5,q6,q7⟩:L.mpk=false/\LpR (cx k g s.H w) l L fr st:=hq.resolve_right λ⟨_,hq⟩=>by
      cases st with
      |mp ka es=>obtain⟨_,_,ents,clock,hq,_⟩:=hq;rw[show w.heap[l]?=_ from hq]at hr;cases hr
      |mps ka es bs clock=>obtain⟨_,_,ents,hq,_⟩:=hq;rw[show w.heap[l]?=_ from hq]at hr;cases hr
      |it m since seen last=>obtain⟨_,_,_,_,_,_,hq⟩:=hq;rw[show w.heap[l]?=_ from hq]at hr;cases hr
      |itd=>obtain⟨_,_,_,_,hq⟩:=hq;rw[show w.heap[l]?=_ from hq]at hr;cases hr
      |_=>exact hq
     have:r1=r:=by have:=(show w.heap[l]?=_ from q1).symm.trans hr;simpa using this
     subst this;refine⟨l,hρ,.inl ⟨hm,h0,r',World.putObj_heap_same h6,by rw[hs.1];exact q2,by rw[hs.2.1,hs.2.2.1];exact q3,by rw[hs.2.2.2];exact q5,λt=>?_,h7⟩⟩;rw[hs.2.2.2];exact VR.later hl _ _ (h0 t) (q6 t)
    simp only[hj,Zat]at e;obtain⟨b,hb,h5⟩:=h.heap j o e;exact⟨b,hb,h5.later hl (h4 b (λe=>hj (h.inj id j l hρ (by rw[←e];exact hb))))⟩
   len:=by simp[h.len]
   inj:=h.inj
   binj:=h.binj
   apart:=h.apart
   own:=h.own
   keep:=h.keep.off u (h.own id l hρ)
   hist:=h.hist.trans hl}
def Rel.lpMk (h:Rel k n g s a w){id:Nat}{L:LC}{fr:List (Nat×AV)}{st:LS}(hH:s.H[id]?=some (.lp L fr st))(h4:∀ka es,st≠.mp ka es)(h3:∀ka es bs c,st≠.mps ka es bs c:=by simp)(h2:∀a b c d,st≠.it a b c d:=by simp)(h1:st≠.itd:=by simp):L.mpk=false:=by
 obtain⟨l,hl,h0⟩:=h.heap id _ hH;rcases h0 with⟨h0,_⟩|⟨_,h0⟩
 ·exact h0
 cases st with
 |mp ka es=>exact absurd rfl (h4 ka es)
 |mps ka es bs c=>exact absurd rfl (h3 ka es bs c)
 |it a b c d=>exact absurd rfl (h2 a b c d)
 |itd=>exact absurd rfl h1
 |_=>exact h0.elim
def Rel.theLp (h:Rel k n g s a w){id:Nat}{L:LC}{fr:List (Nat×AV)}{st:LS}(hH:s.H[id]?=some (.lp L fr st))(hm:L.mpk=false):∃l r,g.ρ[id]?=some l/\w.heap[l]?=some (.loop r)/\LpR (cx k g s.H w) l L fr st/\StR st r:=by
 obtain⟨l,hl,hq⟩:=h.heap id _ hH;have h0:LpR (cx k g s.H w) l L fr st:=hq.elim (λq=>q.2) (λq=>by rw[hm]at q;cases q.1);have h3:=h0;obtain⟨_,r,h1,_,_,_,_,h2⟩:=h3;exact⟨l,r,hl,h1,h0,h2⟩
def Rel.callL (h:Rel k n g s a w){f:Nat}{args:List AV}{r:AV}{H':List HO}{vs:List Value}(hc:Zcg P f args s.H r H')(h0:VRL (cx k g s.H w) args vs)(h6:noLocL args=true)
  {R:Ending->World->Prop} (hR:∀g' v w',Rel k n g' ⟨s.fr,s.bx,H'⟩ a w'->ZbA (cx k g s.H w) (cx k g' H' w')->R (.returned v) w'):Calls P f vs.toArray w R:=by
 obtain⟨_,h7,hc⟩:=hc;refine(hc (okOf k s.H g) g.ρ w vs h.hr (VRL.later h.laterCall args vs h6 h0)).mono ?_;rintro e w' ⟨v,ρ',rfl,h1,h2,h3⟩;obtain⟨h4,h5⟩:=h.back h1 h3;exact hR _ _ _ h4 ((h.laterCall.trans h3).trans h5)
def Rel.mark (h:Rel k n g s a w):Rel k n g s {a with defers:={target:=.collected w.heap.size,args:=#[]}::a.defers} (w.alloc (.deferred (some []))):=by
 have hg:=Grow.alloc w (.deferred (some []));have h1:=h.grow hg;obtain⟨ms,ms2,e,hn,hm⟩:=h.defers;refine {h1 with defers:=⟨w.heap.size::ms,ms2,by rw[e];rfl,(show(w.heap.size::(ms++ms2)).Nodup from List.nodup_cons.2 ⟨λhD=>?_,hn⟩),λD hD=>?_⟩}
 ·have:=(Array.getElem?_eq_some_iff.1 (hm _ hD).2).1;omega
 rw[Zz]at hD;rcases List.mem_cons.1 hD with rfl|hD
 ·exact⟨h.keep.size,World.alloc_heap_new w _⟩
 exact⟨(hm D hD).1,Ze5 hg (hm D hD).2⟩
def Rel.enterLoop (h:Rel k n g s a w){fr0:List (Nat×AV)}(h3:FrOK s.fr fr0)(fn:FuncId)(ps:Array Tmp)(assign body:Code){L:LC}(h9:L.ps=ps.toList)(h8:L.n=n)(h7:L.ok assign body)(h6:L.mpk=false):
  ∃l mark w1 g1,(Instr.enterLoop fn a.tmps ps assign body k.rd).run P w=.ok (l,mark) w1/\g1.ρ[s.H.length]?=some l∧
   Rel k n g1 ⟨s.fr,s.bx,s.H++[.lp L fr0 .ready]⟩ {a with defers:=mark++a.defers} w1/\ZbA (cx k g s.H w) (cx k g1 (s.H++[.lp L fr0 .ready]) w1):=by
 have key:∀(w0:World) (a0:Act) (rec:Loop),a0.tmps=a.tmps->rec.params=ps->rec.assign=assign->rec.body=body->rec.tmps=a.tmps->rec.state=.ready->rec.pending=none->Rel k n g s a0 w0→
   Rel k n ⟨g.ρ++[w0.heap.size],g.β⟩ ⟨s.fr,s.bx,s.H++[.lp L fr0 .ready]⟩ a0 (w0.alloc (.loop rec))∧
    ZbA (cx k g s.H w0) (cx k ⟨g.ρ++[w0.heap.size],g.β⟩ (s.H++[.lp L fr0 .ready]) (w0.alloc (.loop rec))):=by
  intro w0 a0 rec e0 e1 e2 e3 e4 e5 e6 h0;have hl:=h0.laterNewG (o:=.lp L fr0 .ready) (.loop rec);refine h0.newObjG (.loop rec) (.inl ⟨h6,λt=>(h3.get t).1,rec,World.alloc_heap_new w0 _,by rw[e1,h9],by rw[e2,e3];exact h7,by rw[e4,←e0,h8];exact h0.tsz,λt=>?_,e5,e6⟩);rcases(h3.get t).2 with e|e
  ·rw[e];simp[VR]
  have:=h0.slots t;rw[e0,←e4,←e]at this;exact VR.later hl _ _ (h3.get t).1 this
 cases h4:k.rd with
 |none=>
  have hm:=h.mark;obtain⟨h1,h2⟩:=key (w.alloc (.deferred (some []))) {a with defers:={target:=.collected w.heap.size,args:=#[]}::a.defers} {state:=.ready,pending:=none,fn,tmps:=a.tmps,params:=ps,assign,body,defers:=w.heap.size} rfl rfl rfl rfl rfl rfl rfl hm;refine⟨_,_,_,_,run_enterLoop_outer fn a.tmps ps assign body,?_,h1,(Zfl (Grow.alloc w _) s.H).trans h2⟩;show(g.ρ++[_])[s.H.length]?=_;rw[←h.len];simp
 |some l0=>
  obtain⟨r0,h5⟩:=h.rnd l0 h4;obtain⟨h1,h2⟩:=key w a {state:=.ready,pending:=none,fn,tmps:=a.tmps,params:=ps,assign,body,defers:=r0.defers} rfl rfl rfl rfl rfl rfl rfl h;refine⟨w.heap.size,[],_,_,?_,?_,h1,h2⟩
  ·unfold Instr.enterLoop;simp only[Sem.run_bind,run_getLoop h5,run_newObj_alloc,Result.andThen,Sem.run_pure]
  show(g.ρ++[_])[s.H.length]?=_;rw[←h.len];simp
def outQ (Q:Exit->St->Prop)(s:St):LS->Prop
 |.ready=>Q .normal s
 |.done .ret=>Q .ret s
 |.done (.exit id)=>Q (.exit id) s
 |_=>False
def EvI.rangeF {x:IX}{ps:List Nat}{ia ib:IC}{s:St}{Q:Exit->St->Prop}{gf:Nat}{cap:List AV}(fr0:List (Nat×AV))(hv:FrOK s.fr fr0)(hx:ev s.fr x=.fn gf [] cap)
  {L:LC} (hL:L=⟨ps,n,λa b=>chkC P n a ia=true/\chkC P n b ib=true,false⟩) (h5:(∀t∈ps,t<n)→
   ∃args H1 r H2 st,frzL (s.H++[.lp L fr0 .ready]) (.yl s.H.length::cap)=some (args,H1)/\Zcg P gf args H1 r H2/\H2[s.H.length]?=some (.lp L fr0 st)∧
    outQ Q ⟨s.fr,s.bx,H2.set s.H.length (.lp L fr0 .dead)⟩ st):EvI P n (.rangeF x ps ia ib) s Q:=by
 intro c hc k g a w hr;cases c<;>simp only[chkC,Zg,Ze,Zas,Zu]at hc;rename_i G PS A B;obtain⟨⟨⟨⟨hG,hk⟩,hn⟩,hA⟩,hB⟩:=hc;obtain⟨args,H1,r,H2,st,hf,hg,hh,hQ⟩:=h5 hn;refine wpIn_rangeFunc λfn _=>?_
 obtain⟨l,mark,w1,g1,he,hρ,h1,hu⟩:=hr.enterLoop (P:=P) hv fn PS A B (L:=L) (by rw[hL];exact hk.symm) (by rw[hL]) (by rw[hL];exact⟨hA,hB⟩) (by rw[hL]);have h9:=Zcs hr hG;have h7:=Zno hr hG;rw[hx]at h9 h7;simp only[top,Za7,Ze]at h7;have h4:=VR.later hu _ _ (by simp only[Za7,Ze];exact h7) h9;rw[VR]at h4;obtain⟨us1,us2,e,ha,hj⟩:=h4;rw[VRL]at ha;subst ha;have h6:VRL (cx k g1 (s.H++[.lp L fr0 .ready]) w1) (.yl s.H.length::cap) (.func (.yield l) #[] #[]::us2):=by
  rw[VRL];refine⟨_,us2,rfl,?_,hj⟩;rw[VR];exact⟨L,fr0,.ready,l,(by simp[cx]),hρ,rfl⟩
 obtain⟨r1,l2,v1,n1⟩:=Znu (s:=⟨s.fr,s.bx,s.H++[.lp L fr0 .ready]⟩) _ h1 hf (λy hy=>by
  rcases List.mem_cons.1 hy with rfl|hy
  ·rfl
  exact Za1 (ZcA.1 h7.2 y hy)) h6
 refine⟨l,mark,w1,{target:=.fn (.func gf) us2.toArray,args:=#[.func (.yield l) #[] #[]]},w1,gf,(.func (.yield l) #[] #[]::us2).toArray,w1,he,?_,λ_ _=>trivial,?_,λh=>(by cases h),?_⟩
 ·have h8:∀v,a.eval (.const v)=v:=λ_=>rfl
  have e':a.eval G=.func (.func gf) #[] us2.toArray:=e;simp[resolve,e',Deferred.ofValue,Sem.run_bind,Sem.run_pure,Result.andThen_ok,h8]
 ·simp only[invoke];rw[Zgo hg.1]
  congr 2
  apply Array.ext';simp
 refine ZrA (r1.callL hg v1 n1 ?_);intro g' v w' h2 ht;have hρ':g'.ρ[s.H.length]?=some l:=by
  have hq:=l2.trans ht;have:=(hq.lp s.H.length L fr0 .ready (by simp[cx])).2;exact this.trans hρ
 obtain⟨l',rr,e1,e2,_,e4⟩:=h2.theLp hh (by rw[hL]);have:l'=l:=by have:=(show g'.ρ[s.H.length]?=_ from e1).symm.trans hρ';simpa using this
 subst this;have hm:rr.state≠.busy:=by
  cases st with
  |ready=>rw[e4.1];simp
  |busy=>simp[outQ]at hQ
  |dead=>simp[outQ]at hQ
  |mp=>simp[outQ]at hQ
  |mps=>simp[outQ]at hQ
  |it=>simp[outQ]at hQ
  |itd=>simp[outQ]at hQ
  |done c=>rw[e4.1];simp
 have h0:=run_endLoop (P:=P) e2 hm;have h3:=(h2.setLp (st':=.dead) (r':={rr with state:=.exhausted}) hh e1 e2 ⟨rfl,rfl,rfl,rfl⟩ trivial).1;cases st with
 |ready=>exact⟨none,_,by rw[←e4.2];exact h0,⟨_,g',h3,hQ⟩⟩
 |busy=>simp[outQ]at hQ
 |dead=>simp[outQ]at hQ
 |mp=>simp[outQ]at hQ
 |mps=>simp[outQ]at hQ
 |it=>simp[outQ]at hQ
 |itd=>simp[outQ]at hQ
 |done c=>
  cases c with
  |ret=>exact⟨some .ret,_,by rw[←e4.2];exact h0,wpIn_ret ⟨_,g',h3,hQ⟩⟩
  |exit id=>exact⟨some (.exit id),_,by rw[←e4.2];exact h0,wpIn_exit ⟨_,g',h3,hQ⟩⟩
  |_=>simp[outQ]at hQ
def Zkd (tmps:Array Value):List Nat->List Value->Array Value
 |t::ts,v::vs=>Zkd (tmps.setIfInBounds t v) ts vs
 |_,_=>tmps
def ZvS (tmps:Array Value)(ps:List Nat)(vs:List Value):(List.zip ps vs).foldl (λt (p:Nat×Value)=>t.setIfInBounds p.1 p.2) tmps=Zkd tmps ps vs:=by
 induction ps generalizing tmps vs with
 |nil=>rfl
 |cons p ps ih=>
  cases vs with
  |nil=>rfl
  |cons v vs=>simp only[List.zip_cons_cons,ZE,Zkd];exact ih _ _
def Zui (tmps:Array Value)(ps:List Nat)(vs:List Value):(Zkd tmps ps vs).size=tmps.size:=by
 induction ps generalizing tmps vs with
 |nil=>cases vs<;>rfl
 |cons p ps ih=>cases vs with
  |nil=>rfl
  |cons v vs=>simp only[Zkd];rw[ih];simp
def ZnQ {c:Cx}:∀(ts:List Nat) {fr:List (Nat×AV)} {tmps:Array Value} {args:List AV} {vs:List Value},(∀t,Za7 (get fr t)=true)->(∀t,VR c (get fr t) (tmps.getD t undef))->noLocL args=true->VRL c args vs→
  (∀t∈ts,t<tmps.size)->∀t,Za7 (get (Zmq fr ts args) t)=true/\VR c (get (Zmq fr ts args) t) ((Zkd tmps ts vs).getD t undef)
 |[],fr,tmps,args,vs,h0,h1,_,_,_,t=>by
  have e1:Zmq fr [] args=fr:=by cases args<;>rfl
  have e2:Zkd tmps [] vs=tmps:=by cases vs<;>rfl
  rw[e1,e2];exact⟨h0 t,h1 t⟩
 |u::ts,fr,tmps,[],vs,h0,h1,_,hv,_,t=>by
  rw[VRL]at hv;subst hv;exact⟨h0 t,h1 t⟩
 |u::ts,fr,tmps,x::xs,vs,h0,h1,h2,hv,h3,t=>by
  rw[VRL]at hv;obtain⟨v,vs',rfl,h5,h4⟩:=hv;simp only[noLocL,Za7.noLocL,Ze]at h2;simp only[Zmq,Zkd];refine ZnQ ts (λt=>?_) (λt=>?_) h2.2 h4 (λt ht=>by simpa using h3 t (by simp[ht])) t
  ·rw[ZbF];split
   ·exact h2.1
   exact h0 t
  rw[ZbF];have hu:=h3 u (by simp);by_cases e:u=t
  ·subst e;rw[Zav rfl];simp[Za,hu];exact h5
  rw[Zau e];have:=h1 t
  rwa [Za,←Zc (xs:=tmps) (a:=v) e,←Za]at this
def Ztb (id:Nat)(L:LC)(fr0:List (Nat×AV))(b:Bool)(H':List HO):Exit->St->Prop
 |.normal,s=>b=true/\s.H[id]?=some (.lp L fr0 .busy)/\H'=s.H.set id (.lp L fr0 .ready)
 |.ret,s=>b=false/\s.H[id]?=some (.lp L fr0 .busy)/\H'=s.H.set id (.lp L fr0 (.done .ret))
 |.exit j,s=>b=false/\s.H[id]?=some (.lp L fr0 .busy)/\H'=s.H.set id (.lp L fr0 (.done (.exit j)))
 |_,_=>False
theorem HR.rd {k:K0}{x:Option Nat}{ρ:List Nat}{H:List HO}{w:World}(h:HR {k with rd:=x} ρ H w):HR k ρ H w:=
 {heap:=h.heap,len:=h.len,inj:=h.inj,own:=h.own,keep:=h.keep}
def ZxX {id:Nat}{args:List AV}{H H':List HO}{L:LC}{fr0:List (Nat×AV)}{ia ib:IC}{b:Bool}(hH:H[id]?=some (.lp L fr0 .ready))(hx:args.length=L.ps.length)(hn:∀t∈L.ps,t<L.n)(hm:noLocL args=true)
  (hk:∀a b,L.ok a b->chkC P L.n a ia=true/\chkC P L.n b ib=true)
  (h:EvI P L.n ia ⟨Zmq fr0 L.ps args,[],H⟩ (Zk9 (λs1=>s1.H[id]?=some (.lp L fr0 .ready)/\EvI P L.n ib ⟨s1.fr,s1.bx,s1.H.set id (.lp L fr0 .busy)⟩ (Ztb id L fr0 b H')) (λ_ _=>False))):
  Zlc P id args H b H':=by
 intro ok0 ρ w vs l h7 hv hρ;obtain⟨l',hh,hq⟩:=h7.heap id _ hH;obtain⟨_,h0,r,q1,q2,q3,q5,q6,q7⟩:=hq.resolve_right λ⟨_,q⟩=>q
 obtain⟨ha,hb⟩:=hk _ _ q3;rw[hρ]at hh;cases hh;have hu:=hv.length;have he:vs.toArray.size=r.params.size:=by
  have:r.params.toList.length=L.ps.length:=by rw[q2]
  simp only[Zd]at this;simp;omega
 refine⟨r.fn,_,r.assign,r.body,run_yield q1 he,?_⟩;refine roundIn_of_wpIn (F:=FR none) trivial ?_;have hy:cx ({k0 ok0 ρ H w with rd:=some l}:K0) ⟨ρ,noB⟩ H w=cx (k0 ok0 ρ H w) ⟨ρ,noB⟩ H w:=rfl;have hj:(r.params.zip vs.toArray).foldl (λtmps (x:Nat×Value)=>tmps.setIfInBounds x.1 x.2) r.tmps=Zkd r.tmps L.ps vs:=by
  rw[←Array.foldl_toList,Array.toList_zip,q2];exact ZvS _ _ _
 have hg:=ZnQ (c:=cx (k0 ok0 ρ H w) ⟨ρ,noB⟩ H w) L.ps h0 q6 hm hv (λt ht=>by rw[q5];exact hn t ht);have h9:Rel ({k0 ok0 ρ H w with rd:=some l}:K0) L.n ⟨ρ,noB⟩ ⟨Zmq fr0 L.ps args,[],H⟩ {tmps:=Zkd r.tmps L.ps vs,defers:=[]} w:=
  {defers:=⟨[],[],rfl,List.nodup_nil,λD h=>(by cases h)⟩
   rnd:=λl' e=>by cases e;exact⟨r,q1⟩
   tsz:=by rw[Zui];exact q5
   slots:=λt=>(hg t).2
   tops:=λt=>Za1 (hg t).1
   boxes:=λt cs e=>by simp[bget]at e
   boxed:=λt b e=>by cases e
   heap:=h7.heap
   len:=h7.len
   inj:=h7.inj
   binj:=λt u b e=>by cases e
   apart:=λt i b e=>by cases e
   own:=h7.own
   keep:=h7.keep
   hist:=ZbA.refl _}
 have h8:(Array.foldl (λtmps (x:Tmp×Value)=>match x with|(t,a)=>tmps.setIfInBounds t a) r.tmps (r.params.zip vs.toArray))=Zkd r.tmps L.ps vs:=hj;rw[h8];refine wpIn_mono (h _ ha ({k0 ok0 ρ H w with rd:=some l}:K0) ⟨ρ,noB⟩ _ w h9) ?_;rintro e a1 w1 ⟨s1,g1,h1,h2⟩;cases e with
 |normal=>
  obtain⟨hf,h2⟩:=h2;obtain⟨l1,r1,e1,e2,_,e4⟩:=h1.theLp hf (h1.lpMk hf (by intro _ _ e;cases e));have:l1=l:=by
   have:=(h1.hist.lp id L fr0 .ready hH).2;have:=(show g1.ρ[id]?=ρ[id]? from this);rw[e1,hρ]at this;simpa using this
  subst this;refine⟨_,run_beginRound e2 e4.1,?_⟩;obtain⟨h3,_⟩:=h1.setLp (st':=.busy) (r':={r1 with state:=.busy}) hf e1 e2 ⟨rfl,rfl,rfl,rfl⟩ rfl;refine wpIn_mono (h2 _ hb ({k0 ok0 ρ H w with rd:=some l1}:K0) g1 a1 _ h3) ?_;rintro e a2 w2 ⟨s2,g2,h4,h5⟩;have key:∀(jump:Option Code) (st:LS),s2.H[id]?=some (.lp L fr0 .busy)->H'=s2.H.set id (.lp L fr0 st)->b=jump.isNone->(∀r:Loop,StR st {r with state:=if jump.isNone then .ready else .done,pending:=jump})→
    ∃v w',(Instr.endRound l1 jump).run P w2=.ok v w'/\∃ρ',Ending.returned v=.returned (.bool b)/\HR (k0 ok0 ρ H w) ρ' H' w'/\ZbA (cx (k0 ok0 ρ H w) ⟨ρ,noB⟩ H w) (cx (k0 ok0 ρ H w) ⟨ρ',noB⟩ H' w'):=by
   intro jump st g0 gH gb gst;obtain⟨l2,r2,f1,f2,_,_⟩:=h4.theLp g0 (h4.lpMk g0 (by intro _ _ e;cases e));have:l2=l1:=by
    have:=(h4.hist.lp id L fr0 .ready hH).2;have:=(show g2.ρ[id]?=ρ[id]? from this);rw[f1,hρ]at this;simpa using this
   subst this;obtain⟨h6,_⟩:=h4.setLp (st':=st) (r':={r2 with state:=if jump.isNone then .ready else .done,pending:=jump}) g0 f1 f2 ⟨rfl,rfl,rfl,rfl⟩ (gst r2);refine⟨_,_,run_endRound jump f2,g2.ρ,by rw[gb],?_,?_⟩
   ·rw[gH];exact HR.rd h6.toHR
   rw[gH];exact h6.hist.trans h6.noBoxes
  cases e with
  |normal=>exact key none .ready h5.2.1 h5.2.2 h5.1 (λr=>⟨rfl,rfl⟩)
  |ret=>exact key (some .ret) (.done .ret) h5.2.1 h5.2.2 h5.1 (λr=>⟨rfl,rfl⟩)
  |exit j=>exact key (some (.exit j)) (.done (.exit j)) h5.2.1 h5.2.2 h5.1 (λr=>⟨rfl,rfl⟩)
  |_=>exact h5.elim
 |_=>exact h2.elim
end
end Go.Eng

namespace Go.Eng
open Go
section
variable {H H' H'':List HO}
def HP.append:∀{a b:List Za0},HP H (a++b)↔HP H a/\HP H b/\∀i∈a,∀j∈b,∀id,Occ i id->¬Occ j id
 |[],b=>by simp[HP]
 |i::a,b=>by
  rw[Zz,HP,HP,HP.append];constructor
  ·rintro⟨h1,h2,h3,h4,h5⟩;refine⟨⟨h1,λid ho j hj=>h2 id ho j (by simp[hj]),h3⟩,h4,λx hx j hj id h0=>?_⟩;rcases List.mem_cons.1 hx with rfl|hx
   ·exact h2 id h0 j (by simp[hj])
   exact h5 x hx j hj id h0
  rintro⟨⟨h1,h2,h3⟩,h4,h5⟩;refine⟨h1,λid ho j hj=>?_,h3,h4,λx hx=>h5 x (by simp[hx])⟩;rcases List.mem_append.1 hj with hj|hj
  ·exact h2 id ho j hj
  exact h5 i (by simp) j hj id ho
structure Fp (H H':List HO) (fp fp':List Za0):Prop where
 size:H.length<=H'.length
 same:∀id,id<H.length->(∀i∈fp,¬Occ i id)->H'[id]?=H[id]?
 now:HP H' fp'
 occ:∀i'∈fp',∀id,Occ i' id->(∃i∈fp,Occ i id)∨H.length<=id
def Fp.refl {fp:List Za0}(h:HP H fp):Fp H H fp fp:=⟨Nat.le_refl _,λ_ _ _=>rfl,h,λi hi id ho=>.inl ⟨i,hi,ho⟩⟩
def Fp.trans {a b c:List Za0}(h:Fp H H' a b)(h':Fp H' H'' b c):Fp H H'' a c:=
 {size:=Nat.le_trans h.size h'.size
  same:=λid h1 hn=>by
   rw[h'.same id (Nat.lt_of_lt_of_le h1 h.size) (λi hi ho=>?_),h.same id h1 hn];rcases h.occ i hi id ho with⟨j,hj,h0⟩|h2
   ·exact hn j hj h0
   omega
  now:=h'.now
  occ:=λi hi id ho=>by
   rcases h'.occ i hi id ho with⟨j,hj,h0⟩|h2
   ·exact h.occ j hj id h0
   right;have:=h.size;omega}
def Fp.rest {fp fp' rest:List Za0}(h:HP H (fp++rest))(hf:Fp H H' fp fp'):HP H' (fp'++rest):=by
 obtain⟨h1,h2,h3⟩:=HP.append.1 h;refine HP.append.2 ⟨hf.now,h2.same λj hj id ho=>hf.same id ((h2.lies j hj).lt id ho) (λi hi h0=>h3 i hi j hj id h0 ho),λi' h5 j hj id h0 h4=>?_⟩;rcases hf.occ i' h5 id h0 with⟨i,hi,ho⟩|h6
 ·exact h3 i hi j hj id ho h4
 have:=(h2.lies j hj).lt id h4;omega
def HP.swap {a b:List Za0}(h:HP H (a++b)):HP H (b++a):=by
 obtain⟨h1,h2,h3⟩:=HP.append.1 h;exact HP.append.2 ⟨h2,h1,λi hi j hj id ho h0=>h3 j hj i hi id h0 ho⟩
def Fp.beside {own fp fp':List Za0}(h:HP H (own++fp))(hf:Fp H H' fp fp'):HP H' (own++fp'):=(hf.rest h.swap).swap
def Fp.more {fp fp' rest:List Za0}(h:HP H (fp++rest))(hf:Fp H H' fp fp'):Fp H H' (fp++rest) (fp'++rest):=
 {size:=hf.size
  same:=λid h0 hn=>hf.same id h0 λi hi=>hn i (by simp[hi])
  now:=hf.rest h
  occ:=λi hi id ho=>by
   rcases List.mem_append.1 hi with hi|hi
   ·rcases hf.occ i hi id ho with⟨j,hj,h1⟩|h2
    ·exact .inl ⟨j,by simp[hj],h1⟩
    exact .inr h2
   exact .inl ⟨i,by simp[hi],ho⟩}
end
section
variable {P:Program} {n:Nat} {s:St}
def ZjE:∀{xs:List AV},ZaX xs=true->ZaX (weakL xs)=true
 |[],_=>rfl
 |x::xs,h=>by
  simp only[ZaX,Ze]at h;simp only[weakL,ZaX,Ze];refine⟨?_,ZjE h.2⟩;cases x<;>simp_all[weak1,ZdX]
def Rel.weakC {k:K0}{g:G}{a:Act}{w:World}(h:Rel k n g s a w){id:Nat}{cs:List AV}(hH:s.H[id]?=some (.cells cs)):Rel k n g ⟨s.fr,s.bx,s.H.set id (.cells (weakL cs))⟩ a w:=by
 have h0:=getElem?_set' (y:=HO.cells (weakL cs)) hH;have hl:ZbA (cx k g s.H w) (cx k g (s.H.set id (.cells (weakL cs))) w):=
  {stay:=λa x ho hc=>by
    refine⟨hc,ho.1,ho.2.1,λj hj=>?_⟩;obtain⟨sz,ver,rows,h1,h2⟩:=ho.2.2 j hj;refine⟨sz,ver,rows,?_,h2⟩;rw[h0,Zau (λe=>by subst e;rw[hH]at h1;cases h1)];exact h1
   arr:=λj sz ver frz rows e=>by
    have e':s.H[j]?=some (.arr sz ver frz rows):=e;refine⟨ver,frz,rows,?_,Nat.le_refl _,λ_=>⟨Nat.le_refl _,rfl,λb vs _ hb=>⟨vs,hb,rfl⟩⟩⟩;show(s.H.set id _)[j]?=_;rw[h0,Zau (λe1=>by subst e1;rw[hH]at e';cases e')];exact e'
   cells:=λj cs' e=>by
    have e':s.H[j]?=some (.cells cs'):=e;refine⟨?_,rfl⟩;by_cases hj:id=j
    ·exact⟨weakL cs,by show(s.H.set id _)[j]?=_;rw[h0,Zav hj]⟩
    exact⟨cs',by show(s.H.set id _)[j]?=_;rw[h0,Zau hj];exact e'⟩
   lp:=λj L fr st e=>by
    have e':s.H[j]?=some (.lp L fr st):=e;refine⟨⟨st,?_⟩,rfl⟩;show(s.H.set id _)[j]?=_;rw[h0,Zau (λe1=>by subst e1;rw[hH]at e';cases e')];exact e'}
 exact
  {h with
   slots:=λt=>ZbP hl (λ_ _ e=>e) (h.tops t) (h.slots t)
   boxes:=λt cs e=>let ⟨b,hb,hr⟩:=h.boxes t cs e;⟨b,hb,hr.later hl λ_ hb=>hb⟩
   heap:=λj o e=>by
    simp only[h0]at e;by_cases hj:id=j
    ·subst hj;simp only[Zaw,Zan]at e;subst e;obtain⟨b,hb,h1,vs,h2,h3⟩:=h.heap id _ hH;exact⟨b,hb,ZjE h1,vs,h2,VRL.later hl _ _ (ZaY (ZjE h1)) h3.weakL⟩
    simp only[hj,Zat]at e;obtain⟨b,hb,hr⟩:=h.heap j o e;exact⟨b,hb,hr.later hl λ_ hb=>hb⟩
   len:=by simp[h.len]
   hist:=h.hist.trans hl}
def Zua {f:Nat}{F:IFn}(hk:chkF P f F=true){args:List AV}{H:List HO}{r:AV}(K:List HO->Prop)(hl:args.length=F.nargs)(h0:noLocL args=true)(hr:Za7 r=true)
  (h:vc P F.nt F.body (endQ λs'=>∃xs,rawL s' F.res=some xs/\ZcZ xs=r/\K s'.H) ⟨ZhI args 0,[],H⟩):∃H',Zcg P f args H r H'/\K H':=by
 obtain⟨e,s',h1,h2⟩:=vcd _ h;have key:(∃xs,rawL s' F.res=some xs/\ZcZ xs=r/\K s'.H)->(e=.normal∨e=.ret)->∃H',Zcg P f args H r H'/\K H':=by
  rintro⟨xs,x1,x2,x3⟩ he;refine⟨s'.H,ZsG hk hl h0 hr (Zbp _ _ _ (ZcN _ (λe1 s1 q=>?_) h1)),x3⟩;obtain⟨q1,q2⟩:=q;subst q1 q2;rcases he with rfl|rfl
  ·exact⟨xs,x1,x2,rfl⟩
  exact⟨xs,x1,x2,rfl⟩
 cases e with
 |normal=>exact key h2 (.inl rfl)
 |ret=>exact key h2 (.inr rfl)
 |_=>exact h2.elim
def Zk8 {f:Nat}{F:IFn}(hk:chkF P f F=true){args:List AV}{H:List HO}(K:AV->List HO->Prop)(hK:∀r H,K r H->Za7 r=true)(hl:args.length=F.nargs)(h0:noLocL args=true)
  (h:vc P F.nt F.body (endQ λs'=>∃xs,rawL s' F.res=some xs/\K (ZcZ xs) s'.H) ⟨ZhI args 0,[],H⟩):∃r H',Zcg P f args H r H'/\K r H':=by
 obtain⟨e,s',h1,h2⟩:=vcd _ h;have key:(∃xs,rawL s' F.res=some xs/\K (ZcZ xs) s'.H)->(e=.normal∨e=.ret)->∃r H',Zcg P f args H r H'/\K r H':=by
  rintro⟨xs,x1,x3⟩ he;refine⟨ZcZ xs,s'.H,ZsG hk hl h0 (hK _ _ x3) (Zbp _ _ _ (ZcN _ (λe1 s1 q=>?_) h1)),x3⟩;obtain⟨q1,q2⟩:=q;subst q1 q2;rcases he with rfl|rfl
  ·exact⟨xs,x1,rfl,rfl⟩
  exact⟨xs,x1,rfl,rfl⟩
 cases e with
 |normal=>exact key h2 (.inl rfl)
 |ret=>exact key h2 (.inr rfl)
 |_=>exact h2.elim
def ZwD (H:List HO)(id:Nat):List HO:=match H[id]? with
 |some (.cells cs)=>H.set id (.cells (weakL cs))
 |_=>H
def weakH (ids:List Nat)(H:List HO):List HO:=ids.foldl ZwD H
def wS (ids:List Nat)(s:St):St:=⟨s.fr,s.bx,weakH ids s.H⟩
def Rel.weakH {k:K0}{g:G}{a:Act}{w:World}:∀(ids:List Nat) {s:St},Rel k n g s a w->Rel k n g (wS ids s) a w
 |[],s,h=>h
 |id::ids,s,h=>by
  have h1:Rel k n g ⟨s.fr,s.bx,ZwD s.H id⟩ a w:=by
   unfold ZwD;split
   ·rename_i cs hH;exact h.weakC hH
   exact h
  exact Rel.weakH ids h1
def EvI.weak {ic:IC}{Q:Exit->St->Prop}(ids:List Nat)(h:EvI P n ic s (λe s'=>Q e (wS ids s'))):EvI P n ic s Q:=λc hc k g a w hr=>
 wpIn_mono (h c hc k g a w hr) λe a' w' ⟨s',g',h1,h2⟩=>⟨wS ids s',g',h1.weakH ids,h2⟩
def ZzV {Q:Exit->St->Prop}{S:St}{st:LS}(h:outQ Q S st):∃e,outQ (isQ e S) S st/\Q e S:=by
 cases st with
 |ready=>exact⟨.normal,⟨rfl,rfl⟩,h⟩
 |busy=>exact h.elim
 |dead=>exact h.elim
 |mp=>exact h.elim
 |mps=>exact h.elim
 |it=>exact h.elim
 |itd=>exact h.elim
 |done c=>
  cases c with
  |ret=>exact⟨.ret,⟨rfl,rfl⟩,h⟩
  |exit id=>exact⟨.exit id,⟨rfl,rfl⟩,h⟩
  |_=>exact h.elim
def lcOf (P:Program)(n:Nat)(ps:List Nat)(ia ib:IC):LC:=⟨ps,n,λa b=>chkC P n a ia=true/\chkC P n b ib=true,false⟩
def ZwJ {x:IX}{ps:List Nat}{ia ib:IC}{Q:Exit->St->Prop}{gf:Nat}{cap:List AV}(fr0:List (Nat×AV))(h7:FrOK s.fr fr0)(hx:ev s.fr x=.fn gf [] cap)
  (h0:∃args H1 r H2 st,frzL (s.H++[.lp (lcOf P n ps ia ib) fr0 .ready]) (.yl s.H.length::cap)=some (args,H1)/\Zcg P gf args H1 r H2/\H2[s.H.length]?=some (.lp (lcOf P n ps ia ib) fr0 st)∧
    outQ Q ⟨s.fr,s.bx,H2.set s.H.length (.lp (lcOf P n ps ia ib) fr0 .dead)⟩ st):vc P n (.rangeF x ps ia ib) Q s:=by
 obtain⟨args,H1,r,H2,st,h1,h2,h3,h4⟩:=h0;obtain⟨e,h5,h6⟩:=ZzV h4;exact⟨e,_,EvI.rangeF fr0 h7 hx (L:=lcOf P n ps ia ib) rfl (λ_=>⟨args,H1,r,H2,st,h1,h2,h3,h5⟩),h6⟩
def ZwA {id:Nat}{args:List AV}{H:List HO}{ps:List Nat}{fr0:List (Nat×AV)}{ia ib:IC}(b:Bool)(K:List HO->Prop)(hH:H[id]?=some (.lp (lcOf P n ps ia ib) fr0 .ready))(h0:args.length=ps.length)(h7:∀t∈ps,t<n)
  (h6:noLocL args=true)
  (h:vc P n ia (ZpO λs1=>s1.H[id]?=some (.lp (lcOf P n ps ia ib) fr0 .ready)/\vc P n ib (λe s2=>∃H',Ztb id (lcOf P n ps ia ib) fr0 b H' e s2/\K H') ⟨s1.fr,s1.bx,s1.H.set id (.lp (lcOf P n ps ia ib) fr0 .busy)⟩) ⟨Zmq fr0 ps args,[],H⟩):
  ∃H',Zlc P id args H b H'/\K H':=by
 obtain⟨e1,s1,h1,rfl,h8,h2⟩:=vcd _ h;obtain⟨e2,s2,h3,H',h4,h5⟩:=vcd _ h2;refine⟨H',ZxX (L:=lcOf P n ps ia ib) hH h0 h7 h6 (λa b h=>h) (ia:=ia) (ib:=ib) ?_,h5⟩;refine(Zbp _ _ _ h1).mono λe s ⟨x,y⟩=>?_
 subst x y;refine⟨h8,(Zbp _ _ _ h3).mono λe s ⟨x,y⟩=>?_⟩;subst x y;exact h4
def ZoB {d:Option Nat}{fx:IX}{xs:List IX}{id:Nat}{ys args:List AV}{b:Bool}{H H1 H':List HO}(hs:s.H=H)(hf:ev s.fr fx=.yl id)(hy:xs.map (ev s.fr)=ys)(hz:frzL H ys=some (args,H1))(hc:Zlc P id args H1 b H'):
  ZaS P (.callY d fx xs) s ⟨putO s.fr d (.p (.bool b)),s.bx,H'⟩:=by
 subst hs hy;exact⟨id,args,H1,b,H',hf,hz,hc,rfl⟩
end
end Go.Eng

namespace Go.Eng
open Go
section
variable {H0 H H':List HO} {f0 items:List Za0}
def Fp.step {k:Nat}{i i':Za0}(h:Fp H0 H f0 items)(hk:items[k]?=some i)(hl:Lies H' i')(ho:∀id,Occ i' id->Occ i id∨H.length<=id)
  (hs:∀id,id<H.length->¬Occ i id->H'[id]?=H[id]?) (hn:H.length<=H'.length):Fp H0 H' f0 (items.set k i'):=
 h.trans
  {size:=hn
   same:=λid h3 h2=>hs id h3 (h2 i (List.mem_of_getElem? hk))
   now:=h.now.replace hk hl ho hs
   occ:=λx hx id h0=>by
    rcases List.mem_or_eq_of_mem_set hx with hx|rfl
    ·exact .inl ⟨x,hx,h0⟩
    rcases ho id h0 with h1|h1
    ·exact .inl ⟨i,List.mem_of_getElem? hk,h1⟩
    exact .inr h1}
def Fp.new {i:Za0}{o:HO}(h:Fp H0 H f0 items)(hl:Lies (H++[o]) i)(ho:∀id,Occ i id->id=H.length):Fp H0 (H++[o]) f0 (i::items):=
 h.trans
  {size:=by simp
   same:=λid h1 _=>ZG h1
   now:=(h.now.push o).cons hl (λid hi j hj h2=>by
    have:=(h.now.lies j hj).lt id h2;have:=ho id hi;omega)
   occ:=λx hx id h0=>by
    rcases List.mem_cons.1 hx with rfl|hx
    ·exact .inr (by rw[ho id h0];exact Nat.le_refl _)
    exact .inl ⟨x,hx,h0⟩}
def Fp.nilArr (h:Fp H0 H f0 items)(sz:Nat)(frz:Bool):Fp H0 H f0 (.arr (.p (.sl sz true [])) sz frz []::items):=
 h.trans
  {size:=Nat.le_refl _
   same:=λ_ _ _=>rfl
   now:=h.now.nilArr sz frz
   occ:=λx hx id h0=>by
    rcases List.mem_cons.1 hx with rfl|hx
    ·obtain⟨_,_,_,_,e⟩:=h0;cases e
    exact .inl ⟨x,hx,h0⟩}
def Fp.pick (h:Fp H0 H f0 items)(ks:List Nat)(hn:ZtC ks=true):Fp H0 H f0 (ks.filterMap λk=>items[k]?):=
 h.trans
  {size:=Nat.le_refl _
   same:=λ_ _ _=>rfl
   now:=h.now.pick ks hn
   occ:=λx hx id h0=>by
    obtain⟨m,_,hm⟩:=List.mem_filterMap.1 hx;exact .inl ⟨x,List.mem_of_getElem? hm,h0⟩}
theorem Fp.get (h:Fp H0 H f0 items)(k:Nat){i:Za0}(hk:items[k]?=some i):Lies H i:=h.now.get k hk
def Fp.app {α:Type}{k:Nat}{a:AV}{sz bytes:Nat}{frz:Bool}{l m r:List α}(enc:α->List PC)(hF:Fp H0 H f0 items)(hk:items[k]?=some (.arr a sz frz (l.map enc)))(h:appI bytes l m=some r):
  ∃a' H',appV H sz bytes a (m.map enc)=some (a',H')/\Fp H0 H' f0 (items.set k (.arr a' sz frz (r.map enc))):=by
 unfold appI at h;split at h
 ·rename_i hb;cases h;rcases hF.get k hk with⟨rfl,hl⟩|⟨id,ver,rfl,f,hf,hid⟩
  ·have h1:l=[]:=by cases l with
    |nil=>rfl
    |cons x xs=>simp at hl
   subst h1;by_cases hm:m=[]
   ·subst hm;refine⟨.p (.sl sz true []),H,by simp[appV,ZqV],?_⟩;exact hF.step hk (.inl ⟨rfl,rfl⟩) (λid ⟨_,_,_,_,e⟩=>by cases e) (λ_ _ _=>rfl) (Nat.le_refl _)
   refine⟨.osl sz H.length 0 0 (0+m.length),H++[.arr sz 0 false ([]++m.map enc)],?_,?_⟩
   ·simp only[ZY,Zaj]at hb;simp[appV,hb,hm,ZqV]
   exact hF.step hk (.inr ⟨H.length,0,by simp,false,λ_=>rfl,by simp⟩) (λid ⟨_,_,_,_,e⟩=>by cases e;exact .inr (Nat.le_refl _)) (λid h0 _=>ZG h0) (by simp)
  have h0:=(List.getElem?_eq_some_iff.1 hid).1;refine⟨.osl sz id (ver+1) 0 (l.length+m.length),H.set id (.arr sz (ver+1) f (l.map enc++m.map enc)),?_,?_⟩
  ·simp only[appV,hid,ZX];rw[Zav ⟨trivial,trivial,trivial,trivial,hb.1,hb.2,trivial⟩]
  refine hF.step hk (.inr ⟨id,ver+1,by simp,f,hf,by simp[h0]⟩) (λid' ⟨_,_,_,_,e⟩=>by cases e;exact .inl ⟨sz,ver,0,_,rfl⟩) (λid' h2 ho=>?_) (by simp);rw[ZQ];intro e;subst e;exact ho ⟨sz,ver,0,_,rfl⟩
 cases h
def Fp.make {α:Type}{bytes:Nat}{n c:Int}{z:α}{r:List α}(enc:α->List PC)(hF:Fp H0 H f0 items)(h:Zgs bytes n c z=some r):
  ∃a H',a=.osl (enc z).length H.length 0 0 n.toNat/\H'=H++[.arr (enc z).length 0 false (List.replicate n.toNat (enc z))]/\(0<=n/\n<=c/\c*bytes<=140737488355328/\c<=140737488355328)/\Fp H0 H' f0 (.arr a (enc z).length false (r.map enc)::items):=by
 unfold Zgs at h;split at h
 ·rename_i hb;cases h;exact⟨_,_,rfl,rfl,hb,hF.new (.inr ⟨H.length,0,by simp,false,λ_=>rfl,by simp⟩) (λid ⟨_,_,_,_,e⟩=>by cases e;rfl)⟩
 cases h
def Fp.setRow {α:Type}{k:Nat}{sz id ver:Nat}{l:List α}{i:Int}{e e':α}{off:Nat}{ps:List PC}{cs:List AV}{f:Bool}{a:AV}(enc:α->List PC)(hF:Fp H0 H f0 items)(hk:items[k]?=some (.arr a sz false (l.map enc)))
  (ha:a=.osl sz id ver 0 l.length) (hid:H[id]?=some (.arr sz ver f (l.map enc))) (h1:f=false) (h:idx l i=some e) (hu:unP cs=some ps) (hs:Zb3 off ps (enc e)=some (enc e')):
  ∃H',(∀bx,wrt bx H cs (.optr sz id ver (0+i.toNat) off)=some ⟨bx,H'⟩)/\Fp H0 H' f0 (items.set k (.arr a sz false ((l.set i.toNat e').map enc))):=by
 subst ha h1;have h2:=(Zl1 enc h).2;have h0:=(List.getElem?_eq_some_iff.1 hid).1;refine⟨H.set id (.arr sz ver false ((l.map enc).set i.toNat (enc e'))),λbx=>?_,?_⟩
 ·simp only[wrt,hid,Zaj,and_self,Zaw,h2,Zak,hu,hs,Zam]
 refine hF.step hk (.inr ⟨id,ver,by simp,false,λ_=>rfl,by simp[h0,List.map_set]⟩) (λid' ⟨_,_,_,_,e⟩=>by cases e;exact .inl ⟨sz,ver,0,_,rfl⟩) (λid' h3 ho=>?_) (by simp);rw[ZQ];intro e;subst e;exact ho ⟨sz,ver,0,_,rfl⟩
def Fp.frz {α:Type}{k:Nat}{a:AV}{sz:Nat}{frz:Bool}{l:List α}(enc:α->List PC)(hF:Fp H0 H f0 items)(hk:items[k]?=some (.arr a sz frz (l.map enc))):
  ∃H',frz1 H a=some (.p (.sl sz false (l.map enc)),H')/\frzV H a=some (.p (.sl sz false (l.map enc)),H')/\Fp H0 H' f0 (items.set k (.arr a sz true (l.map enc))):=by
 rcases hF.get k hk with⟨rfl,hl⟩|⟨id,ver,rfl,f,hf,hid⟩
 ·refine⟨H,by rw[hl];rfl,by rw[hl];rfl,?_⟩;exact hF.step hk (.inl ⟨rfl,hl⟩) (λid ⟨_,_,_,_,e⟩=>by cases e) (λ_ _ _=>rfl) (Nat.le_refl _)
 have h0:=(List.getElem?_eq_some_iff.1 hid).1;have e1:frz1 H (.osl sz id ver 0 (l.map enc).length)=some (.p (.sl sz false (l.map enc)),H.set id (.arr sz ver true (l.map enc))):=by
  simp only[frz1,hid,and_self,Zaw,sub,Zaj,Nat.le_refl,ZB,Zad,Zam]
 refine⟨H.set id (.arr sz ver true (l.map enc)),e1,e1,?_⟩;refine hF.step hk (.inr ⟨id,ver,by simp,true,by simp,by simp[h0]⟩) (λid' ⟨_,_,_,_,e⟩=>by cases e;exact .inl ⟨sz,ver,0,_,rfl⟩) (λid' h1 ho=>?_) (by simp);rw[ZQ];intro e;subst e;exact ho ⟨sz,ver,0,_,rfl⟩
def Fp.newCell (hF:Fp H0 H f0 items)(cs:List AV):∃id H',id=H.length/\H'=H++[.cells cs]/\Fp H0 H' f0 (.cel id cs::items):=
 ⟨_,_,rfl,rfl,hF.new (by simp[Lies]) (λid e=>by cases e;rfl)⟩
def Fp.setCell {k id off:Nat}{cs vs cs':List AV}(hF:Fp H0 H f0 items)(hk:items[k]?=some (.cel id cs))(hs:Zb3 off vs cs=some cs'):
  ∃H',(∀bx,wrt bx H vs (.ptr id off)=some ⟨bx,H'⟩)/\Fp H0 H' f0 (items.set k (.cel id cs')):=by
 have hid:H[id]?=some (.cells cs):=hF.get k hk;have h0:=(List.getElem?_eq_some_iff.1 hid).1;refine⟨H.set id (.cells cs'),λbx=>by simp[wrt,hid,hs],hF.step hk (by simp[Lies,h0]) (λid' e=>.inl e) (λid' hl ho=>?_) (by simp)⟩;rw[ZQ];intro e;subst e;exact ho rfl
def Fp.frzUp (h:Fp H0 H f0 items){k:Nat}{a:AV}{sz:Nat}{frz:Bool}{rows:List (List PC)}(hk:items[k]?=some (.arr a sz frz rows)):Fp H0 H f0 (items.set k (.arr a sz true rows)):=by
 refine h.step hk ?_ (λid ho=>.inl ho) (λ_ _ _=>rfl) (Nat.le_refl _);rcases h.get k hk with h1|⟨id,ver,e,f,hf,h1⟩
 ·exact .inl h1
 exact .inr ⟨id,ver,e,f,by simp,h1⟩
def Zy4 {α:Type}{sz bytes:Nat}{m r:List α}(enc:α->List PC)(hF:Fp H0 H f0 items)(h:appI bytes ([]:List α) m=some r):
  ∃a' H',appV H sz bytes (.p (.sl sz true [])) (m.map enc)=some (a',H')/\Fp H0 H' f0 (.arr a' sz false (r.map enc)::items):=
 Fp.app (k:=0) (items:=.arr (.p (.sl sz true [])) sz false []::items) (l:=[]) enc (hF.nilArr sz false) rfl h
def Fp.elem {α:Type}{k:Nat}{a:AV}{sz:Nat}{frz:Bool}{l:List α}{i:Int}{e:α}(enc:α->List PC)(hF:Fp H0 H f0 items)(hk:items[k]?=some (.arr a sz frz (l.map enc)))(h:idx l i=some e):
  ∃id ver f,(frz=false->f=false)/\H[id]?=some (.arr sz ver f (l.map enc))/\a=.osl sz id ver 0 l.length/\∀kk:IntKind,Zbc (.iaddrS sz) [a,.p (.int kk i)]=some (.optr sz id ver (0+i.toNat) 0):=hF.now.elem enc hk h
def Fp.len {α:Type}{k:Nat}{a:AV}{sz:Nat}{frz:Bool}{l:List α}(enc:α->List PC)(hF:Fp H0 H f0 items)(hk:items[k]?=some (.arr a sz frz (l.map enc))):Zbc .len [a]=some (.p (.int .i64 l.length)):=hF.now.len enc hk
def Fp.pure {α:Type}{k:Nat}{a:AV}{sz:Nat}{frz:Bool}{l:List α}(enc:α->List PC)(hF:Fp H0 H f0 items)(hk:items[k]?=some (.arr a sz frz (l.map enc))):Zsb H a=some (.p (.sl sz false (l.map enc)))/\Zmr H a=some (.p (.sl sz false (l.map enc))):=hF.now.pure enc hk
def Fp.callee {fp fp' rest:List Za0}(h:Fp H0 H f0 (fp++rest))(hf:Fp H H' fp fp'):Fp H0 H' f0 (fp'++rest):=h.trans (hf.more h.now)
end
end Go.Eng

namespace Go.Eng
open Go
def stAt (l:List LS)(e:Nat):LS:=l.getD e .dead
def ZfJ {V:Type}(body:V->Option (V×Nat))(s:V×Nat):Option ((V×Nat)×Bool):=
 if s.2=0 then(body s.1).map (λr=>(r,r.2==0))else none
def Zea {V:Type}(body:V->Option V)(s:V):Option (V×Bool):=(body s).map (λr=>(r,true))
def ZlK {V:Type}{body:V->Option (V×Nat)}{s:V×Nat}{r:(V×Nat)×Bool}(h:ZfJ body s=some r):s.2=0/\∃q,body s.1=some q/\r=(q,q.2==0):=by
 unfold ZfJ at h;split at h
 ·rename_i h0;refine⟨h0,?_⟩;cases hb:body s.1 with
  |none=>rw[hb]at h;cases h
  |some q=>rw[hb]at h;exact⟨q,rfl,by simpa using h.symm⟩
 cases h
def ZiW {V:Type}{body:V->Option V}{s:V}{r:V×Bool}(h:Zea body s=some r):∃q,body s=some q/\r=(q,true):=by
 unfold Zea at h;cases hb:body s with
 |none=>rw[hb]at h;cases h
 |some q=>rw[hb]at h;exact⟨q,rfl,by simpa using h.symm⟩
section
variable {H0 H H':List HO} {f0 items own its its':List Za0}
def Fp.tail (h:Fp H0 H f0 (own++its)):HP H its:=(HP.append.1 h.now).2.1
def Fp.callT (h:Fp H0 H f0 (own++its))(hf:Fp H H' its its'):Fp H0 H' f0 (own++its'):=by
 refine h.trans ?_;exact
  {size:=hf.size
   same:=λid h0 hn=>hf.same id h0 λi hi=>hn i (by simp[hi])
   now:=hf.beside h.now
   occ:=λi hi id ho=>by
    rcases List.mem_append.1 hi with hi|hi
    ·exact .inl ⟨i,by simp[hi],ho⟩
    rcases hf.occ i hi id ho with⟨j,hj,h1⟩|h2
    ·exact .inl ⟨j,by simp[hj],h1⟩
    exact .inr h2}
def Fp.after {a b:List Za0}(h:Fp H0 H f0 a)(hf:Fp H H' a b):Fp H0 H' f0 b:=h.trans hf
def Fp.setLp {k id:Nat}{L:LC}{fr:List (Nat×AV)}{st:LS}(hF:Fp H0 H f0 items)(hk:items[k]?=some (.lp id L fr st))(st':LS):Fp H0 (H.set id (.lp L fr st')) f0 (items.set k (.lp id L fr st')):=by
 have hid:H[id]?=some (.lp L fr st):=hF.get k hk;have h0:=(List.getElem?_eq_some_iff.1 hid).1;refine hF.step hk (by simp[Lies,h0]) (λid' e=>.inl e) (λid' hl ho=>?_) (by simp);rw[ZQ];intro e;subst e;exact ho rfl
end
section
variable {P:Program} {n:Nat} {s:St} {H0:List HO} {f0 items:List Za0}
def ZAF {ib:IC}{Q:Exit->St->Prop}{k id:Nat}{L:LC}{fr0:List (Nat×AV)}(hF:Fp H0 s.H f0 items)(hk:items[k]?=some (.lp id L fr0 .ready))
  (h:∀H6,Fp H0 H6 f0 (items.set k (.lp id L fr0 .busy))->vc P n ib Q ⟨s.fr,s.bx,H6⟩):
  Exit.normal=.normal/\s.H[id]?=some (.lp L fr0 .ready)/\vc P n ib Q ⟨s.fr,s.bx,s.H.set id (.lp L fr0 .busy)⟩:=
 ⟨rfl,hF.get k hk,h _ (hF.setLp hk .busy)⟩
def Zsy:Exit->Option (Bool×LS)
 |.normal=>some (true,.ready)
 |.ret=>some (false,.done .ret)
 |.exit j=>some (false,.done (.exit j))
 |_=>none
def ZzS {K:List HO->Prop}{k id:Nat}{L:LC}{fr0:List (Nat×AV)}{e:Exit}{b:Bool}(st:LS)(hF:Fp H0 s.H f0 items)(hk:items[k]?=some (.lp id L fr0 .busy))(he:Zsy e=some (b,st))
  (h:∀H6,Fp H0 H6 f0 (items.set k (.lp id L fr0 st))->K H6):∃H',Ztb id L fr0 b H' e s/\K H':=by
 refine⟨_,?_,h _ (hF.setLp hk st)⟩;have hg:s.H[id]?=some (.lp L fr0 .busy):=hF.get k hk;cases e with
 |normal=>simp only[Zsy,Zan,Zao]at he;obtain⟨rfl,rfl⟩:=he;exact⟨rfl,hg,rfl⟩
 |ret=>simp only[Zsy,Zan,Zao]at he;obtain⟨rfl,rfl⟩:=he;exact⟨rfl,hg,rfl⟩
 |exit j=>simp only[Zsy,Zan,Zao]at he;obtain⟨rfl,rfl⟩:=he;exact⟨rfl,hg,rfl⟩
 |_=>cases he
def Znj {Q:Exit->St->Prop}{S:St}{sts:List LS}{x k:Nat}{e:Exit}(hx:(x==k)=true)(he:(Zsy e).map (·.2)=some (stAt sts k))(h:Q e S):outQ Q S (stAt sts x):=by
 obtain rfl:=eq_of_beq hx;cases e with
 |normal=>simp only[Zsy,Zam,Zan]at he;rw[←he];exact h
 |ret=>simp only[Zsy,Zam,Zan]at he;rw[←he];exact h
 |exit j=>simp only[Zsy,Zam,Zan]at he;rw[←he];exact h
 |_=>cases he
def ZiY {x:IX}{ps:List Nat}{ia ib:IC}{Q:Exit->St->Prop}{gf:Nat}{cap:List AV}(fr0:List (Nat×AV))(g7:FrOK s.fr fr0)(hx:ev s.fr x=.fn gf [] cap)
  (g6:∀H,frzL H (.yl s.H.length::cap)=some (.yl s.H.length::cap,H)) {capT cells0 rest:List Za0} (hp:HP s.H (capT++(cells0++rest)))
  {σ:Type} (T:σ->List Za0->Prop) (s0 s1:σ) (g9:T s0 (cells0++[.lp s.H.length (lcOf P n ps ia ib) fr0 .ready]))
  (hit:∀H its,T s0 its->HP H (capT++its)->∃H' its',Zcg P gf (.yl s.H.length::cap) H (.tup []) H'/\T s1 its'/\Fp H H' (capT++its) (capT++its'))
  (hk:∀its',T s1 its'->∃cells' st,its'=cells'++[.lp s.H.length (lcOf P n ps ia ib) fr0 st]/\∀H2,Fp s.H H2 (capT++(cells0++rest)) (capT++(cells'++rest))->outQ Q ⟨s.fr,s.bx,H2⟩ st):
  vc P n (.rangeF x ps ia ib) Q s:=by
 have h1:Fp s.H (s.H++[.lp (lcOf P n ps ia ib) fr0 .ready]) (capT++(cells0++rest)) (.lp s.H.length (lcOf P n ps ia ib) fr0 .ready::(capT++(cells0++rest))):=
  (Fp.refl hp).new (by simp[Lies]) (λid e=>by cases e;rfl)
 have h8:∀{H:List HO} {a:Za0} {u v w:List Za0},HP H (a::(u++(v++w)))->HP H ((u++(v++[a]))++w):=by
  intro H a u v w h;have h':HP H ([a]++(u++(v++w))):=h;obtain⟨ha,he,hm⟩:=HP.append.1 h';obtain⟨hu,g3,h7⟩:=HP.append.1 he;obtain⟨hv,hw,h9⟩:=HP.append.1 g3;refine HP.append.2 ⟨HP.append.2 ⟨hu,HP.append.2 ⟨hv,ha,λi hi j hj id ho h0=>?_⟩,λi hi j hj id ho h0=>?_⟩,hw,λi hi j hj id ho h0=>?_⟩
  ·exact hm j hj i (by simp[hi]) id h0 ho
  ·rcases List.mem_append.1 hj with hj|hj
   ·exact h7 i hi j (by simp[hj]) id ho h0
   exact hm j hj i (by simp[hi]) id h0 ho
  rcases List.mem_append.1 hi with hi|hi
  ·exact h7 i hi j (by simp[hj]) id ho h0
  rcases List.mem_append.1 hi with hi|hi
  ·exact h9 i hi j hj id ho h0
  exact hm i hi j (by simp[hj]) id ho h0
 have h2:=h8 h1.now;obtain⟨H',its',hc,ga,hf⟩:=hit _ _ g9 (HP.append.1 h2).1;obtain⟨cells',st,rfl,hq⟩:=hk its' ga;have h3:=hf.more h2;have h4:HP H' ((capT++(cells'++[.lp s.H.length (lcOf P n ps ia ib) fr0 st]))++rest):=h3.now;have hl:H'[s.H.length]?=some (.lp (lcOf P n ps ia ib) fr0 st):=h4.lies (.lp s.H.length (lcOf P n ps ia ib) fr0 st) (by simp);have g4:=(List.getElem?_eq_some_iff.1 hl).1;refine ZwJ fr0 g7 hx ⟨_,_,_,H',st,g6 _,hc,hl,hq _ ?_⟩;have h6:∀i,i∈capT++(cells'++rest)->∀id,Occ i id->id≠s.H.length:=by
  intro i hi id ho e;subst e;obtain⟨ha,hb,hd⟩:=HP.append.1 h4;obtain⟨g0,ht,h7⟩:=HP.append.1 ha;obtain⟨hz,g8,h9⟩:=HP.append.1 ht;have hh:Occ (.lp s.H.length (lcOf P n ps ia ib) fr0 st) s.H.length:=rfl;rcases List.mem_append.1 hi with hi|hi
  ·exact h7 i hi (.lp s.H.length (lcOf P n ps ia ib) fr0 st) (by simp) _ ho hh
  rcases List.mem_append.1 hi with hi|hi
  ·exact h9 i hi (.lp s.H.length (lcOf P n ps ia ib) fr0 st) (by simp) _ ho hh
  exact hd (.lp s.H.length (lcOf P n ps ia ib) fr0 st) (by simp) i hi _ hh ho
 have hy:HP H' (capT++(cells'++rest)):=by
  obtain⟨ha,hb,hd⟩:=HP.append.1 h4;obtain⟨g0,ht,h7⟩:=HP.append.1 ha;obtain⟨hz,g8,h9⟩:=HP.append.1 ht;refine HP.append.2 ⟨g0,HP.append.2 ⟨hz,hb,λi hi j hj=>hd i (by simp[hi]) j hj⟩,λi hi j hj=>?_⟩;rcases List.mem_append.1 hj with hj|hj
  ·exact h7 i hi j (by simp[hj])
  exact hd i (by simp[hi]) j hj
 have gb:s.H.length<H'.length:=g4;exact
  {size:=by simp;omega
   same:=λid hid hn=>by
    rw[ZQ (by omega),h3.same id (by simp;omega) (λi hi ho=>?_),ZG hid];rcases List.mem_append.1 hi with hi|hi
    ·rcases List.mem_append.1 hi with hi|hi
     ·exact hn i (by simp[hi]) ho
     rcases List.mem_append.1 hi with hi|hi
     ·exact hn i (by simp[hi]) ho
     simp only[Z6]at hi;subst hi;have:s.H.length=id:=ho;omega
    exact hn i (by simp[hi]) ho
   now:=hy.same λi hi id ho=>ZQ (λe=>h6 i hi id ho e.symm)
   occ:=λi hi id ho=>by
    by_cases g5:s.H.length<=id
    ·exact .inr g5
    have hg:i∈(capT++(cells'++[.lp s.H.length (lcOf P n ps ia ib) fr0 st]))++rest:=by
     rcases List.mem_append.1 hi with hi|hi
     ·simp[hi]
     rcases List.mem_append.1 hi with hi|hi<;>simp[hi]
    rcases h3.occ i hg id ho with⟨j,hj,h0⟩|h5
    ·refine .inl ⟨j,?_,h0⟩;rcases List.mem_append.1 hj with hj|hj
     ·rcases List.mem_append.1 hj with hj|hj
      ·simp[hj]
      rcases List.mem_append.1 hj with hj|hj
      ·simp[hj]
      simp only[Z6]at hj;subst hj;have:s.H.length=id:=h0;omega
     simp[hj]
    simp at h5;omega}
def ZkV {Q:Exit->St->Prop}{S:St}(h:Q .normal S):outQ Q S .ready:=h
def FrOK.nil {fr:List (Nat×AV)}:FrOK fr []:=trivial
def FrOK.cons {fr r:List (Nat×AV)}{t:Nat}{v:AV}(h1:Eng.get fr t=v)(h2:Za7 v=true)(h3:FrOK fr r):FrOK fr ((t,v)::r):=⟨h1,h2,h3⟩
def Zgg:rawL s []=some []:=rfl
def Zc6 {r:RV}{rs:List RV}{v:AV}{ys:List AV}(h:rawV s r=some v)(h2:rawL s rs=some ys):rawL s (r::rs)=some (v::ys):=by simp[rawL,h,h2]
def Zyo {t m id off:Nat}{isA:Bool}{cs c:List AV}{v:AV}(hp:get s.fr t=.ptr id off)(hl:Lies s.H (.cel id cs))(hs:sub off m cs=some c)(hm:mk isA c=some v):rawV s (.cell t m isA)=some v:=by
 have h0:s.H[id]?=some (.cells cs):=hl;simp[rawV,hp,rd,h0,hs,hm]
def Zo5 {x y:IX}{m:Nat}{v p:AV}{cs:List AV}{H H':List HO}(h1:cellsOf v=cs)(hH:s.H=H)(hx:ev s.fr x=p)(hy:ev s.fr y=v)(h0:decide (cs.length=m)&&ZaX cs=true)(hw:∀bx,wrt bx H cs p=some ⟨bx,H'⟩):
  ZaS P (.store x y m) s ⟨s.fr,s.bx,H'⟩:=by
 subst h1;exact Zkc hH hx hy h0 hw
end
end Go.Eng

