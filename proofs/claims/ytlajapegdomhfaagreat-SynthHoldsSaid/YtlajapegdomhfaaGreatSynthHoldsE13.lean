/-Part of the proof. -/
import Derived.Test.YtlajapegdomhfaaGreatSynthHoldsE10
import Derived.ScopeJumps
import Derived.RangeFuncLeaves
import Derived.Below
import Derived.Carry
import Derived.ChangeSame
set_option linter.all false
namespace Go.Eng
open Go
structure Eqv (s t:St):Prop where
 fr:∀x,get s.fr x=get t.fr x
 bx:∀x,bget s.bx x=bget t.bx x
 H:s.H=t.H
theorem Eqv.refl (s:St):Eqv s s:=⟨λ_=>rfl,λ_=>rfl,rfl⟩
theorem Eqv.symm {s t:St}(h:Eqv s t):Eqv t s:=⟨λx=>(h.fr x).symm,λx=>(h.bx x).symm,h.H.symm⟩
theorem Eqv.trans {s t u:St}(h:Eqv s t)(h':Eqv t u):Eqv s u:=⟨λx=>(h.fr x).trans (h'.fr x),λx=>(h.bx x).trans (h'.bx x),h.H.trans h'.H⟩
theorem Rel.eqv {k:K0}{n:Nat}{g:G}{s t:St}{a:Act}{w:World}(h:Rel k n g s a w)(e:Eqv s t):Rel k n g t a w:=by
 obtain⟨fr,bx,H⟩:=s;obtain⟨fr',bx',H'⟩:=t;obtain⟨e1,e2,e3⟩:=e;simp only at e1 e2 e3;subst e3;exact {h with
  slots:=λx=>by rw[←e1];exact h.slots x
  tops:=λx=>by rw[←e1];exact h.tops x
  boxes:=λt cs e=>h.boxes t cs (by rw[e2];exact e)
  boxed:=λt b e=>let ⟨⟨cs,hc⟩,hb⟩:=h.boxed t b e;⟨⟨cs,by rw[←e2];exact hc⟩,hb⟩}
def ixT:IX->List Nat
 |.t n=>[n]
 |.k _=>[]
def ixK:IX->Bool
 |.t _=>true
 |.k v=>ZaV v
def ZcT:Ins->List IX
 |.val _ _ xs=>xs
 |.load _ x _ _=>[x]
 |.loadL _ x _ _=>[x]
 |.loadH _ x _ _=>[x]
 |.loadI _ x _ _=>[x]
 |.loadN _ x _ _ zs=>x::zs
 |.appN _ x y _ _=>[x,y]
 |.store x y _=>[x,y]
 |.storeH x y _=>[x,y]
 |.newL .. =>[]
 |.boxL _ x=>[x]
 |.newH .. =>[]
 |.boxH _ x=>[x]
 |.mkSl _ x y _ _=>[x,y]
 |.app _ x y _ _=>[x,y]
 |.litSl _ _ xs=>xs
 |.litP _ _ xs=>xs
 |.mkC .. =>[]
 |.call _ _ xs=>xs
 |.callP _ _ xs=>xs
 |.callQ _ _ xs=>xs
 |.callV _ x xs=>x::xs
 |.callY _ x xs=>x::xs
 |.sp _ _ xs=>xs
def Zbg (i:Ins):List Nat:=(ZcT i).flatMap ixT
def Zb4 (o:IOp):List Nat:=(match o.g with
 |some (t,_)=>[t]
 |none=>[])++Zbg o.i
def ZaY:Ins->Nat
 |.val .. |.callP .. |.litP .. |.mkC .. |.loadI .. =>0
 |.load .. |.callQ .. =>1
 |.loadL .. =>4
 |.newL .. |.boxL .. =>3
 |.store .. =>2
 |.newH .. |.boxH .. |.litSl .. |.mkSl .. |.appN .. =>6
 |.loadH .. |.loadN .. =>7
 |_=>5
def ZwW (a b:Nat):Bool:=match a,b with
 |0,0|0,1|1,0|1,1|0,2|2,0=>true
 |3,0|3,1|3,2|0,3|1,3|2,3|3,3=>true
 |4,0|0,4|4,1|1,4|4,4|4,5|5,4|0,5|5,0|3,4|4,3|3,5|5,3=>true
 |6,0|0,6|1,6|6,4|4,6|6,3|3,6=>true
 |7,0|0,7|7,1|1,7|7,7|3,7|7,3|7,4|4,7|7,6=>true
 |_,_=>false
def Zus (x y:IOp):Bool:=((ZaY x.i==2&&ZaY y.i==4)||(ZaY x.i==4&&ZaY y.i==2))&&(match x.bn,y.bn with
 |some a,some b=>decide (a≠b)
 |_,_=>false)
def Zw1 (x y:IOp):Bool:=(ZaY x.i==2&&x.bn.isSome&&ZaY y.i==7)||(ZaY x.i==7&&ZaY y.i==2&&y.bn.isSome)
def ZiW (k:Nat):Prop:=k=0∨k=1∨k=4∨k=7
def ZlK (d:Option Nat)(l:List Nat):Bool:=match d with
 |some d=>!l.elem d
 |none=>true
def memT (z:IX)(zs:List IX):Bool:=match z with
 |.t u=>zs.any λq=>match q with
  |.t u'=>decide (u'=u)
  |_=>false
 |_=>false
def Zu6 (x y:IOp):Bool:=x.g.isNone&&y.g.isNone&&(match x.i,y.i with
 |.loadN _ _ _ _ _,.app .. |.app ..,.loadN _ _ _ _ _=>true
 |.loadN _ _ _ _ zs,.storeH z _ _|.storeH z _ _,.loadN _ _ _ _ zs=>memT z zs
 |_,_=>false)
def ZvX (x y:IOp):Bool:=
 (ZwW (ZaY x.i) (ZaY y.i)||Zus x y||Zw1 x y||Zu6 x y)&&ZlK (dstI x.i) (Zb4 y)&&ZlK (dstI y.i) (Zb4 x)&&(match dstI x.i,dstI y.i with
  |some d,some e=>decide (d≠e)
  |_,_=>true)
def ZnI (d:Nat)(fr:List (Nat×AV)):Prop:=∀u o,u≠d->get fr u≠.loc d o
def Zj1 (fr:List (Nat×AV))(l:List Nat)(q:Nat):Prop:=∃x∈l,∃o,get fr x=.loc q o
def Zge (bx:List (Nat×List AV)):Option (Nat×List AV)->List (Nat×List AV)
 |none=>bx
 |some (q,b)=>bput bx q b
structure ZZq (P:Program) (o:IOp) (s s':St) (v:AV) (bw:Option (Nat×List AV)) (H':List HO):Prop where
 out:s'=⟨putO s.fr (dstI o.i) v,Zge s.bx bw,H'⟩
 again:∀t:St,(∀x∈Zb4 o,get t.fr x=get s.fr x)->(∀q,Zj1 s.fr (Zb4 o) q->bget t.bx q=bget s.bx q)->t.H=s.H->AOp P o t ⟨putO t.fr (dstI o.i) v,Zge t.bx bw,H'⟩
 quiet:ZiW (ZaY o.i)->bw=none/\H'=s.H
 boxed:ZaY o.i=5∨ZaY o.i=6->bw=none
 more6:ZaY o.i=6->∃e,H'=s.H++e
 heap7:ZaY o.i=7->∀t:St,(∀x∈Zb4 o,get t.fr x=get s.fr x)->t.H=s.H->AOp P o t ⟨putO t.fr (dstI o.i) v,t.bx,t.H⟩
 grow1:ZaY o.i=1∨ZaY o.i=7->∀(t:St) (e:List HO),(∀x∈Zb4 o,get t.fr x=get s.fr x)->(∀q,Zj1 s.fr (Zb4 o) q->bget t.bx q=bget s.bx q)->t.H=s.H++e->AOp P o t ⟨putO t.fr (dstI o.i) v,t.bx,t.H⟩
 bnW:ZaY o.i=2->∀b,o.bn=some b->H'=s.H/\∀q,q≠b->bget (Zge s.bx bw) q=bget s.bx q
 bnR:ZaY o.i=4->∀b,o.bn=some b->∀t:St,(∀x∈Zb4 o,get t.fr x=get s.fr x)->bget t.bx b=bget s.bx b->AOp P o t ⟨putO t.fr (dstI o.i) v,t.bx,t.H⟩
 local4:ZaY o.i=4->∀t:St,(∀x∈Zb4 o,get t.fr x=get s.fr x)->(∀q,Zj1 s.fr (Zb4 o) q->bget t.bx q=bget s.bx q)->AOp P o t ⟨putO t.fr (dstI o.i) v,t.bx,t.H⟩
 blind:ZaY o.i=0->∀t:St,(∀x∈Zb4 o,get t.fr x=get s.fr x)->AOp P o t ⟨putO t.fr (dstI o.i) v,t.bx,t.H⟩
 named:∀q b,bw=some (q,b)->Zj1 s.fr (Zb4 o) q
 src:∀d off,v=.loc d off->Zj1 s.fr (Zb4 o) d
theorem ZbP {fr fr':List (Nat×AV)}{x:IX}(h:∀t∈ixT x,get fr' t=get fr t):ev fr' x=ev fr x:=by
 cases x with
 |t n=>exact h n (by simp[ixT])
 |k v=>rfl
theorem ZdV {fr fr':List (Nat×AV)}{xs:List IX}(h:∀t∈xs.flatMap ixT,get fr' t=get fr t):xs.map (ev fr')=xs.map (ev fr):=by
 apply List.map_congr_left;intro x hx;exact ZbP λt ht=>h t (List.mem_flatMap.2 ⟨x,hx,ht⟩)
theorem ZuA {bx:List (Nat×List AV)}{H:List HO}{cs:List AV}{x:AV}{m:Mem}(hx:ZqP x=false)(h:wrt bx H cs x=some m):m.bx=bx/\∀bx',wrt bx' H cs x=some ⟨bx',m.H⟩:=by
 cases x with
 |loc t o=>simp[ZqP]at hx
 |ptr id off=>
  simp only[wrt]at h⊢;split at h
  ·rename_i b hb;cases hs:ZbU off cs b with
   |none=>simp[hs]at h
   |some b'=>
    simp only[hs,Zaa,Zab]at h;subst h;exact⟨rfl,λbx'=>by simp⟩
  cases h
 |optr sz id ver i off=>
  simp only[wrt]at h⊢;split at h
  ·rename_i sz' ver' rows hb;split at h
   ·rename_i hc;simp only[hc,and_self,Zak];cases hr:rows[i]? with
    |none=>simp[hr]at h
    |some r=>
     simp only[hr,Z8]at h⊢;cases hu:unP cs with
     |none=>simp[hu]at h
     |some ps=>
      simp only[hu,Z8]at h⊢;cases hs:ZbU off ps r with
      |none=>simp[hs]at h
      |some r'=>
       simp only[hs,Zaa,Zab]at h⊢;subst h;exact⟨rfl,λbx'=>rfl⟩
   cases h
  cases h
 |_=>simp[wrt]at h
theorem Zx7 {fr:List (Nat×AV)}{x:IX}(hk:ixK x=true){d o:Nat}(h:ev fr x=.loc d o):∃t∈ixT x,get fr t=.loc d o:=by
 cases x with
 |t n=>exact⟨n,by simp[ixT],h⟩
 |k v=>simp only[ev]at h;subst h;simp[ixK,ZaV]at hk
theorem Zrq {o:Nat}{x:AV}{d off:Nat}(h:Zn5 o x=some (.loc d off)):∃o',x=.loc d o':=by
 unfold Zn5 at h;split at h<;>simp_all
theorem ZyA {b:Bool}{cs:List AV}{d off:Nat}(h:mk b cs=some (.loc d off)): .loc d off∈cs:=by
 unfold mk at h;split at h
 ·simp at h
 split at h
 ·simp only[Zab]at h;simp[h]
 cases h
theorem Zws {α:Type}{off n:Nat}{l r:List α}(h:sub off n l=some r){x:α}(hx:x∈r):x∈l:=by
 obtain⟨_,rfl⟩:=ZiT h;exact List.mem_of_mem_drop (List.mem_of_mem_take hx)
theorem Zvv {sz:Nat}{lo hi mx:Bool}{x:AV}{vs:List AV}{d off:Nat}(h:Zli sz lo hi mx x vs=some (.loc d off)):False:=by
 unfold Zli at h;split at h
 ·cases h1:Zgd lo 0 vs with
  |none=>simp[h1]at h
  |some p=>
   simp only[h1,Z8]at h;rename_i rows;cases h2:Zgd hi rows.length p.2 with
   |none=>simp[h2]at h
   |some q=>
    simp only[h2,Z8]at h;cases h3:Zgd mx q.1 q.2 with
    |none=>simp[h3]at h
    |some r=>
     simp only[h3,Z8]at h;split at h<;>simp at h
 ·cases h1:Zgd lo 0 vs with
  |none=>simp[h1]at h
  |some p=>
   simp only[h1,Z8]at h;rename_i len;cases h2:Zgd hi len p.2 with
   |none=>simp[h2]at h
   |some q=>
    simp only[h2,Z8]at h;split at h
    ·simp at h
    split at h<;>simp at h
 cases h
def ZK0:AV->Prop
 |.p _|.osl .. =>True
 |.loc .. =>True
 |_=>False
theorem sliceV_form' {sz:Nat}{lo hi mx:Bool}{x:AV}{vs:List AV}{r:AV}(h:Zli sz lo hi mx x vs=some r):ZK0 r:=by
 unfold Zli at h;split at h
 ·cases h1:Zgd lo 0 vs with
  |none=>simp[h1]at h
  |some p=>
   simp only[h1,Z8]at h;rename_i rows;cases h2:Zgd hi rows.length p.2 with
   |none=>simp[h2]at h
   |some q=>
    simp only[h2,Z8]at h;cases h3:Zgd mx q.1 q.2 with
    |none=>simp[h3]at h
    |some r=>
     simp only[h3,Z8]at h;split at h<;>simp at h;subst h;trivial
 ·cases h1:Zgd lo 0 vs with
  |none=>simp[h1]at h
  |some p=>
   simp only[h1,Z8]at h;rename_i len;cases h2:Zgd hi len p.2 with
   |none=>simp[h2]at h
   |some q=>
    simp only[h2,Z8]at h;split at h
    ·simp at h;subst h;trivial
    split at h<;>simp at h;subst h;trivial
 cases h
theorem ZtW {sz:Nat}{lo hi mx:Bool}{x:AV}{vs:List AV}{r:AV}(h:Zli sz lo hi mx x vs=some r):ZK0 r:=sliceV_form' h
theorem Zwn {v:VI}{xs:List AV}{d off:Nat}(h:Za6 v xs=some (.loc d off))(htop:∀x∈xs,top x=true):∃o',AV.loc d o'∈xs:=by
 have hag:∀cs:List AV,AV.agg cs∈xs->AV.loc d off∈cs->False:=λcs h1 h2=>by
  have:=htop _ h1;have h3:noLocL cs=true:=by simpa[top,ZaV]using this
  have:=ZbV.1 h3 _ h2;simp[ZaV]at this
 have htu:∀cs:List AV,AV.tup cs∈xs->AV.loc d off∈cs->False:=λcs h1 h2=>by
  have:=htop _ h1;have h3:noLocL cs=true:=by simpa[top,ZaV]using this
  have:=ZbV.1 h3 _ h2;simp[ZaV]at this
 cases v with
 |mov=>simp only[Za6]at h;split at h<;>simp_all
 |bin op=>
  simp only[Za6]at h;split at h
  ·split at h
   ·rename_i k a k' b _;cases hb:binI op k a b<;>simp[hb]at h
   cases h
  cases h
 |sh op=>
  simp only[Za6]at h;split at h
  ·rename_i k a k' b;cases hb:shI op k a b<;>simp[hb]at h
  cases h
 |eqB neg=>simp only[Za6]at h;split at h<;>simp_all
 |eqS neg m=>
  simp only[Za6]at h;split at h
  ·rename_i a b;cases hb:Zcw m a b<;>simp[hb]at h
  cases h
 |not=>simp only[Za6]at h;split at h<;>simp_all
 |neg=>simp only[Za6]at h;split at h<;>simp_all
 |conv k=>simp only[Za6]at h;split at h<;>simp_all
 |pick=>
  simp only[Za6]at h;split at h
  ·rename_i c a b;simp only[Zab]at h;cases c
   ·simp at h;subst h;exact⟨off,by simp⟩
   simp at h;subst h;exact⟨off,by simp⟩
  cases h
 |faddr o=>
  simp only[Za6]at h;split at h
  ·obtain⟨o',rfl⟩:=Zrq h;exact⟨o',by simp⟩
  cases h
 |iaddr m sz=>
  simp only[Za6]at h;split at h
  ·split at h
   ·obtain⟨o',rfl⟩:=Zrq h;exact⟨o',by simp⟩
   cases h
  cases h
 |iaddrS sz=>
  simp only[Za6]at h;split at h
  ·split at h<;>simp at h
  ·split at h<;>simp at h
  ·split at h<;>simp at h
  cases h
 |idx m sz b=>
  simp only[Za6]at h;split at h
  ·rename_i cs k i;split at h
   ·cases hs:sub (i.toNat*sz) sz cs with
    |none=>simp[hs]at h
    |some r=>
     simp only[hs,Z8]at h;exact(hag cs (by simp) (Zws hs (ZyA h))).elim
   cases h
  cases h
 |fld o m b=>
  simp only[Za6]at h;split at h
  ·rename_i cs;cases hs:sub o m cs with
   |none=>simp[hs]at h
   |some r=>
    simp only[hs,Z8]at h;exact(hag cs (by simp) (Zws hs (ZyA h))).elim
  cases h
 |build z ps=>simp only[Za6]at h;cases hf:Zcx z ps xs<;>simp[hf]at h
 |len=>simp only[Za6]at h;split at h<;>simp_all
 |lenA m=>simp[Za6]at h
 |ext i=>
  simp only[Za6]at h;split at h
  ·rename_i vs;exact(htu vs (by simp) (List.mem_of_getElem? h)).elim
  cases h
 |mkfn f m=>simp only[Za6]at h;split at h<;>simp at h
 |min=>simp only[Za6,minI]at h;split at h<;>simp at h
 |max=>simp only[Za6,maxI]at h;split at h<;>simp at h
 |slice sz lo hi mx=>
  simp only[Za6]at h;split at h
  ·exact(Zvv h).elim
  cases h
 |nilChk=>
  simp only[Za6]at h;split at h<;>simp_all
 |isNil neg=>simp only[Za6]at h;split at h<;>simp at h
def viK:VI->Bool
 |.build z _=>ZaL z
 |_=>true
def insK (i:Ins):Bool:=(ZcT i).all ixK&&(match i with
 |.val _ v _=>viK v
 |_=>true)
theorem Zn1:∀{ps:List (Nat×Nat)} {cs xs out:List AV},Zcx cs ps xs=some out->ZaL cs=true->ZaL out=true
 |[],cs,xs,out,h,hok=>by
  cases xs with
  |nil=>simp only[Zcx,Zab]at h;subst h;exact hok
  |cons=>simp[Zcx]at h
 |(off,n)::ps,cs,xs,out,h,hok=>by
  cases xs with
  |nil=>simp[Zcx]at h
  |cons v vs=>
   simp only[Zcx]at h;split at h
   ·rename_i hcond;cases hs:ZbU off (cellsOf v) cs with
    |none=>simp[hs]at h
    |some cs'=>
     simp only[hs,Z8]at h;exact Zn1 h (ZeJ hs hcond.2 hok)
   cases h
theorem Zwl {v:VI}{xs:List AV}{r:AV}(hv:viK v=true)(h:Za6 v xs=some r)(ht:∀x∈xs,top x=true):top r=true:=by
 have hag:∀cs:List AV,AV.agg cs∈xs->noLocL cs=true:=λcs h1=>by simpa[top,ZaV]using ht _ h1
 have htu:∀cs:List AV,AV.tup cs∈xs->noLocL cs=true:=λcs h1=>by simpa[top,ZaV]using ht _ h1
 cases v with
 |mov=>simp only[Za6]at h;split at h<;>simp_all
 |bin op=>
  simp only[Za6]at h;split at h
  ·split at h
   ·rename_i k a k' b _;cases hb:binI op k a b<;>simp[hb]at h;subst h;rfl
   cases h
  cases h
 |sh op=>
  simp only[Za6]at h;split at h
  ·rename_i k a k' b;cases hb:shI op k a b<;>simp[hb]at h;subst h;rfl
  cases h
 |eqB neg=>simp only[Za6]at h;split at h<;>simp at h;subst h;rfl
 |eqS neg m=>
  simp only[Za6]at h;split at h
  ·rename_i a b;cases hb:Zcw m a b<;>simp[hb]at h;subst h;rfl
  cases h
 |not=>simp only[Za6]at h;split at h<;>simp at h;subst h;rfl
 |neg=>simp only[Za6]at h;split at h<;>simp at h;subst h;rfl
 |conv k=>simp only[Za6]at h;split at h<;>simp at h;subst h;rfl
 |pick=>
  simp only[Za6]at h;split at h
  ·rename_i c a b;simp only[Zab]at h;subst h;cases c<;>exact ht _ (by simp)
  cases h
 |faddr o=>
  simp only[Za6]at h;split at h
  ·exact Zk7 h
  cases h
 |iaddr m sz=>
  simp only[Za6]at h;split at h
  ·split at h
   ·exact Zk7 h
   cases h
  cases h
 |iaddrS sz=>
  simp only[Za6]at h;split at h
  ·split at h<;>simp at h;subst h;rfl
  ·split at h<;>simp at h;subst h;rfl
  ·split at h<;>simp at h;subst h;rfl
  cases h
 |idx m sz b=>
  simp only[Za6]at h;split at h
  ·rename_i cs k i;split at h
   ·cases hs:sub (i.toNat*sz) sz cs with
    |none=>simp[hs]at h
    |some r'=>
     simp only[hs,Z8]at h;exact ZaP (ZlF h (ZgY (hag cs (by simp)) hs))
   cases h
  cases h
 |fld o m b=>
  simp only[Za6]at h;split at h
  ·rename_i cs;cases hs:sub o m cs with
   |none=>simp[hs]at h
   |some r'=>
    simp only[hs,Z8]at h;exact ZaP (ZlF h (ZgY (hag cs (by simp)) hs))
  cases h
 |build z ps=>
  simp only[Za6]at h;cases hf:Zcx z ps xs with
  |none=>simp[hf]at h
  |some out=>
   simp only[hf,Zaa,Zab]at h;subst h;simpa[top,ZaV]using ZaM (Zn1 hf (by simpa[viK]using hv))
 |len=>simp only[Za6]at h;split at h<;>simp at h<;>(subst h;rfl)
 |lenA m=>simp[Za6]at h;subst h;rfl
 |ext i=>
  simp only[Za6]at h;split at h
  ·rename_i vs;exact ZaP (ZbV.1 (htu vs (by simp)) r (List.mem_of_getElem? h))
  cases h
 |mkfn f m=>
  simp only[Za6]at h;split at h
  ·rename_i hn;simp only[Zab]at h;subst h;simp only[top,ZaV,Ze];rw[ZbV]at hn;exact⟨ZbV.2 λx hx=>hn x (List.mem_of_mem_take hx),ZbV.2 λx hx=>hn x (List.mem_of_mem_drop hx)⟩
  cases h
 |min=>simp only[Za6,minI]at h;split at h<;>simp at h<;>(subst h;rfl)
 |max=>simp only[Za6,maxI]at h;split at h<;>simp at h<;>(subst h;rfl)
 |slice sz lo hi mx=>
  simp only[Za6]at h;split at h
  ·cases r with
   |loc t o=>rfl
   |p x=>rfl
   |osl=>rfl
   |_=>exact(ZtW h).elim
  cases h
 |nilChk=>
  simp only[Za6]at h;split at h<;>simp at h<;>(subst h;first|rfl|exact ht _ (by simp))
 |isNil neg=>simp only[Za6]at h;split at h<;>simp at h<;>(subst h;rfl)
section
variable {P:Program}
def Tops (fr:List (Nat×AV)):Prop:=∀t,top (get fr t)=true
theorem ZK2 {fr:List (Nat×AV)}(h:Tops fr){x:IX}(hk:ixK x=true):top (ev fr x)=true:=by
 cases x with
 |t n=>exact h n
 |k v=>exact ZaP (x:=v) hk
theorem ZkZ {fr:List (Nat×AV)}{i:Ins}(hk:(ZcT i).all ixK=true){x:IX}(hx:x∈ZcT i){d o:Nat}(h:ev fr x=.loc d o):Zj1 fr (Zbg i) d:=by
 obtain⟨t,h1,h2⟩:=Zx7 (List.all_eq_true.1 hk x hx) h;exact⟨t,List.mem_flatMap.2 ⟨x,hx,h1⟩,o,h2⟩
theorem Zt7 {bx bx':List (Nat×List AV)}{H:List HO}{n:Nat}{x:AV}(h:∀t o,x=.loc t o->bget bx' t=bget bx t):rd bx' H n x=rd bx H n x:=by
 cases x with
 |loc t o=>simp only[rd,h t o rfl]
 |_=>rfl
theorem Zxw {bx:List (Nat×List AV)}{H:List HO}{cs:List AV}{x:AV}{m:Mem}(h:wrt bx H cs x=some m):
  ∃bw,m.bx=Zge bx bw/\(∀q b,bw=some (q,b)->∃o,x=.loc q o)/\∀bx',(∀t o,x=.loc t o->bget bx' t=bget bx t)->wrt bx' H cs x=some ⟨Zge bx' bw,m.H⟩:=by
 unfold wrt at h;split at h
 ·rename_i t off;cases hb:bget bx t with
  |none=>simp[hb]at h
  |some b=>
   simp only[hb,Z8]at h;cases hs:ZbU off cs b with
   |none=>simp[hs]at h
   |some b'=>
    simp only[hs,Zaa,Zab]at h;subst h;refine⟨some (t,b'),rfl,λq b e=>?_,λbx' hb'=>?_⟩
    ·simp only[Zab,Zac]at e;exact⟨off,by rw[e.1]⟩
    simp only[wrt,hb' t off rfl,hb,Z8,hs,Zaa];rfl
 ·rename_i id off;split at h
  ·rename_i b hH;cases hs:ZbU off cs b with
   |none=>simp[hs]at h
   |some b'=>
    simp only[hs,Zaa,Zab]at h;subst h;exact⟨none,rfl,λq b e=>(by cases e),λbx' _=>by simp only[wrt,hH,hs,Zaa];rfl⟩
  cases h
 ·rename_i sz id ver i off;split at h
  ·rename_i sz' ver' rows hH;split at h
   ·rename_i hcond;cases hi:rows[i]? with
    |none=>simp[hi]at h
    |some r=>
     simp only[hi,Z8]at h;cases hu:unP cs with
     |none=>simp[hu]at h
     |some ps=>
      simp only[hu,Z8]at h;cases hs:ZbU off ps r with
      |none=>simp[hs]at h
      |some r'=>
       simp only[hs,Zaa,Zab]at h;subst h;refine⟨none,rfl,λq b e=>(by cases e),λbx' _=>?_⟩;simp only[wrt,hH,hcond,and_self,Zak,hi,Z8,hu,hs,Zaa];rfl
   cases h
  cases h
 cases h
theorem ZsH {i:Ins}{s s':St}(h:ZaH P i s s')(hk:ZaY i≠3)(hKi:insK i=true)(hT:Tops s.fr):
  ∃v bw H',s'=⟨putO s.fr (dstI i) v,Zge s.bx bw,H'⟩∧
   (∀t:St,(∀x∈Zbg i,get t.fr x=get s.fr x)->(∀q,Zj1 s.fr (Zbg i) q->bget t.bx q=bget s.bx q)->t.H=s.H->ZaH P i t ⟨putO t.fr (dstI i) v,Zge t.bx bw,H'⟩)∧
   (ZiW (ZaY i)->bw=none/\H'=s.H)/\(ZaY i=5∨ZaY i=6->bw=none)∧
   (ZaY i=4->∀t:St,(∀x∈Zbg i,get t.fr x=get s.fr x)->(∀q,Zj1 s.fr (Zbg i) q->bget t.bx q=bget s.bx q)->ZaH P i t ⟨putO t.fr (dstI i) v,t.bx,t.H⟩)∧
   (ZaY i=0->∀t:St,(∀x∈Zbg i,get t.fr x=get s.fr x)->ZaH P i t ⟨putO t.fr (dstI i) v,t.bx,t.H⟩)∧
   (∀q b,bw=some (q,b)->Zj1 s.fr (Zbg i) q)∧
   (∀d off,v=.loc d off->Zj1 s.fr (Zbg i) d)/\top v=true:=by
 have hK:(ZcT i).all ixK=true:=by simp only[insK,Ze]at hKi;exact hKi.1
 cases i with
 |val d v xs=>
  simp only[ZaH,Za0]at h;cases hv:Za6 v (xs.map (ev s.fr))with
  |none=>simp[hv]at h
  |some r=>
   simp only[hv,Zaa,Zab]at h;subst h;have key:∀t:St,(∀x∈Zbg (.val d v xs),get t.fr x=get s.fr x)->ZaH P (.val d v xs) t ⟨put t.fr d r,t.bx,t.H⟩:=λt ht=>by
    simp only[ZaH,Za0];rw[ZdV (xs:=xs) ht,hv];rfl
   have htops:∀x∈xs.map (ev s.fr),top x=true:=λx hx=>by
    obtain⟨y,hy,rfl⟩:=List.mem_map.1 hx;exact ZK2 hT (List.all_eq_true.1 hK y hy)
   refine⟨r,none,s.H,rfl,λt ht _ e2=>(by have:=key t ht;rw[e2]at this;exact this),λ_=>⟨rfl,rfl⟩,λ_=>rfl,λh=>(by simp[ZaY]at h),λ_=>key,λq b e=>(by cases e),λdd off e=>?_,Zwl (by simp only[insK,Ze]at hKi;exact hKi.2) hv htops⟩;subst e;obtain⟨o',ho⟩:=Zwn hv htops;obtain⟨y,hy,hy2⟩:=List.mem_map.1 ho;exact ZkZ (i:=.val d v xs) hK hy hy2
 |litP d sz xs=>
  simp only[ZaH,Za0]at h;cases hv:ZnK sz (xs.map (ev s.fr))with
  |none=>simp[hv]at h
  |some r=>
   simp only[hv,Zaa,Zab]at h;subst h;have key:∀t:St,(∀x∈Zbg (.litP d sz xs),get t.fr x=get s.fr x)->ZaH P (.litP d sz xs) t ⟨put t.fr d (.p (.sl sz true r)),t.bx,t.H⟩:=λt ht=>by
    simp only[ZaH,Za0];rw[ZdV (xs:=xs) ht,hv];rfl
   exact⟨_,none,s.H,rfl,λt ht _ e2=>(by have:=key t ht;rw[e2]at this;exact this),λ_=>⟨rfl,rfl⟩,λ_=>rfl,λh=>(by simp[ZaY]at h),λ_=>key,λq b e=>(by cases e),λdd off e=>(by cases e),rfl⟩
 |mkC d m zero bytes=>
  simp only[ZaH,Za0]at h;split at h
  ·rename_i hv;simp only[Zab]at h;subst h;have key:∀t:St,(∀x∈Zbg (.mkC d m zero bytes),get t.fr x=get s.fr x)->ZaH P (.mkC d m zero bytes) t ⟨put t.fr d (.p (.sl zero.length false (List.replicate m zero))),t.bx,t.H⟩:=λt ht=>by
    simp only[ZaH,Za0];rw[Zaj hv]
   exact⟨_,none,s.H,rfl,λt ht _ e2=>(by have:=key t ht;rw[e2]at this;exact this),λ_=>⟨rfl,rfl⟩,λ_=>rfl,λh=>(by simp[ZaY]at h),λ_=>key,λq b e=>(by cases e),λdd off e=>(by cases e),rfl⟩
  cases h
 |callP d f xs=>
  simp only[ZaH]at h;obtain⟨r,h2,rfl⟩:=h;have key:∀t:St,(∀x∈Zbg (.callP d f xs),get t.fr x=get s.fr x)->ZaH P (.callP d f xs) t ⟨put t.fr d r,t.bx,t.H⟩:=λt ht=>by
   simp only[ZaH];rw[ZdV (xs:=xs) ht];exact⟨r,h2,rfl⟩
  have hno:=h2.2.2.2.1;exact⟨r,none,s.H,rfl,λt ht _ e2=>(by have:=key t ht;rw[e2]at this;exact this),λ_=>⟨rfl,rfl⟩,λ_=>rfl,λh=>(by simp[ZaY]at h),λ_=>key,λq b e=>(by cases e),λdd off e=>(by subst e;simp[ZaV]at hno),ZaP hno⟩
 |callQ d f xs=>
  simp only[ZaH]at h;obtain⟨args,r,h1,h2,rfl⟩:=h;have hno:=h2.2.2.2.1;refine⟨r,none,s.H,rfl,λt ht _ e2=>?_,λ_=>⟨rfl,rfl⟩,λ_=>rfl,λh=>(by simp[ZaY]at h),λh=>(by simp[ZaY]at h),λq b e=>(by cases e),λdd off e=>(by subst e;simp[ZaV]at hno),ZaP hno⟩;simp only[ZaH];rw[ZdV (xs:=xs) ht,e2];exact⟨args,r,h1,h2,rfl⟩
 |load d x m b=>
  simp only[ZaH,Za0]at h;cases hr:rd s.bx s.H m (ev s.fr x)with
  |none=>simp[hr]at h
  |some cs=>
   simp only[hr,Z8]at h;split at h
   rotate_left
   ·cases h
   rename_i hok;cases hmk:mk b cs with
   |none=>simp[hmk]at h
   |some r=>
    simp only[hmk,Zaa,Zab]at h;subst h;have hno:ZaV r=true:=ZlF hmk (ZaM hok);refine⟨r,none,s.H,rfl,λt ht hb e2=>?_,λ_=>⟨rfl,rfl⟩,λ_=>rfl,λh=>(by simp[ZaY]at h),λh=>(by simp[ZaY]at h),λq b e=>(by cases e),λdd off e=>(by subst e;simp[ZaV]at hno),ZaP hno⟩;simp only[ZaH,Za0];rw[ZbP (x:=x) (λq hq=>ht q (by simp[Zbg,ZcT,hq])),e2,Zt7 (λq o e=>hb q (ZkZ (i:=.load d x m b) hK (by simp[ZcT]) e)),hr];simp only[Z8,hok,Zak,hmk,Zaa];rfl
 |loadI d x m b=>
  simp only[ZaH,Za0]at h;split at h
  rotate_left
  ·cases h
  rename_i sz rows i off hx;cases hr:rd [] [] m (.ppt sz rows i off)with
  |none=>simp[hr]at h
  |some cs=>
   simp only[hr,Z8]at h;split at h
   rotate_left
   ·cases h
   rename_i hok;cases hmk:mk b cs with
   |none=>simp[hmk]at h
   |some r=>
    simp only[hmk,Zaa,Zab]at h;subst h;have hno:ZaV r=true:=ZlF hmk (ZaM hok);have key:∀t:St,(∀z∈Zbg (.loadI d x m b),get t.fr z=get s.fr z)->ZaH P (.loadI d x m b) t ⟨put t.fr d r,t.bx,t.H⟩:=λt ht=>by
     simp only[ZaH,Za0];rw[ZbP (x:=x) (λq hq=>ht q (by simp[Zbg,ZcT,hq])),hx];simp only[hr,Z8,hok,Zak,hmk,Zaa]
    exact⟨r,none,s.H,rfl,λt ht _ e2=>(by have:=key t ht;rw[e2]at this;exact this),λ_=>⟨rfl,rfl⟩,λ_=>rfl,λh=>(by simp[ZaY]at h),λ_=>key,λq b e=>(by cases e),λdd off e=>(by subst e;simp[ZaV]at hno),ZaP hno⟩
 |loadH d x m b=>
  simp only[ZaH,Za0]at h;split at h
  ·cases h
  rename_i hl;cases hr:rd [] s.H m (ev s.fr x)with
  |none=>simp[hr]at h
  |some cs=>
   simp only[hr,Z8]at h;split at h
   rotate_left
   ·cases h
   rename_i hok;cases hmk:mk b cs with
   |none=>simp[hmk]at h
   |some r=>
    simp only[hmk,Zaa,Zab]at h;subst h;have hno:ZaV r=true:=ZlF hmk (ZaM hok);refine⟨r,none,s.H,rfl,λt ht hb e2=>?_,λ_=>⟨rfl,rfl⟩,λ_=>rfl,λh=>(by simp[ZaY]at h),λh=>(by simp[ZaY]at h),λq b e=>(by cases e),λdd off e=>(by subst e;simp[ZaV]at hno),ZaP hno⟩;simp only[ZaH,Za0];rw[ZbP (x:=x) (λq hq=>ht q (by simp[Zbg,ZcT,hq])),Zai hl,e2,hr];simp only[Z8,hok,Zak,hmk,Zaa];rfl
 |loadN d x m b zs=>
  simp only[ZaH,Za0]at h;split at h
  rotate_left
  ·cases h
  rename_i id off hx;split at h
  rotate_left
  ·cases h
  rename_i hz;cases hr:rd [] s.H m (.ptr id off)with
  |none=>simp[hr]at h
  |some cs=>
   simp only[hr,Z8]at h;split at h
   rotate_left
   ·cases h
   rename_i hok;cases hmk:mk b cs with
   |none=>simp[hmk]at h
   |some r=>
    simp only[hmk,Zaa,Zab]at h;subst h;have hno:ZaV r=true:=ZlF hmk (ZaM hok);refine⟨r,none,s.H,rfl,λt ht hb e2=>?_,λ_=>⟨rfl,rfl⟩,λ_=>rfl,λh=>(by simp[ZaY]at h),λh=>(by simp[ZaY]at h),λq b e=>(by cases e),λdd off e=>(by subst e;simp[ZaV]at hno),ZaP hno⟩;simp only[ZaH,Za0];rw[ZbP (x:=x) (λq hq=>ht q (by simp[Zbg,ZcT,hq])),hx,ZdV (xs:=zs) (λq hq=>ht q (List.mem_append_right _ hq))];simp only;rw[Zaj hz,e2,hr];simp only[Z8,hok,Zak,hmk,Zaa];rfl
 |appN d x y z b=>
  simp only[ZaH,Za0]at h;split at h
  rotate_left
  ·cases h
  rename_i a0 b0 hx;by_cases hsr:Zna (ev s.fr y)=true
  case neg=>rw[Zai hsr]at h;cases h
  rw[Zaj hsr]at h;cases hr:Zgw s.H z (ev s.fr y)with
  |none=>simp[hr]at h
  |some new=>
   simp only[hr,Z8]at h;cases ha:appV s.H z b (.p (.sl a0 true b0)) new with
   |none=>simp[ha]at h
   |some p=>
    obtain⟨v,H2⟩:=p;simp only[ha,Zaa,Zab]at h;subst h;have hno:ZaV v=true:=by
     unfold appV at ha;simp only at ha;split at ha
     ·split at ha
      ·simp only[Zab,Zac]at ha;rw[←ha.1];rfl
      simp only[Zab,Zac]at ha;rw[←ha.1];rfl
     cases ha
    refine⟨v,none,H2,rfl,λt ht _ e2=>?_,λh=>(by simp[ZaY,ZiW]at h),λ_=>rfl,λh=>(by simp[ZaY]at h),λh=>(by simp[ZaY]at h),λq b e=>(by cases e),λdd off e=>(by subst e;simp[ZaV]at hno),ZaP hno⟩;simp only[ZaH,Za0];rw[ZbP (x:=y) (λq hq=>ht q (by simp[Zbg,ZcT,hq])),ZbP (x:=x) (λq hq=>ht q (by simp[Zbg,ZcT,hq])),e2,hx];simp only[hsr,Zak,hr,Z8,ha,Zaa];rfl
 |loadL d x m b=>
  simp only[ZaH,Za0]at h;split at h
  ·rename_i tt off hev;cases hr:rd s.bx [] m (.loc tt off)with
   |none=>simp[hr]at h
   |some cs=>
    simp only[hr,Z8]at h;split at h
    rotate_left
    ·cases h
    rename_i hok;cases hmk:mk b cs with
    |none=>simp[hmk]at h
    |some r=>
     simp only[hmk,Zaa,Zab]at h;subst h;have hno:ZaV r=true:=ZlF hmk (ZaM hok);have key:∀t:St,(∀z∈Zbg (.loadL d x m b),get t.fr z=get s.fr z)->(∀q,Zj1 s.fr (Zbg (.loadL d x m b)) q->bget t.bx q=bget s.bx q)->ZaH P (.loadL d x m b) t ⟨put t.fr d r,t.bx,t.H⟩:=λt ht hb=>by
      simp only[ZaH,Za0];rw[ZbP (x:=x) (λq hq=>ht q (by simp[Zbg,ZcT,hq])),hev];simp only;rw[Zt7 (bx:=s.bx) (λq o e=>hb q (ZkZ (i:=.loadL d x m b) hK (x:=x) (by simp[ZcT]) (by rw[hev,e]))),hr];simp only[Z8,hok,Zak,hmk,Zaa]
     exact⟨r,none,s.H,rfl,λt ht hb e2=>(by have:=key t ht hb;rw[e2]at this;exact this),λ_=>⟨rfl,rfl⟩,λh=>(by simp[ZaY]at h),λ_=>key,λh=>(by simp[ZaY]at h),λq b e=>(by cases e),λdd off e=>(by subst e;simp[ZaV]at hno),ZaP hno⟩
  cases h
 |store x y m=>
  simp only[ZaH,Za0]at h;split at h
  ·rename_i hcond;cases hw:wrt s.bx s.H (cellsOf (ev s.fr y)) (ev s.fr x)with
   |none=>simp[hw]at h
   |some mm=>
    simp only[hw,Zaa,Zab]at h;subst h;obtain⟨bw,w1,w2,w3⟩:=Zxw hw;refine⟨.any,bw,mm.H,by rw[w1];rfl,λt ht hb e2=>?_,λh=>(by simp[ZaY,ZiW]at h),λh=>(by simp[ZaY]at h),λh=>(by simp[ZaY]at h),λh=>(by simp[ZaY]at h),λq b e=>?_,λdd off e=>(by cases e),rfl⟩
    ·simp only[ZaH,Za0];rw[ZbP (x:=y) (λq hq=>ht q (by simp[Zbg,ZcT,hq])),ZbP (x:=x) (λq hq=>ht q (by simp[Zbg,ZcT,hq])),Zaj hcond,e2,w3 t.bx (λq o e=>hb q (ZkZ (i:=.store x y m) hK (by simp[ZcT]) e))];rfl
    obtain⟨o,ho⟩:=w2 q b e;exact ZkZ (i:=.store x y m) hK (by simp[ZcT]) ho
  cases h
 |storeH x y m=>
  simp only[ZaH,Za0]at h;split at h
  ·rename_i hcond;cases hw:wrt s.bx s.H (cellsOf (ev s.fr y)) (ev s.fr x)with
   |none=>simp[hw]at h
   |some mm=>
    simp only[hw,Zaa,Zab]at h;subst h;obtain⟨w1,w2⟩:=ZuA hcond.1 hw;refine⟨.any,none,mm.H,by rw[w1];rfl,λt ht hb e2=>?_,λh=>(by simp[ZaY,ZiW]at h),λ_=>rfl,λh=>(by simp[ZaY]at h),λh=>(by simp[ZaY]at h),λq b e=>(by cases e),λdd off e=>(by cases e),rfl⟩;simp only[ZaH,Za0];rw[ZbP (x:=y) (λq hq=>ht q (by simp[Zbg,ZcT,hq])),ZbP (x:=x) (λq hq=>ht q (by simp[Zbg,ZcT,hq])),Zaj hcond,e2,w2 t.bx];rfl
  cases h
 |newL=>simp[ZaY]at hk
 |boxL=>simp[ZaY]at hk
 |newH d z=>
  simp only[ZaH,Za0,Zab]at h;subst h;refine⟨_,none,_,rfl,λt ht _ e2=>?_,λh=>(by simp[ZaY,ZiW]at h),λ_=>rfl,λh=>(by simp[ZaY]at h),λh=>(by simp[ZaY]at h),λq b e=>(by cases e),λdd off e=>(by cases e),rfl⟩;simp only[ZaH,Za0,e2];rfl
 |boxH d x=>
  simp only[ZaH,Za0]at h;split at h
  ·rename_i hcond;simp only[Zab]at h;subst h;refine⟨_,none,_,rfl,λt ht _ e2=>?_,λh=>(by simp[ZaY,ZiW]at h),λ_=>rfl,λh=>(by simp[ZaY]at h),λh=>(by simp[ZaY]at h),λq b e=>(by cases e),λdd off e=>(by cases e),rfl⟩;simp only[ZaH,Za0];rw[ZbP (x:=x) (λq hq=>ht q (by simp[Zbg,ZcT,hq])),Zaj hcond,e2];rfl
  cases h
 |mkSl d x y z b=>
  simp only[ZaH,Za0]at h;split at h
  ·rename_i m c hx hy;split at h
   ·rename_i hcond;simp only[Zab]at h;subst h;refine⟨_,none,_,rfl,λt ht _ e2=>?_,λh=>(by simp[ZaY,ZiW]at h),λ_=>rfl,λh=>(by simp[ZaY]at h),λh=>(by simp[ZaY]at h),λq b e=>(by cases e),λdd off e=>(by cases e),rfl⟩;simp only[ZaH,Za0];rw[ZbP (x:=y) (λq hq=>ht q (by simp[Zbg,ZcT,hq])),ZbP (x:=x) (λq hq=>ht q (by simp[Zbg,ZcT,hq])),hx,hy];simp only[hcond,and_self,Zak,e2];rfl
   cases h
  cases h
 |app d x y z b=>
  simp only[ZaH,Za0]at h;by_cases hsr:Zna (ev s.fr y)=true
  case neg=>rw[Zai hsr]at h;cases h
  rw[Zaj hsr]at h;cases hr:Zgw s.H z (ev s.fr y)with
  |none=>simp[hr]at h
  |some new=>
   simp only[hr,Z8]at h;cases ha:appV s.H z b (ev s.fr x) new with
   |none=>simp[ha]at h
   |some p=>
    obtain⟨v,H2⟩:=p;simp only[ha,Zaa,Zab]at h;subst h;have hno:ZaV v=true:=by
     unfold appV at ha;split at ha
     ·split at ha
      ·split at ha
       ·rename_i hev _ _;simp only[Zab,Zac]at ha;rw[←ha.1,hev];rfl
       simp only[Zab,Zac]at ha;rw[←ha.1];rfl
      cases ha
     ·split at ha
      ·split at ha
       ·simp only[Zab,Zac]at ha;rw[←ha.1];rfl
       cases ha
      cases ha
     cases ha
    refine⟨v,none,H2,rfl,λt ht _ e2=>?_,λh=>(by simp[ZaY,ZiW]at h),λ_=>rfl,λh=>(by simp[ZaY]at h),λh=>(by simp[ZaY]at h),λq b e=>(by cases e),λdd off e=>(by subst e;simp[ZaV]at hno),ZaP hno⟩;simp only[ZaH,Za0];rw[ZbP (x:=y) (λq hq=>ht q (by simp[Zbg,ZcT,hq])),ZbP (x:=x) (λq hq=>ht q (by simp[Zbg,ZcT,hq])),e2,hr];simp only[hsr,Zak,Z8,ha,Zaa];rfl
 |litSl d sz xs=>
  simp only[ZaH,Za0]at h;cases hv:ZnK sz (xs.map (ev s.fr))with
  |none=>simp[hv]at h
  |some r=>
   simp only[hv,Zaa,Zab]at h;subst h;refine⟨_,none,_,rfl,λt ht _ e2=>?_,λh=>(by simp[ZaY,ZiW]at h),λ_=>rfl,λh=>(by simp[ZaY]at h),λh=>(by simp[ZaY]at h),λq b e=>(by cases e),λdd off e=>(by cases e),rfl⟩;simp only[ZaH,Za0];rw[ZdV (xs:=xs) ht,hv,e2];rfl
 |call d f xs=>
  simp only[ZaH]at h;obtain⟨args,H1,r,H2,h1,h2,rfl⟩:=h;have hno:=h2.2.1;refine⟨r,none,H2,rfl,λt ht _ e2=>?_,λh=>(by simp[ZaY,ZiW]at h),λ_=>rfl,λh=>(by simp[ZaY]at h),λh=>(by simp[ZaY]at h),λq b e=>(by cases e),λdd off e=>(by subst e;simp[ZaV]at hno),ZaP hno⟩;simp only[ZaH];rw[ZdV (xs:=xs) ht,e2];exact⟨args,H1,r,H2,h1,h2,rfl⟩
 |callV d fx xs=>
  simp only[ZaH]at h;obtain⟨f,first,cap,args,H1,r,H2,h0,h1,h2,rfl⟩:=h;have hno:=h2.2.1;refine⟨r,none,H2,rfl,λt ht _ e2=>?_,λh=>(by simp[ZaY,ZiW]at h),λ_=>rfl,λh=>(by simp[ZaY]at h),λh=>(by simp[ZaY]at h),λq b e=>(by cases e),λdd off e=>(by subst e;simp[ZaV]at hno),ZaP hno⟩;simp only[ZaH];rw[ZbP (x:=fx) (λq hq=>ht q (by simp[Zbg,ZcT,hq])),ZdV (xs:=xs) (λq hq=>ht q (by simp only[Zbg,ZcT,List.flatMap_cons,List.mem_append];exact .inr hq)),e2];exact⟨f,first,cap,args,H1,r,H2,h0,h1,h2,rfl⟩
 |sp d q xs=>
  simp only[ZaH]at h;obtain⟨v,H2,h1,rfl⟩:=h;have hno:=h1.1;refine⟨v,none,H2,rfl,λt ht _ e2=>?_,λh=>(by simp[ZaY,ZiW]at h),λ_=>rfl,λh=>(by simp[ZaY]at h),λh=>(by simp[ZaY]at h),λq b e=>(by cases e),λdd off e=>(by subst e;simp[ZaV]at hno),ZaP hno⟩;simp only[ZaH];rw[ZdV (xs:=xs) ht,e2];exact⟨v,H2,h1,rfl⟩
 |callY d fx xs=>
  simp only[ZaH]at h;obtain⟨id,args,H1,b,H2,h0,h1,h2,rfl⟩:=h;have hno:ZaV (.p (.bool b))=true:=rfl;refine⟨.p (.bool b),none,H2,rfl,λt ht _ e2=>?_,λh=>(by simp[ZaY,ZiW]at h),λ_=>rfl,λh=>(by simp[ZaY]at h),λh=>(by simp[ZaY]at h),λq b e=>(by cases e),λdd off e=>(by cases e),ZaP hno⟩;simp only[ZaH];rw[ZbP (x:=fx) (λq hq=>ht q (by simp[Zbg,ZcT,hq])),ZdV (xs:=xs) (λq hq=>ht q (by simp only[Zbg,ZcT,List.flatMap_cons,List.mem_append];exact .inr hq)),e2];exact⟨id,args,H1,b,H2,h0,h1,h2,rfl⟩
def ioK (o:IOp):Bool:=insK o.i
theorem Zj1.mono {fr:List (Nat×AV)}{l l':List Nat}(h:∀x∈l,x∈l'){q:Nat}(hn:Zj1 fr l q):Zj1 fr l' q:=by
 obtain⟨x,h1,h2⟩:=hn;exact⟨x,h x h1,h2⟩
theorem ZkH {o:IOp}{fr fr':List (Nat×AV)}(h:∀x∈Zbg o.i,get fr' x=get fr x):bnOK o fr'=bnOK o fr:=by
 unfold bnOK;cases o.bn with
 |none=>rfl
 |some b=>
  simp only;cases hx:adrI o.i with
  |none=>rfl
  |some x=>
   simp only;rw[ZbP (x:=x) (λq hq=>h q ?_)];unfold adrI at hx;unfold Zbg;split at hx<;>simp_all[ZcT]
theorem Zz7 {i:Ins}{s s':St}(h:ZaH P i s s')(hk:ZaY i=6):∃e,s'.H=s.H++e:=by
 cases i with
 |newH d z=>simp only[ZaH,Za0,Zab]at h;subst h;exact⟨_,rfl⟩
 |boxH d x=>
  simp only[ZaH,Za0]at h;split at h
  ·simp only[Zab]at h;subst h;exact⟨_,rfl⟩
  cases h
 |litSl d sz xs=>
  simp only[ZaH,Za0]at h;cases hv:ZnK sz (xs.map (ev s.fr))with
  |none=>simp[hv]at h
  |some r=>simp only[hv,Zaa,Zab]at h;subst h;exact⟨_,rfl⟩
 |mkSl d x y z b=>
  simp only[ZaH,Za0]at h;split at h
  ·split at h
   ·simp only[Zab]at h;subst h;exact⟨_,rfl⟩
   cases h
  cases h
 |appN d x y z b=>
  simp only[ZaH,Za0]at h;split at h
  rotate_left
  ·cases h
  rename_i a0 b0 hx;by_cases hsr:Zna (ev s.fr y)=true
  case neg=>rw[Zai hsr]at h;cases h
  rw[Zaj hsr]at h;cases hr:Zgw s.H z (ev s.fr y)with
  |none=>simp[hr]at h
  |some new=>
   simp only[hr,Z8]at h;cases ha:appV s.H z b (.p (.sl a0 true b0)) new with
   |none=>simp[ha]at h
   |some p=>
    obtain⟨v,H2⟩:=p;simp only[ha,Zaa,Zab]at h;subst h;unfold appV at ha;simp only at ha;split at ha
    ·split at ha
     ·simp only[Zab,Zac]at ha;exact⟨[],by rw[←ha.2];simp⟩
     simp only[Zab,Zac]at ha;exact⟨_,by rw[←ha.2]⟩
    cases ha
 |_=>simp[ZaY]at hk
theorem Zt8 {bx:List (Nat×List AV)}{H e:List HO}{n:Nat}{x:AV}{cs:List AV}(h:rd bx H n x=some cs):rd bx (H++e) n x=some cs:=by
 have key:∀(id:Nat) o,H[id]?=some o->(H++e)[id]?=some o:=λid o ho=>by rw[ZA (List.getElem?_eq_some_iff.1 ho).1];exact ho
 unfold rd at h⊢;split at h
 ·exact h
 ·rename_i id off;cases hH:H[id]? with
  |none=>simp[hH]at h
  |some o=>rw[hH]at h;simp only[key id o hH];exact h
 ·rename_i sz id ver i off;cases hH:H[id]? with
  |none=>simp[hH]at h
  |some o=>rw[hH]at h;simp only[key id o hH];exact h
 ·exact h
 cases h
theorem Zl1 {fr:List (Nat×AV)}{d:Nat}{a b:AV}(h:put fr d a=put fr d b):a=b:=by
 have h1:get (put fr d a) d=get (put fr d b) d:=by rw[h]
 rw[Zbr,Zbr,Zaj rfl,Zaj rfl]at h1;exact h1
theorem Ztq {i:Ins}{s s':St}(h:ZaH P i s s')(hk:ZaY i=7){v:AV}(hs:s'=⟨putO s.fr (dstI i) v,s.bx,s.H⟩)(t:St)(ht:∀x∈Zbg i,get t.fr x=get s.fr x)(hH:t.H=s.H):
  ZaH P i t ⟨putO t.fr (dstI i) v,t.bx,t.H⟩:=by
 cases i with
 |loadH d x m b=>
  simp only[ZaH,Za0]at h;split at h
  ·cases h
  rename_i hl;cases hr:rd [] s.H m (ev s.fr x)with
  |none=>simp[hr]at h
  |some cs=>
   simp only[hr,Z8]at h;split at h
   rotate_left
   ·cases h
   rename_i hok;cases hmk:mk b cs with
   |none=>simp[hmk]at h
   |some r=>
    simp only[hmk,Zaa,Zab]at h;subst hs;simp only[dstI,putO,St.mk.injEq,Zad]at h;obtain rfl:=Zl1 h;simp only[ZaH,Za0,dstI,putO];rw[ZbP (x:=x) (λq hq=>ht q (by simp[Zbg,ZcT,hq])),Zai hl,hH,hr];simp only[Z8,hok,Zak,hmk,Zaa]
 |loadN d x m b zs=>
  simp only[ZaH,Za0]at h;split at h
  rotate_left
  ·cases h
  rename_i id off hx;split at h
  rotate_left
  ·cases h
  rename_i hz;cases hr:rd [] s.H m (.ptr id off)with
  |none=>simp[hr]at h
  |some cs=>
   simp only[hr,Z8]at h;split at h
   rotate_left
   ·cases h
   rename_i hok;cases hmk:mk b cs with
   |none=>simp[hmk]at h
   |some r=>
    simp only[hmk,Zaa,Zab]at h;subst hs;simp only[dstI,putO,St.mk.injEq,Zad]at h;obtain rfl:=Zl1 h;simp only[ZaH,Za0,dstI,putO];rw[ZbP (x:=x) (λq hq=>ht q (by simp[Zbg,ZcT,hq])),hx,ZdV (xs:=zs) (λq hq=>ht q (List.mem_append_right _ hq))];simp only;rw[Zaj hz,hH,hr];simp only[Z8,hok,Zak,hmk,Zaa]
 |_=>simp[ZaY]at hk
theorem Ztr {i:Ins}{s s':St}(h:ZaH P i s s')(hk:ZaY i=1∨ZaY i=7)(hKi:insK i=true){v:AV}(hs:s'=⟨putO s.fr (dstI i) v,s.bx,s.H⟩)(t:St)(e:List HO)(ht:∀x∈Zbg i,get t.fr x=get s.fr x)(hb:∀q,Zj1 s.fr (Zbg i) q->bget t.bx q=bget s.bx q)(hH:t.H=s.H++e):
  ZaH P i t ⟨putO t.fr (dstI i) v,t.bx,t.H⟩:=by
 have hK:(ZcT i).all ixK=true:=by simp only[insK,Ze]at hKi;exact hKi.1
 cases i with
 |load d x m b=>
  simp only[ZaH,Za0]at h;cases hr:rd s.bx s.H m (ev s.fr x)with
  |none=>simp[hr]at h
  |some cs=>
   simp only[hr,Z8]at h;split at h
   rotate_left
   ·cases h
   rename_i hok;cases hmk:mk b cs with
   |none=>simp[hmk]at h
   |some r=>
    simp only[hmk,Zaa,Zab]at h;subst hs;simp only[dstI,putO,St.mk.injEq,Zad]at h;obtain rfl:=Zl1 h;simp only[ZaH,Za0,dstI,putO];rw[ZbP (x:=x) (λq hq=>ht q (by simp[Zbg,ZcT,hq])),Zt7 (λq o e=>hb q (ZkZ (i:=.load d x m b) hK (by simp[ZcT]) e)),hH,Zt8 hr];simp only[Z8,hok,Zak,hmk,Zaa]
 |loadH d x m b=>
  simp only[ZaH,Za0]at h;split at h
  ·cases h
  rename_i hl;cases hr:rd [] s.H m (ev s.fr x)with
  |none=>simp[hr]at h
  |some cs=>
   simp only[hr,Z8]at h;split at h
   rotate_left
   ·cases h
   rename_i hok;cases hmk:mk b cs with
   |none=>simp[hmk]at h
   |some r=>
    simp only[hmk,Zaa,Zab]at h;subst hs;simp only[dstI,putO,St.mk.injEq,Zad]at h;obtain rfl:=Zl1 h;simp only[ZaH,Za0,dstI,putO];rw[ZbP (x:=x) (λq hq=>ht q (by simp[Zbg,ZcT,hq])),Zai hl,hH,Zt8 hr];simp only[Z8,hok,Zak,hmk,Zaa]
 |loadN d x m b zs=>
  simp only[ZaH,Za0]at h;split at h
  rotate_left
  ·cases h
  rename_i id off hx;split at h
  rotate_left
  ·cases h
  rename_i hz;cases hr:rd [] s.H m (.ptr id off)with
  |none=>simp[hr]at h
  |some cs=>
   simp only[hr,Z8]at h;split at h
   rotate_left
   ·cases h
   rename_i hok;cases hmk:mk b cs with
   |none=>simp[hmk]at h
   |some r=>
    simp only[hmk,Zaa,Zab]at h;subst hs;simp only[dstI,putO,St.mk.injEq,Zad]at h;obtain rfl:=Zl1 h;simp only[ZaH,Za0,dstI,putO];rw[ZbP (x:=x) (λq hq=>ht q (by simp[Zbg,ZcT,hq])),hx,ZdV (xs:=zs) (λq hq=>ht q (List.mem_append_right _ hq))];simp only;rw[Zaj hz,hH,Zt8 hr];simp only[Z8,hok,Zak,hmk,Zaa]
 |callQ d f xs=>
  simp only[ZaH]at h;obtain⟨args,r,h1,h2,e1⟩:=h;subst hs;simp only[dstI,putO,St.mk.injEq,Zad]at e1;obtain rfl:=Zl1 e1;simp only[ZaH,dstI,putO];rw[ZdV (xs:=xs) ht,hH];exact⟨args,_,h1.grow,h2,rfl⟩
 |_=>simp[ZaY]at hk
theorem ZoF {o:IOp}{fr:List (Nat×AV)}{b:Nat}(h:bnOK o fr=true)(hb:o.bn=some b):∃x off,adrI o.i=some x/\ev fr x=.loc b off:=by
 unfold bnOK at h;rw[hb]at h;simp only at h;split at h
 ·rename_i x hx;split at h
  ·rename_i t off he;have:=eq_of_beq h;subst this;exact⟨x,off,hx,he⟩
  cases h
 cases h
theorem ZsF {i:Ins}{s s':St}(h:ZaH P i s s')(hk:ZaY i=2){x:IX}{b off:Nat}(hx:adrI i=some x)(he:ev s.fr x=.loc b off):s'.H=s.H/\∀q,q≠b->bget s'.bx q=bget s.bx q:=by
 cases i with
 |store x' y m=>
  simp only[adrI,Zab]at hx;subst hx;simp only[ZaH,Za0]at h;split at h
  ·cases hw:wrt s.bx s.H (cellsOf (ev s.fr y)) (ev s.fr x')with
   |none=>simp[hw]at h
   |some mm=>
    simp only[hw,Zaa,Zab]at h;subst h;rw[he]at hw;simp only[wrt]at hw;cases hg:bget s.bx b with
    |none=>simp[hg]at hw
    |some c=>
     simp only[hg,Z8]at hw;cases hsp:ZbU off (cellsOf (ev s.fr y)) c with
     |none=>simp[hsp]at hw
     |some c'=>
      simp only[hsp,Zaa,Zab]at hw;subst hw;exact⟨rfl,λq hq=>by simp only[ZcJ];rw[Zai (Ne.symm hq)]⟩
  cases h
 |_=>simp[ZaY]at hk
theorem ZuQ {i:Ins}{s s':St}(h:ZaH P i s s')(hk:ZaY i=4){v:AV}(hs:s'=⟨putO s.fr (dstI i) v,s.bx,s.H⟩){x:IX}{b off:Nat}(hx:adrI i=some x)(he:ev s.fr x=.loc b off)(t:St)(ht:∀x∈Zbg i,get t.fr x=get s.fr x)(hb:bget t.bx b=bget s.bx b):
  ZaH P i t ⟨putO t.fr (dstI i) v,t.bx,t.H⟩:=by
 cases i with
 |loadL d x' m bb=>
  simp only[adrI,Zab]at hx;subst hx;simp only[ZaH,Za0,he]at h;cases hr:rd s.bx [] m (.loc b off)with
  |none=>simp[hr]at h
  |some cs=>
   simp only[hr,Z8]at h;split at h
   rotate_left
   ·cases h
   rename_i hok;cases hmk:mk bb cs with
   |none=>simp[hmk]at h
   |some r=>
    simp only[hmk,Zaa,Zab]at h;subst hs;simp only[dstI,putO,St.mk.injEq,Zad]at h;obtain rfl:=Zl1 h;have hr':rd t.bx [] m (.loc b off)=some cs:=by simp only[rd]at hr⊢;rw[hb];exact hr
    simp only[ZaH,Za0,dstI,putO];rw[ZbP (x:=x') (λq hq=>ht q (by simp[Zbg,ZcT,hq])),he];simp only[hr',Z8,hok,Zak,hmk,Zaa]
 |_=>simp[ZaY]at hk
theorem Zl5 {o:IOp}{s s':St}(h:AOp P o s s')(hk:ZaY o.i≠3)(hK:ioK o=true)(hT:Tops s.fr):∃v bw H',ZZq P o s s' v bw H'/\top v=true:=by
 have hro:∀x,x∈Zbg o.i->x∈Zb4 o:=λx hx=>by simp[Zb4,hx]
 unfold AOp at h;split at h
 ·rename_i hg;obtain⟨hbn,h⟩:=h;obtain⟨v,bw,H',h1,h2,h3,h3b,h3c,h4,h5,h6,h7⟩:=ZsH h hk hK hT;have hbs:∀t:St,(∀x∈Zb4 o,get t.fr x=get s.fr x)->bnOK o t.fr=true:=λt ht=>by rw[ZkH (λx hx=>ht x (hro x hx))];exact hbn
  have hquiet:ZiW (ZaY o.i)->s'=⟨putO s.fr (dstI o.i) v,s.bx,s.H⟩:=λhst=>by obtain⟨rfl,rfl⟩:=h3 hst;exact h1
  refine⟨v,bw,H',⟨h1,λt ht hb e2=>?_,h3,h3b,λhz=>?_,λhz t ht e2=>?_,λhz t e ht hb e2=>?_,λhz b hb=>?_,λhz b hb t ht e=>?_,λhz t ht hb=>?_,λhz t ht=>?_,λq b e=>(h5 q b e).mono hro,λd off e=>(h6 d off e).mono hro⟩,h7⟩
  ·unfold AOp;rw[hg];exact⟨hbs t ht,h2 t (λx hx=>ht x (hro x hx)) (λq hq=>hb q (hq.mono hro)) e2⟩
  ·obtain⟨e,he⟩:=Zz7 h hz;exact⟨e,by rw[h1]at he;exact he⟩
  ·unfold AOp;rw[hg];exact⟨hbs t ht,Ztq h hz (hquiet (.inr (.inr (.inr hz)))) t (λx hx=>ht x (hro x hx)) e2⟩
  ·unfold AOp;rw[hg];exact⟨hbs t ht,Ztr h hz hK (hquiet (hz.elim (λh=>.inr (.inl h)) (λh=>.inr (.inr (.inr h))))) t e (λx hx=>ht x (hro x hx)) (λq hq=>hb q (hq.mono hro)) e2⟩
  ·obtain⟨x,off,hx,he⟩:=ZoF hbn hb;have:=ZsF h hz hx he;rw[h1]at this;exact this
  ·obtain⟨x,off,hx,he⟩:=ZoF hbn hb;unfold AOp;rw[hg];exact⟨hbs t ht,ZuQ h hz (hquiet (.inr (.inr (.inl hz)))) hx he t (λx hx=>ht x (hro x hx)) e⟩
  ·unfold AOp;rw[hg];exact⟨hbs t ht,h3c hz t (λx hx=>ht x (hro x hx)) (λq hq=>hb q (hq.mono hro))⟩
  unfold AOp;rw[hg];exact⟨hbs t ht,h4 hz t (λx hx=>ht x (hro x hx))⟩
 rename_i tg want hg;have hrg:tg∈Zb4 o:=by simp[Zb4,hg]
 split at h
 ·rename_i b hget;split at h
  ·rename_i hb;obtain⟨hbn,h⟩:=h;obtain⟨v,bw,H',h1,h2,h3,h3b,h3c,h4,h5,h6,h7⟩:=ZsH h hk hK hT;have hbs:∀t:St,(∀x∈Zb4 o,get t.fr x=get s.fr x)->bnOK o t.fr=true:=λt ht=>by rw[ZkH (λx hx=>ht x (hro x hx))];exact hbn
   have hquiet:ZiW (ZaY o.i)->s'=⟨putO s.fr (dstI o.i) v,s.bx,s.H⟩:=λhst=>by obtain⟨rfl,rfl⟩:=h3 hst;exact h1
   refine⟨v,bw,H',⟨h1,λt ht hb' e2=>?_,h3,h3b,λhz=>?_,λhz t ht e2=>?_,λhz t e ht hb' e2=>?_,λhz b' hb'=>?_,λhz b' hb' t ht e=>?_,λhz t ht hb'=>?_,λhz t ht=>?_,λq b e=>(h5 q b e).mono hro,λd off e=>(h6 d off e).mono hro⟩,h7⟩
   ·unfold AOp;rw[hg];simp only;rw[ht tg hrg,hget];simp only;rw[Zaj hb];exact⟨hbs t ht,h2 t (λx hx=>ht x (hro x hx)) (λq hq=>hb' q (hq.mono hro)) e2⟩
   ·obtain⟨e,he⟩:=Zz7 h hz;exact⟨e,by rw[h1]at he;exact he⟩
   ·unfold AOp;rw[hg];simp only;rw[ht tg hrg,hget];simp only;rw[Zaj hb];exact⟨hbs t ht,Ztq h hz (hquiet (.inr (.inr (.inr hz)))) t (λx hx=>ht x (hro x hx)) e2⟩
   ·unfold AOp;rw[hg];simp only;rw[ht tg hrg,hget];simp only;rw[Zaj hb];exact⟨hbs t ht,Ztr h hz hK (hquiet (hz.elim (λh=>.inr (.inl h)) (λh=>.inr (.inr (.inr h))))) t e (λx hx=>ht x (hro x hx)) (λq hq=>hb' q (hq.mono hro)) e2⟩
   ·obtain⟨x,off,hx,he⟩:=ZoF hbn hb';have:=ZsF h hz hx he;rw[h1]at this;exact this
   ·obtain⟨x,off,hx,he⟩:=ZoF hbn hb';unfold AOp;rw[hg];simp only;rw[ht tg hrg,hget];simp only;rw[Zaj hb];exact⟨hbs t ht,ZuQ h hz (hquiet (.inr (.inr (.inl hz)))) hx he t (λx hx=>ht x (hro x hx)) e⟩
   ·unfold AOp;rw[hg];simp only;rw[ht tg hrg,hget];simp only;rw[Zaj hb];exact⟨hbs t ht,h3c hz t (λx hx=>ht x (hro x hx)) (λq hq=>hb' q (hq.mono hro))⟩
   unfold AOp;rw[hg];simp only;rw[ht tg hrg,hget];simp only;rw[Zaj hb];exact⟨hbs t ht,h4 hz t (λx hx=>ht x (hro x hx))⟩
  rename_i hb;subst h;refine⟨.nl .unit,none,s.H,⟨rfl,λt ht _ e2=>?_,λ_=>⟨rfl,rfl⟩,λ_=>rfl,λ_=>⟨[],by simp⟩,λhz t ht _=>?_,λhz t e ht _ e2=>?_,λ_ _ _=>⟨rfl,λ_ _=>rfl⟩,λhz b' hb' t ht _=>?_,λhz t ht _=>?_,λhz t ht=>?_,λq b e=>(by cases e),λd off e=>(by cases e)⟩,rfl⟩
  ·unfold AOp;rw[hg];simp only;rw[ht tg hrg,hget];simp only;rw[Zai hb,e2];rfl
  ·unfold AOp;rw[hg];simp only;rw[ht tg hrg,hget];simp only;rw[Zai hb];trivial
  ·unfold AOp;rw[hg];simp only;rw[ht tg hrg,hget];simp only;rw[Zai hb];trivial
  ·unfold AOp;rw[hg];simp only;rw[ht tg hrg,hget];simp only;rw[Zai hb];trivial
  ·unfold AOp;rw[hg];simp only;rw[ht tg hrg,hget];simp only;rw[Zai hb];trivial
  unfold AOp;rw[hg];simp only;rw[ht tg hrg,hget];simp only;rw[Zai hb];trivial
 ·rename_i hget;subst h;refine⟨.nl .unit,none,s.H,⟨rfl,λt ht _ e2=>?_,λ_=>⟨rfl,rfl⟩,λ_=>rfl,λ_=>⟨[],by simp⟩,λhz t ht _=>?_,λhz t e ht _ e2=>?_,λ_ _ _=>⟨rfl,λ_ _=>rfl⟩,λhz b' hb' t ht _=>?_,λhz t ht _=>?_,λhz t ht=>?_,λq b e=>(by cases e),λd off e=>(by cases e)⟩,rfl⟩
  ·unfold AOp;rw[hg];simp only;rw[ht tg hrg,hget];simp only;rw[e2];rfl
  ·unfold AOp;rw[hg];simp only;rw[ht tg hrg,hget];trivial
  ·unfold AOp;rw[hg];simp only;rw[ht tg hrg,hget];trivial
  ·unfold AOp;rw[hg];simp only;rw[ht tg hrg,hget];trivial
  ·unfold AOp;rw[hg];simp only;rw[ht tg hrg,hget];trivial
  unfold AOp;rw[hg];simp only;rw[ht tg hrg,hget];trivial
 exact h.elim
def newD:Ins->Option Nat
 |.newL d _|.boxL d _=>some d
 |_=>none
theorem ZkY {o:IOp}{s s':St}(hg:o.g=none){d:Nat}(hd:newD o.i=some d)(h:AOp P o s s'):
  dstI o.i=some d/\∃cs,s'=⟨put (Zf2 d s.fr) d (.loc d 0),bput s.bx d cs,s.H⟩∧
   ∀t:St,(∀x∈Zb4 o,get t.fr x=get s.fr x)->AOp P o t ⟨put (Zf2 d t.fr) d (.loc d 0),bput t.bx d cs,t.H⟩:=by
 unfold AOp at h;rw[hg]at h;obtain⟨hbn,h⟩:=h;have hbs:∀t:St,(∀x∈Zb4 o,get t.fr x=get s.fr x)->bnOK o t.fr=true:=λt ht=>by rw[ZkH (λx hx=>ht x (by simp[Zb4,hx]))];exact hbn
 obtain⟨g,i,pre,bn⟩:=o;simp only at hg h hd;subst hg;cases i<;>simp only[newD,Zab,reduceCtorEq]at hd
 ·rename_i d' z;subst hd;simp only[ZaH,Za0,Zab]at h;exact⟨rfl,z,h.symm,λt ht=>⟨hbs t ht,rfl⟩⟩
 rename_i d' x;subst hd;simp only[ZaH,Za0]at h;split at h
 ·rename_i hcond;simp only[Zab]at h;refine⟨rfl,_,h.symm,λt ht=>?_⟩;have e:ev t.fr x=ev s.fr x:=ZbP λq hq=>ht q (by simp[Zb4,Zbg,ZcT,hq])
  refine⟨hbs t ht,?_⟩;show ZaH P (.boxL d' x) t _;simp only[ZaH,Za0,e,Zaj hcond]
 cases h
theorem ZxY {i:Ins}{d:Nat}(h:newD i=some d):dstI i=some d:=by
 cases i<;>simp_all[newD,dstI]
theorem Zq7 {i:Ins}(h:ZaY i=3):∃d,newD i=some d:=by
 cases i<;>simp_all[ZaY,newD]
theorem Zd8 {d:Nat}{fr:List (Nat×AV)}(h:ZnI d fr){u:Nat}(hu:u≠d):get (Zf2 d fr) u=get fr u:=by
 rw[Zd9];split
 ·rename_i t' o e;split
  ·rename_i ht;subst ht;exact absurd e (h u o hu)
  exact e.symm
 rfl
theorem Zh0 {fr:List (Nat×AV)}{d:Option Nat}{v:AV}{l:List Nat}(h:ZlK d l=true):∀x∈l,get (putO fr d v) x=get fr x:=by
 intro x hx;cases d with
 |none=>rfl
 |some d=>
  simp only[putO,Zbr];rw[Zai];rintro rfl;simp only[ZlK,Zh,List.elem_eq_mem,decide_eq_false_iff_not]at h;exact h hx
theorem ZcQ {fr:List (Nat×AV)}{d e:Option Nat}{v u:AV}(h:(match d,e with|some d,some e=>decide (d≠e)|_,_=>true)=true)(x:Nat):
  get (putO (putO fr d v) e u) x=get (putO (putO fr e u) d v) x:=by
 cases d with
 |none=>rfl
 |some d=>
  cases e with
  |none=>rfl
  |some e=>
   simp only[Zag]at h;simp only[putO,Zbr];by_cases h1:e=x<;>by_cases h2:d=x
   ·exact absurd (h2.trans h1.symm) h
   ·simp[h1,h2]
   ·simp[h1,h2]
   simp[h1,h2]
theorem Zv8 {bx bx':List (Nat×List AV)}{bw:Option (Nat×List AV)}(h:∀x,bget bx x=bget bx' x)(x:Nat):bget (Zge bx bw) x=bget (Zge bx' bw) x:=by
 cases bw with
 |none=>exact h x
 |some p=>obtain⟨q,b⟩:=p;simp only[Zge,ZcJ,h x]
theorem Zqc {bx:List (Nat×List AV)}{bw:Option (Nat×List AV)}{d:Nat}{cs:List AV}(h:∀q b,bw=some (q,b)->q≠d)(x:Nat):bget (Zge (bput bx d cs) bw) x=bget (bput (Zge bx bw) d cs) x:=by
 cases bw with
 |none=>rfl
 |some p=>
  obtain⟨q,b⟩:=p;have:=h q b rfl;simp only[Zge,ZcJ];by_cases h1:q=x<;>by_cases h2:d=x
  ·exact absurd (h1.trans h2.symm) this
  ·simp[h1,h2]
  ·simp[h1,h2]
  simp[h1,h2]
theorem Zh2 {d:Nat}{l:List Nat}(h:ZlK (some d) l=true):d∉l:=by
 simpa[ZlK]using h
theorem Zr6 {fr:List (Nat×AV)}{l:List Nat}{d q:Nat}(hc:ZnI d fr)(hd:d∉l)(h:Zj1 fr l q):q≠d:=by
 rintro rfl;obtain⟨x,h1,o,h2⟩:=h;exact hc x o (λe=>hd (e▸h1)) h2
theorem ZpS {fr:List (Nat×AV)}{e:Option Nat}{v:AV}{u:Nat}(h:e≠some u):get (putO fr e v) u=get fr u:=by
 cases e with
 |none=>rfl
 |some e=>simp only[putO,Zbr];rw[Zai (λh'=>h (by rw[h']))]
theorem Tops.putO {fr:List (Nat×AV)}(h:Tops fr){e:Option Nat}{v:AV}(hv:top v=true):Tops (putO fr e v):=by
 intro t;cases e with
 |none=>exact h t
 |some e=>
  simp only[Eng.putO,Zbr];split
  ·exact hv
  exact h t
theorem Tops.new {fr:List (Nat×AV)}(h:Tops fr)(d:Nat):Tops (put (Zf2 d fr) d (.loc d 0)):=by
 intro t;simp only[Zbr,Zd9];split
 ·rfl
 have ht:=h t;generalize get fr t=x at ht;cases x with
 |loc t' o=>simp only;split<;>rfl
 |_=>simpa using ht
theorem AOp.tops {o:IOp}{s s':St}(h:AOp P o s s')(hg:ZaY o.i=3->o.g=none)(hK:ioK o=true)(hT:Tops s.fr):Tops s'.fr:=by
 by_cases hk:ZaY o.i=3
 ·obtain⟨d,hd⟩:=Zq7 hk;obtain⟨_,cs,e,_⟩:=ZkY (hg hk) hd h;rw[e];exact hT.new d
 obtain⟨v,bw,H',sh,hv⟩:=Zl5 h hk hK hT;rw[sh.out];exact hT.putO hv
theorem ZiI {d:Nat}{xx:IX}{m:Nat}{b:Bool}{zs:List IX}{s s':St}:ZaH P (.loadN d xx m b zs) s s'↔∃id off r,ev s.fr xx=.ptr id off/\(zs.map (ev s.fr)).all (ZtK id)=true∧
  ((rd [] s.H m (.ptr id off)).bind λcs=>if ZaL cs=true then mk b cs else none)=some r/\s'=⟨put s.fr d r,s.bx,s.H⟩:=by
 simp only[ZaH,Za0];constructor
 ·intro h;split at h
  ·rename_i id off hx;split at h
   ·rename_i hz;cases hr:rd [] s.H m (.ptr id off)with
    |none=>rw[hr]at h;cases h
    |some cs=>
     rw[hr,Z8]at h;split at h
     ·rename_i hok;cases hmk:mk b cs with
      |none=>rw[hmk]at h;cases h
      |some r=>
       rw[hmk]at h;simp only[Zaa,Zab]at h;exact⟨id,off,r,hx,hz,by rw[hr,Z8,Zaj hok,hmk],h.symm⟩
     cases h
   cases h
  cases h
 rintro⟨id,off,r,hx,hz,hr,rfl⟩;rw[hx];simp only;rw[Zaj hz];obtain⟨cs,h1,h2⟩:=Option.bind_eq_some_iff.1 hr;split at h2
 ·rename_i hok;rw[h1,Z8,Zaj hok,h2];rfl
 cases h2
theorem Zpm {H H':List HO}{id off m:Nat}(h:H'[id]?=H[id]?):rd [] H' m (.ptr id off)=rd [] H m (.ptr id off):=by
 simp only[rd,h]
theorem ZnP {H:List HO}{id off m:Nat}{cs:List AV}(h:rd [] H m (.ptr id off)=some cs):∃c0,H[id]?=some (.cells c0):=by
 simp only[rd]at h;split at h
 ·exact⟨_,by assumption⟩
 cases h
theorem Zv9 {H H':List HO}{sz bytes:Nat}{a v:AV}{new:List (List PC)}(h:appV H sz bytes a new=some (v,H')){id:Nat}{c0:List AV}(hc:H[id]?=some (.cells c0)∨H'[id]?=some (.cells c0)):H'[id]?=H[id]?:=by
 have key:∀o:HO,(∀c,o≠.cells c)->(H++[o])[id]?=some (.cells c0)∨H[id]?=some (.cells c0)->(H++[o])[id]?=H[id]?:=by
  intro o ho hc;by_cases hlt:id<H.length
  ·rw[ZA hlt]
  rcases hc with hc|hc
  ·rw[ZB (by omega)]at hc;cases he:id-H.length with
   |zero=>rw[he]at hc;simp at hc;exact absurd hc (ho c0)
   |succ k=>rw[he]at hc;simp at hc
  rw[ZG (by omega)]at hc;cases hc
 unfold appV at h;split at h
 ·split at h
  ·split at h
   ·simp only[Zab,Zac]at h;rw[←h.2]
   simp only[Zab,Zac]at h;rw[←h.2]at hc⊢;exact key _ (λc e=>by cases e) hc.symm
  cases h
 ·rename_i sz0 q ver off len;split at h
  ·rename_i sz' ver' frz rows hq;split at h
   ·simp only[Zab,Zac]at h;rw[←h.2]at hc⊢;rw[ZJ]at hc⊢;by_cases e:q=id
    ·subst e;rw[hq]at hc;rw[Zaj rfl]at hc;split at hc<;>simp at hc
    rw[Zai e]
   cases h
  cases h
 cases h
theorem Zmg {d:Nat}{xx:IX}{m:Nat}{b:Bool}{zs:List IX}{i:Ins}(hi:(∃e u v sz by_,i=.app e u v sz by_)∨∃z v k,i=.storeH z v k/\memT z zs=true)(h1:ZlK (some d) (Zbg i)=true)(h2:ZlK (dstI i) (Zbg (.loadN d xx m b zs))=true)
  (hd:∀e,dstI i=some e->d≠e) {s s1 s2:St}:(ZaH P (.loadN d xx m b zs) s s1->ZaH P i s1 s2->∃t1 t2,ZaH P i s t1/\ZaH P (.loadN d xx m b zs) t1 t2/\Eqv t2 s2)∧
  (ZaH P i s s1->ZaH P (.loadN d xx m b zs) s1 s2->∃t1 t2,ZaH P (.loadN d xx m b zs) s t1/\ZaH P i t1 t2/\Eqv t2 s2):=by
 have hreads:∀(fr:List (Nat×AV)) (r:AV) q,q∈Zbg i->get (put fr d r) q=get fr q:=λfr r q hq=>Zh0 (d:=some d) (fr:=fr) (v:=r) h1 q hq
 have hreadsL:∀(fr:List (Nat×AV)) (r:AV) q,q∈Zbg (.loadN d xx m b zs)->get (putO fr (dstI i) r) q=get fr q:=λfr r q hq=>Zh0 h2 q hq
 have evx:∀(fr:List (Nat×AV)) (r:AV),ev (putO fr (dstI i) r) xx=ev fr xx:=λfr r=>ZbP (λq hq=>hreadsL fr r q (by simp[Zbg,ZcT,hq]))
 have evz:∀(fr:List (Nat×AV)) (r:AV),zs.map (ev (putO fr (dstI i) r))=zs.map (ev fr):=λfr r=>ZdV (λq hq=>hreadsL fr r q (List.mem_append_right _ hq))
 obtain⟨F,hF,hFc⟩:∃F:List (Nat×AV)->List HO->List (Nat×List AV)->AV->List HO->Prop,(∀t t',ZaH P i t t'↔∃v H',F t.fr t.H t.bx v H'/\t'=⟨putO t.fr (dstI i) v,t.bx,H'⟩)∧
   ∀(fr:List (Nat×AV)) (H:List HO) bx v H',F fr H bx v H'->(∀r,F (put fr d r) H bx v H')/\(∀r fr0,fr=put fr0 d r->F fr0 H bx v H')∧
    ∀id off c0,(zs.map (ev fr)).all (ZtK id)=true->(H[id]?=some (.cells c0)∨H'[id]?=some (.cells c0))->H'[id]?=H[id]?:=by
  rcases hi with⟨e,u,v,sz,by_,rfl⟩|⟨z,y,k,rfl,hz⟩
  ·refine⟨λfr H bx a' H'=>Zna (ev fr v)=true/\∃new,Zgw H sz (ev fr v)=some new/\appV H sz by_ (ev fr u) new=some (a',H'),λt t'=>?_,λfr H bx a' H' hf=>?_⟩
   ·simp only[ZaH,Za0];constructor
    ·intro h;split at h
     ·rename_i hs;obtain⟨new,h3,h4⟩:=Option.bind_eq_some_iff.1 h;obtain⟨p,h5,h6⟩:=Option.map_eq_some_iff.1 h4;exact⟨p.1,p.2,⟨hs,new,h3,h5⟩,h6.symm⟩
     cases h
    rintro⟨a',H',⟨hs,new,h3,h4⟩,rfl⟩;rw[Zaj hs,h3,Z8,h4];rfl
   have e1:∀(fr:List (Nat×AV)) (r:AV),ev (put fr d r) u=ev fr u/\ev (put fr d r) v=ev fr v:=λfr r=>⟨ZbP (λq hq=>hreads fr r q (by simp[Zbg,ZcT,hq])),ZbP (λq hq=>hreads fr r q (by simp[Zbg,ZcT,hq]))⟩
   refine⟨λr=>?_,λr fr0 e0=>?_,λid off c0 _ hc=>?_⟩
   ·simp only[(e1 fr r).1,(e1 fr r).2];exact hf
   ·subst e0;simp only[(e1 fr0 r).1,(e1 fr0 r).2]at hf;exact hf
   obtain⟨_,new,_,h4⟩:=hf;exact Zv9 h4 hc
  refine⟨λfr H bx a' H'=>a'=.any/\ZqP (ev fr z)=false/\(cellsOf (ev fr y)).length=k/\ZaL (cellsOf (ev fr y))=true/\wrt bx H (cellsOf (ev fr y)) (ev fr z)=some ⟨bx,H'⟩,λt t'=>?_,λfr H bx a' H' hf=>?_⟩
  ·simp only[ZaH,Za0];constructor
   ·intro h;split at h
    ·rename_i hs;obtain⟨m,h3,h4⟩:=Option.map_eq_some_iff.1 h;obtain⟨e1,e2⟩:=ZuA hs.1 h3;refine⟨.any,m.H,⟨rfl,hs.1,hs.2.1,hs.2.2,?_⟩,?_⟩
     ·exact e2 _
     rw[←h4,e1];rfl
    cases h
   rintro⟨a',H',⟨_,h1,h2,h3,h4⟩,rfl⟩;rw[Zaj ⟨h1,h2,h3⟩,h4];rfl
  have e1:∀(fr:List (Nat×AV)) (r:AV),ev (put fr d r) z=ev fr z/\ev (put fr d r) y=ev fr y:=λfr r=>⟨ZbP (λq hq=>hreads fr r q (by simp[Zbg,ZcT,hq])),ZbP (λq hq=>hreads fr r q (by simp[Zbg,ZcT,hq]))⟩
  refine⟨λr=>?_,λr fr0 e0=>?_,λid off c0 hap _=>?_⟩
  ·simp only[(e1 fr r).1,(e1 fr r).2];exact hf
  ·subst e0;simp only[(e1 fr0 r).1,(e1 fr0 r).2]at hf;exact hf
  obtain⟨_,_,_,_,h4⟩:=hf;have hz2:ZtK id (ev fr z)=true:=by
   unfold memT at hz;split at hz
   ·rename_i u;obtain⟨q,hq,hq2⟩:=List.any_eq_true.1 hz;split at hq2
    ·rename_i u';simp only[Zag]at hq2;subst hq2;exact List.all_eq_true.1 hap _ (List.mem_map.2 ⟨_,hq,rfl⟩)
    cases hq2
   cases hz
  unfold ZtK at hz2;split at hz2
  ·rename_i id' off' he;simp only[Zag]at hz2;rw[he]at h4;simp only[wrt]at h4;split at h4
   ·obtain⟨b',h5,h6⟩:=Option.map_eq_some_iff.1 h4;simp only[Mem.mk.injEq,true_and]at h6;rw[←h6,ZK hz2]
   cases h4
  cases hz2
 constructor
 ·intro a1 a2;obtain⟨id,off,r,e1,e2,e3,rfl⟩:=ZiI.1 a1;obtain⟨v,H',f1,rfl⟩:=(hF _ _).1 a2;have f2:=(hFc _ _ _ _ _ f1).2.1 r s.fr rfl;obtain⟨cs,hcs,_⟩:=Option.bind_eq_some_iff.1 e3;obtain⟨c0,hc0⟩:=ZnP hcs;have hsame:=(hFc _ _ _ _ _ f2).2.2 id off c0 e2 (.inl hc0);refine⟨_,_,(hF _ _).2 ⟨v,H',f2,rfl⟩,ZiI.2 ⟨id,off,r,by rw[evx];exact e1,by rw[evz];exact e2,by rw[Zpm hsame];exact e3,rfl⟩,λq=>?_,λ_=>rfl,rfl⟩;exact(ZcQ (d:=some d) (e:=dstI i) (by
   cases he:dstI i with
   |none=>rfl
   |some e=>simpa using hd e he) q).symm
 intro a1 a2;obtain⟨v,H',f1,rfl⟩:=(hF _ _).1 a1;obtain⟨id,off,r,e1,e2,e3,rfl⟩:=ZiI.1 a2;rw[evx]at e1;rw[evz]at e2;obtain⟨cs,hcs,_⟩:=Option.bind_eq_some_iff.1 e3;obtain⟨c0,hc0⟩:=ZnP hcs;have hsame:=(hFc _ _ _ _ _ f1).2.2 id off c0 e2 (.inr hc0);have f2:=(hFc _ _ _ _ _ f1).1 r;refine⟨_,_,ZiI.2 ⟨id,off,r,e1,e2,by rw[←Zpm hsame];exact e3,rfl⟩,(hF _ _).2 ⟨v,H',f2,rfl⟩,λq=>?_,λ_=>rfl,rfl⟩;exact ZcQ (d:=some d) (e:=dstI i) (by
  cases he:dstI i with
  |none=>rfl
  |some e=>simpa using hd e he) q
theorem Zvr {x y:IOp}(hc:Zu6 x y=true)(hf1:ZlK (dstI x.i) (Zb4 y)=true)(hf2:ZlK (dstI y.i) (Zb4 x)=true)(hd:(match dstI x.i,dstI y.i with
  |some d,some e=>decide (d≠e)
  |_,_=>true)=true){s s1 s2:St}(h1:AOp P x s s1)(h2:AOp P y s1 s2):∃t1 t2,AOp P y s t1/\AOp P x t1 t2/\Eqv t2 s2:=by
 simp only[Zu6,Ze,Option.isNone_iff_eq_none]at hc;obtain⟨⟨gx,gy⟩,hm⟩:=hc;have rx:Zb4 x=Zbg x.i:=by simp[Zb4,gx]
 have ry:Zb4 y=Zbg y.i:=by simp[Zb4,gy]
 rw[ry]at hf1;rw[rx]at hf2;have ux:∀t t',AOp P x t t'↔bnOK x t.fr=true/\ZaH P x.i t t':=λt t'=>by unfold AOp Zvk;rw[gx]
 have uy:∀t t',AOp P y t t'↔bnOK y t.fr=true/\ZaH P y.i t t':=λt t'=>by unfold AOp Zvk;rw[gy]
 obtain⟨b1,a1⟩:=(ux _ _).1 h1;obtain⟨b2,a2⟩:=(uy _ _).1 h2;have fin:(∃t1 t2,ZaH P y.i s t1/\ZaH P x.i t1 t2/\Eqv t2 s2)->(∀t t',ZaH P x.i t t'->∃v,t'.fr=putO t.fr (dstI x.i) v)->(∀t t',ZaH P y.i t t'->∃v,t'.fr=putO t.fr (dstI y.i) v)->∃t1 t2,AOp P y s t1/\AOp P x t1 t2/\Eqv t2 s2:=by
  rintro⟨t1,t2,c1,c2,c3⟩ px py;obtain⟨v,ev1⟩:=px _ _ a1;obtain⟨u,ev2⟩:=py _ _ c1;refine⟨t1,t2,(uy _ _).2 ⟨?_,c1⟩,(ux _ _).2 ⟨?_,c2⟩,c3⟩
  ·rw[←b2,ev1];exact(ZkH λq hq=>Zh0 hf1 q hq).symm
  rw[←b1,ev2];exact ZkH λq hq=>Zh0 hf2 q hq
 have shL:∀(d:Nat) (xx:IX) (m:Nat) (b:Bool) (zs:List IX) (t t':St),ZaH P (.loadN d xx m b zs) t t'->∃v,t'.fr=putO t.fr (some d) v:=λd xx m b zs t t' h=>by
  obtain⟨_,_,r,_,_,_,rfl⟩:=ZiI.1 h;exact⟨r,rfl⟩
 have shA:∀(e:Nat) (u v:IX) (sz by_:Nat) (t t':St),ZaH P (.app e u v sz by_) t t'->∃w,t'.fr=putO t.fr (some e) w:=λe u v sz by_ t t' h=>by
  simp only[ZaH,Za0]at h;split at h
  ·obtain⟨new,h3,h4⟩:=Option.bind_eq_some_iff.1 h;obtain⟨p,h5,h6⟩:=Option.map_eq_some_iff.1 h4;exact⟨p.1,by rw[←h6];rfl⟩
  cases h
 have shS:∀(z v:IX) (k:Nat) (t t':St),ZaH P (.storeH z v k) t t'->∃w,t'.fr=putO t.fr none w:=λz v k t t' h=>by
  simp only[ZaH,Za0]at h;split at h
  ·obtain⟨m,h3,h4⟩:=Option.map_eq_some_iff.1 h;exact⟨.any,by rw[←h4];rfl⟩
  cases h
 generalize x.i=xi at*;generalize y.i=yi at*;split at hm
 ·rename_i d xx m b zs e u v sz by_;exact fin ((Zmg (P:=P) (.inl ⟨_,_,_,_,_,rfl⟩) hf1 hf2 (λe' he=>by simp only[dstI,Zab]at he;subst he;simpa[dstI]using hd)).1 a1 a2) (shL _ _ _ _ _) (shA _ _ _ _ _)
 ·rename_i e u v sz by_ d xx m b zs;exact fin ((Zmg (P:=P) (.inl ⟨_,_,_,_,_,rfl⟩) hf2 hf1 (λe' he=>by simp only[dstI,Zab]at he;subst he;exact Ne.symm (show e≠d by simpa[dstI]using hd))).2 a1 a2) (shA _ _ _ _ _) (shL _ _ _ _ _)
 ·rename_i d xx m b zs z v k;exact fin ((Zmg (P:=P) (.inr ⟨_,_,_,rfl,hm⟩) hf1 hf2 (λe' he=>by simp[dstI]at he)).1 a1 a2) (shL _ _ _ _ _) (shS _ _ _)
 ·rename_i z v k d xx m b zs;exact fin ((Zmg (P:=P) (.inr ⟨_,_,_,rfl,hm⟩) hf2 hf1 (λe' he=>by simp[dstI]at he)).2 a1 a2) (shS _ _ _) (shL _ _ _ _ _)
 cases hm
theorem swap {x y:IOp}(hi:ZvX x y=true)(hgx:ZaY x.i=3->x.g=none)(hgy:ZaY y.i=3->y.g=none)(hKx:ioK x=true)(hKy:ioK y=true){s s1 s2:St}(hT:Tops s.fr)
  (hcx:∀d,newD x.i=some d->ZnI d s.fr) (hcy:∀d,newD y.i=some d->ZnI d s.fr)
  (h1:AOp P x s s1) (h2:AOp P y s1 s2):∃t1 t2,AOp P y s t1/\AOp P x t1 t2/\Eqv t2 s2:=by
 have hT1:Tops s1.fr:=h1.tops hgx hKx hT;simp only[ZvX,Ze]at hi;obtain⟨⟨⟨hk,hf1⟩,hf2⟩,hd⟩:=hi;rw[Zj]at hk;by_cases hcell:Zu6 x y=true
 ·exact Zvr hcell hf1 hf2 hd h1 h2
 replace hk:=hk.resolve_right hcell;by_cases hx3:ZaY x.i=3
 ·obtain⟨d,hnd⟩:=Zq7 hx3;have hcl:=hcx d hnd;obtain⟨hdx,cs,e1,again1⟩:=ZkY (hgx hx3) hnd h1;rw[hdx]at hf1 hd;have hdy:=Zh2 hf1;by_cases hky:ZaY y.i=3
  ·obtain⟨e,hne⟩:=Zq7 hky;have hcle:=hcy e hne;obtain⟨hdy',cs',e2,again2⟩:=ZkY (hgy hky) hne h2;rw[hdy']at hf2 hd;have hex:=Zh2 hf2;simp only[Zag]at hd;subst e1 e2;have a1:=again2 s (λq hq=>by
    have hnq:d≠q:=λe=>hdy (e▸hq)
    simp only[Zbr];rw[Zai hnq,Zd8 hcl (Ne.symm hnq)])
   have a2:=again1 ⟨put (Zf2 e s.fr) e (.loc e 0),bput s.bx e cs',s.H⟩ (λq hq=>by
    have hnq:e≠q:=λh=>hex (h▸hq)
    simp only[Zbr];rw[Zai hnq,Zd8 hcle (Ne.symm hnq)])
   refine⟨_,_,a1,a2,λq=>?_,λq=>?_,rfl⟩
   ·have hget:∀(a b:Nat),a≠b->ZnI a s.fr->ZnI b s.fr->∀q,get (put (Zf2 a (put (Zf2 b s.fr) b (.loc b 0))) a (.loc a 0)) q=if q=a then .loc a 0 else if q=b then .loc b 0 else get s.fr q:=by
     intro a b hab ha hb q;simp only[Zbr];by_cases h1:a=q
     ·subst h1;simp
     rw[Zai h1,Zai (Ne.symm h1),Zd9];simp only[Zbr];by_cases h2:b=q
     ·subst h2;simp[Ne.symm hab]
     simp only[Zai h2,Zai (Ne.symm h2)];rw[Zd8 hb (Ne.symm h2)];split
     ·rename_i t' o ht;split
      ·rename_i e;subst e;exact absurd ht (ha q o (Ne.symm h1))
      exact ht.symm
     rfl
    show get (put (Zf2 d (put (Zf2 e s.fr) e (.loc e 0))) d (.loc d 0)) q=get (put (Zf2 e (put (Zf2 d s.fr) d (.loc d 0))) e (.loc e 0)) q;rw[hget d e hd hcl hcle,hget e d (Ne.symm hd) hcle hcl];by_cases h1:q=d
    ·subst h1;simp[hd]
    simp[h1]
   show bget (bput (bput s.bx e cs') d cs) q=bget (bput (bput s.bx d cs) e cs') q;simp only[ZcJ];by_cases h1:d=q
   ·subst h1;simp[Ne.symm hd]
   simp[h1]
  obtain⟨v,bw,H',sy,_⟩:=Zl5 h2 hky hKy hT1;subst e1;have hreads:∀q∈Zb4 y,get s.fr q=get (put (Zf2 d s.fr) d (.loc d 0)) q:=λq hq=>by
   have hne:d≠q:=λe=>hdy (e▸hq)
   rw[Zbr,Zai hne,Zd8 hcl (Ne.symm hne)]
  have hnames:∀q,Zj1 (put (Zf2 d s.fr) d (.loc d 0)) (Zb4 y) q->q≠d:=λq ⟨x,hx,o,ho⟩=>by
   rw[←hreads x hx]at ho;exact Zr6 hcl hdy ⟨x,hx,o,ho⟩
  have a1:=sy.again s hreads (λq hq=>by simp only[ZcJ];rw[Zai (Ne.symm (hnames q hq))]) rfl;refine⟨_,_,a1,again1 ⟨putO s.fr (dstI y.i) v,Zge s.bx bw,H'⟩ (λq hq=>Zh0 hf2 q hq),?_⟩;rw[sy.out];have hv:∀off,v≠.loc d off:=λoff e=>absurd rfl (hnames d (sy.src d off e))
  have hne:dstI y.i≠some d:=by
   intro e;rw[e]at hd;simp at hd
  refine⟨λq=>?_,λq=>(Zqc (λq b e=>hnames q (sy.named q b e)) q).symm,rfl⟩;simp only[Zbr];by_cases hq:d=q
  ·subst hq;rw[Zaj rfl,ZpS hne,Zbr,Zaj rfl]
  rw[Zai hq];cases hdy':dstI y.i with
  |none=>
   simp only[putO];rw[Zbr,Zai hq]
  |some e=>
   simp only[putO];rw[Zd9,Zbr,Zbr,Zbr];by_cases he:e=q
   ·simp only[he,Zak];cases v with
    |loc t' o=>
     simp only;rw[Zai (λe=>hv o (by rw[e]))]
    |_=>rfl
   simp only[he,Zah,Zai hq];rw[Zd9]
 by_cases hy3:ZaY y.i=3
 ·obtain⟨d,hnd⟩:=Zq7 hy3;have hcl:=hcy d hnd;obtain⟨v,bw,H',sx,_⟩:=Zl5 h1 hx3 hKx hT;obtain⟨hdy,cs,e2,again2⟩:=ZkY (hgy hy3) hnd h2;rw[hdy]at hf2 hd;have hdx:=Zh2 hf2;have e1:=sx.out;subst e1;subst e2;have a1:=again2 s (λq hq=>(Zh0 hf1 q hq).symm);have hreads:∀q∈Zb4 x,get (put (Zf2 d s.fr) d (.loc d 0)) q=get s.fr q:=λq hq=>by
   have hne:d≠q:=λe=>hdx (e▸hq)
   rw[Zbr,Zai hne,Zd8 hcl (Ne.symm hne)]
  have hnames:∀q,Zj1 s.fr (Zb4 x) q->q≠d:=λq hq=>Zr6 hcl hdx hq
  have a2:=sx.again ⟨put (Zf2 d s.fr) d (.loc d 0),bput s.bx d cs,s.H⟩ hreads (λq hq=>by simp only[ZcJ];rw[Zai (Ne.symm (hnames q hq))]) rfl;refine⟨_,_,a1,a2,?_⟩;have hv:∀off,v≠.loc d off:=λoff e=>absurd rfl (hnames d (sx.src d off e))
  have hne:dstI x.i≠some d:=by
   intro e;rw[e]at hd;simp at hd
  refine⟨λq=>?_,λq=>Zqc (λq b e=>hnames q (sx.named q b e)) q,rfl⟩;simp only[Zbr];by_cases hq:d=q
  ·subst hq;rw[Zaj rfl,ZpS hne,Zbr,Zaj rfl]
  rw[Zai hq];cases hdx':dstI x.i with
  |none=>
   simp only[putO];rw[Zbr,Zai hq]
  |some e=>
   simp only[putO];rw[Zd9,Zbr,Zbr,Zbr];by_cases he:e=q
   ·simp only[he,Zak];cases v with
    |loc t' o=>
     simp only;rw[Zai (λe=>hv o (by rw[e]))]
    |_=>rfl
   simp only[he,Zah,Zai hq];rw[Zd9]
 obtain⟨v,bw,H',sx,hvt⟩:=Zl5 h1 hx3 hKx hT;have e1:=sx.out;subst e1;obtain⟨u,bw',H'',sy,_⟩:=Zl5 h2 hy3 hKy hT1;have e2:=sy.out;subst e2;have hsy:∀q∈Zb4 y,get s.fr q=get (putO s.fr (dstI x.i) v) q:=λq hq=>(Zh0 hf1 q hq).symm
 have hsx:∀(q:Nat),q∈Zb4 x->get (putO s.fr (dstI y.i) u) q=get s.fr q:=λq hq=>Zh0 hf2 q hq
 by_cases hx0:ZaY x.i=0
 ·obtain⟨rfl,rfl⟩:=sx.quiet (.inl hx0);refine⟨_,_,sy.again s hsy (λq _=>rfl) rfl,sx.blind hx0 ⟨putO s.fr (dstI y.i) u,Zge s.bx bw',H''⟩ hsx,?_⟩;exact⟨λq=>(ZcQ hd q).symm,λ_=>rfl,rfl⟩
 by_cases hy0:ZaY y.i=0
 ·obtain⟨rfl,rfl⟩:=sy.quiet (.inl hy0);refine⟨_,_,sy.blind hy0 s hsy,sx.again ⟨putO s.fr (dstI y.i) u,s.bx,s.H⟩ hsx (λ_ _=>rfl) rfl,?_⟩;exact⟨λq=>(ZcQ hd q).symm,λ_=>rfl,rfl⟩
 have hcases:((ZiW (ZaY x.i)/\ZiW (ZaY y.i))∨(ZaY x.i=4/\ZaY y.i=5)∨(ZaY x.i=5/\ZaY y.i=4))∨((ZaY x.i=4/\ZaY y.i=6)∨(ZaY x.i=6/\ZaY y.i=4))∨((ZaY x.i=1∨ZaY x.i=7)/\ZaY y.i=6)∨Zus x y=true∨Zw1 x y=true:=by
  simp only[Zj]at hk;rcases hk with(hk|hk)|hk
  ·unfold ZwW at hk;split at hk<;>simp_all[ZiW]
  ·exact .inr (.inr (.inr (.inl hk)))
  exact .inr (.inr (.inr (.inr hk)))
 rcases hcases with(⟨hx1,hy1⟩|⟨hx4,hy5⟩|⟨hx5,hy4⟩)|(⟨hx4,hy5⟩|⟨hx5,hy4⟩)|⟨hx1,hy6⟩|hbx|hhp
 ·obtain⟨rfl,rfl⟩:=sx.quiet hx1;obtain⟨rfl,rfl⟩:=sy.quiet hy1;refine⟨_,_,sy.again s hsy (λq _=>rfl) rfl,sx.again ⟨putO s.fr (dstI y.i) u,s.bx,s.H⟩ hsx (λ_ _=>rfl) rfl,?_⟩;exact⟨λq=>(ZcQ hd q).symm,λ_=>rfl,rfl⟩
 ·obtain⟨rfl,rfl⟩:=sx.quiet (.inr (.inr (.inl hx4)));have hb:=sy.boxed (.inl hy5);subst hb;refine⟨_,_,sy.again s hsy (λq _=>rfl) rfl,sx.local4 hx4 ⟨putO s.fr (dstI y.i) u,s.bx,H''⟩ hsx (λ_ _=>rfl),?_⟩;exact⟨λq=>(ZcQ hd q).symm,λ_=>rfl,rfl⟩
 ·have hb:=sx.boxed (.inl hx5);subst hb;obtain⟨rfl,rfl⟩:=sy.quiet (.inr (.inr (.inl hy4)));refine⟨_,_,sy.local4 hy4 s hsy (λ_ _=>rfl),sx.again ⟨putO s.fr (dstI y.i) u,s.bx,s.H⟩ hsx (λ_ _=>rfl) rfl,?_⟩;exact⟨λq=>(ZcQ hd q).symm,λ_=>rfl,rfl⟩
 ·obtain⟨rfl,rfl⟩:=sx.quiet (.inr (.inr (.inl hx4)));have hb:=sy.boxed (.inr hy5);subst hb;refine⟨_,_,sy.again s hsy (λq _=>rfl) rfl,sx.local4 hx4 ⟨putO s.fr (dstI y.i) u,s.bx,H''⟩ hsx (λ_ _=>rfl),?_⟩;exact⟨λq=>(ZcQ hd q).symm,λ_=>rfl,rfl⟩
 ·have hb:=sx.boxed (.inr hx5);subst hb;obtain⟨rfl,rfl⟩:=sy.quiet (.inr (.inr (.inl hy4)));refine⟨_,_,sy.local4 hy4 s hsy (λ_ _=>rfl),sx.again ⟨putO s.fr (dstI y.i) u,s.bx,s.H⟩ hsx (λ_ _=>rfl) rfl,?_⟩;exact⟨λq=>(ZcQ hd q).symm,λ_=>rfl,rfl⟩
 ·obtain⟨rfl,rfl⟩:=sx.quiet (hx1.elim (λh=>.inr (.inl h)) (λh=>.inr (.inr (.inr h))));have hb:=sy.boxed (.inr hy6);subst hb;obtain⟨e,he⟩:=sy.more6 hy6;refine⟨_,_,sy.again s hsy (λq _=>rfl) rfl,sx.grow1 hx1 ⟨putO s.fr (dstI y.i) u,s.bx,H''⟩ e hsx (λ_ _=>rfl) he,?_⟩;exact⟨λq=>(ZcQ hd q).symm,λ_=>rfl,rfl⟩
 ·simp only[Zus,Ze,Zj,beq_iff_eq]at hbx;obtain⟨hkk,hbb⟩:=hbx;split at hbb
  ·rename_i a b ha hb;have hne:a≠b:=of_decide_eq_true hbb;rcases hkk with⟨hx2,hy4⟩|⟨hx4,hy2⟩
   ·obtain⟨rfl,hw⟩:=sx.bnW hx2 a ha;obtain⟨rfl,rfl⟩:=sy.quiet (.inr (.inr (.inl hy4)));refine⟨_,_,sy.bnR hy4 b hb s hsy (hw b (Ne.symm hne)).symm,sx.again ⟨putO s.fr (dstI y.i) u,s.bx,s.H⟩ hsx (λ_ _=>rfl) rfl,?_⟩;exact⟨λq=>(ZcQ hd q).symm,λ_=>rfl,rfl⟩
   obtain⟨rfl,rfl⟩:=sx.quiet (.inr (.inr (.inl hx4)));obtain⟨rfl,hw⟩:=sy.bnW hy2 b hb;refine⟨_,_,sy.again s hsy (λq _=>rfl) rfl,sx.bnR hx4 a ha ⟨putO s.fr (dstI y.i) u,Zge s.bx bw',s.H⟩ hsx (hw a hne),?_⟩;exact⟨λq=>(ZcQ hd q).symm,λ_=>rfl,rfl⟩
  cases hbb
 simp only[Zw1,Ze,Zj,beq_iff_eq]at hhp;rcases hhp with⟨⟨hx2,hbn⟩,hy7⟩|⟨⟨hx7,hy2⟩,hbn⟩
 ·obtain⟨b,hb⟩:=Option.isSome_iff_exists.1 hbn;obtain⟨rfl,_⟩:=sx.bnW hx2 b hb;obtain⟨rfl,rfl⟩:=sy.quiet (.inr (.inr (.inr hy7)));refine⟨_,_,sy.heap7 hy7 s hsy rfl,sx.again ⟨putO s.fr (dstI y.i) u,s.bx,s.H⟩ hsx (λ_ _=>rfl) rfl,?_⟩;exact⟨λq=>(ZcQ hd q).symm,λ_=>rfl,rfl⟩
 obtain⟨b,hb⟩:=Option.isSome_iff_exists.1 hbn;obtain⟨rfl,rfl⟩:=sx.quiet (.inr (.inr (.inr hx7)));obtain⟨rfl,_⟩:=sy.bnW hy2 b hb;refine⟨_,_,sy.again s hsy (λq _=>rfl) rfl,sx.heap7 hx7 ⟨putO s.fr (dstI y.i) u,Zge s.bx bw',s.H⟩ hsx rfl,?_⟩;exact⟨λq=>(ZcQ hd q).symm,λ_=>rfl,rfl⟩
theorem AOp.eqv {o:IOp}{s s' t:St}(h:AOp P o s s')(hg:ZaY o.i=3->o.g=none)(hK:ioK o=true)(hT:Tops s.fr)(e:Eqv s t):∃t',AOp P o t t'/\Eqv s' t':=by
 by_cases hk:ZaY o.i=3
 ·obtain⟨d,hd⟩:=Zq7 hk;obtain⟨_,cs,e1,again⟩:=ZkY (hg hk) hd h;refine⟨_,again t (λx _=>(e.fr x).symm),?_⟩;rw[e1];refine⟨λx=>?_,λx=>?_,e.H⟩
  ·simp only[Zbr,Zd9,e.fr x]
  simp only[ZcJ,e.bx x]
 obtain⟨v,bw,H',sh,_⟩:=Zl5 h hk hK hT;refine⟨_,sh.again t (λx _=>(e.fr x).symm) (λq _=>(e.bx q).symm) e.H.symm,?_⟩;rw[sh.out];refine⟨λx=>?_,Zv8 e.bx,rfl⟩;cases dstI o.i with
 |none=>exact e.fr x
 |some d=>simp only[putO,Zbr,e.fr x]
def Zj0 (P:Program)(ios:List IOp):List Nat->St->St->Prop
 |[],s,s'=>s'=s
 |i::l,s,s'=>∃o s1,ios[i]?=some o/\AOp P o s s1/\Zj0 P ios l s1 s'
def calm (ios:List IOp):Bool:=ios.all λo=>(decide (ZaY o.i≠3)||decide (o.g=none))&&ioK o
theorem ZoE {ios:List IOp}(hc:calm ios=true){i:Nat}{o:IOp}(h:ios[i]?=some o):(ZaY o.i=3->o.g=none)/\ioK o=true:=by
 have:=List.all_eq_true.1 hc o (List.mem_of_getElem? h);simp only[Ze,Zj,Zag]at this;exact⟨λe=>this.1.resolve_left (λh=>h e),this.2⟩
theorem Zj0.eqv {ios:List IOp}(hc:calm ios=true):∀(l:List Nat) {s s' t:St},Zj0 P ios l s s'->Tops s.fr->Eqv s t->∃t',Zj0 P ios l t t'/\Eqv s' t'
 |[],s,s',t,h,_,e=>by simp only[Zj0]at h;subst h;exact⟨t,rfl,e⟩
 |i::l,s,s',t,h,hT,e=>by
  simp only[Zj0]at h;obtain⟨o,s1,h0,h1,h2⟩:=h;obtain⟨hg,hK⟩:=ZoE hc h0;obtain⟨t1,h3,e1⟩:=h1.eqv hg hK hT e;obtain⟨t',h4,e2⟩:=Zj0.eqv hc l h2 (h1.tops hg hK hT) e1;exact⟨t',⟨o,t1,h0,h3,h4⟩,e2⟩
def Cl (ios:List IOp)(l:List Nat)(s:St):Prop:=∀m∈l,∀om d,ios[m]?=some om->newD om.i=some d->ZnI d s.fr
theorem AOp.clear {o:IOp}{s s':St}(h:AOp P o s s')(hg:ZaY o.i=3->o.g=none)(hK:ioK o=true)(hT:Tops s.fr){d:Nat}(hc:ZnI d s.fr)(hr:d∉Zb4 o)(hn:newD o.i≠some d):ZnI d s'.fr:=by
 by_cases hk:ZaY o.i=3
 ·obtain⟨d',hd'⟩:=Zq7 hk;obtain⟨_,cs,e1,_⟩:=ZkY (hg hk) hd' h;rw[e1];intro u off hu e;simp only[Zbr]at e;split at e
  ·simp only[AV.loc.injEq]at e;exact hn (by rw[hd',e.1])
  rw[Zd9]at e;split at e
  ·rename_i t' o' e';split at e
   ·cases e
   simp only[AV.loc.injEq]at e;exact hc u o' hu (by rw[e',e.1])
  exact hc u off hu e
 obtain⟨v,bw,H',sh,_⟩:=Zl5 h hk hK hT;rw[sh.out];intro u off hu e;cases hd:dstI o.i with
 |none=>rw[hd]at e;exact hc u off hu e
 |some q=>
  rw[hd]at e;simp only[putO,Zbr]at e;split at e
  ·exact absurd rfl (Zr6 hc hr (sh.src d off e))
  exact hc u off hu e
def bef:Option (List Nat)->Nat->Nat->Bool
 |none,a,b=>decide (a<b)
 |some o,a,b=>decide (o.idxOf a<o.idxOf b)
theorem Zrp {ord:Option (List Nat)}{a b:Nat}(h:bef ord a b=true):a≠b:=by
 rintro rfl;cases ord<;>simp[bef]at h
theorem Zyi {ord:Option (List Nat)}{a b:Nat}(h:bef ord a b=true):¬bef ord b a=true:=by
 cases ord<;>simp only[bef,Zag]at h⊢<;>omega
def ZzM (ord:Option (List Nat))(ios:List IOp):Bool:=
 (List.range ios.length).all λm=>match ios[m]? with
  |some om=>(match newD om.i with
   |some d=>(List.range ios.length).all λj=>match ios[j]? with
    |some oj=>(!bef ord j m||!(Zb4 oj).elem d)&&(decide (j=m)||decide (newD oj.i≠some d))
    |none=>true
   |none=>true)
  |none=>true
theorem Ztm {ord:Option (List Nat)}{ios:List IOp}(h:ZzM ord ios=true){m j:Nat}{om oj:IOp}{d:Nat}(hm:ios[m]?=some om)(hj:ios[j]?=some oj)(hd:newD om.i=some d):(bef ord j m=true->d∉Zb4 oj)/\(j≠m->newD oj.i≠some d):=by
 have hml:=(List.getElem?_eq_some_iff.1 hm).1;have hjl:=(List.getElem?_eq_some_iff.1 hj).1;have h1:=List.all_eq_true.1 h m (List.mem_range.2 hml);rw[hm]at h1;simp only[hd]at h1;have h2:=List.all_eq_true.1 h1 j (List.mem_range.2 hjl);rw[hj]at h2;simp only[Ze,Zj,Zag,Zh]at h2;refine⟨λhlt=>?_,λhne=>h2.2.resolve_left hne⟩;have:=h2.1.resolve_left (by rw[hlt];simp);simpa using this
theorem Zj0.first {ord:Option (List Nat)}{ios:List IOp}(hc:calm ios=true)(hnw:ZzM ord ios=true){i:Nat}{oi:IOp}(hi:ios[i]?=some oi):∀(l1 l2:List Nat) {s s':St},(∀j∈l1,∀oj,ios[j]?=some oj->ZvX oj oi=true)->(l1++i::l2).Pairwise (λa b=>bef ord a b=true)->Tops s.fr->Cl ios (l1++i::l2) s->Zj0 P ios (l1++i::l2) s s'→
  ∃s1 s'',AOp P oi s s1/\Zj0 P ios (l1++l2) s1 s''/\Eqv s'' s'
 |[],l2,s,s',_,_,_,_,h=>by
  simp only[ZY,Zj0]at h;obtain⟨o,s1,h0,h1,h2⟩:=h;rw[hi]at h0;cases h0;exact⟨s1,s',h1,h2,Eqv.refl _⟩
 |j::l1,l2,s,s',hind,hsort,hT,hcl,h=>by
  simp only[Zu,Zj0]at h;obtain⟨oj,t,h0,h1,h2⟩:=h;obtain⟨hgj,hKj⟩:=ZoE hc h0;obtain⟨hgi,hKi⟩:=ZoE hc hi;have hsort':=List.pairwise_cons.1 hsort;have hTt:=h1.tops hgj hKj hT;have hclt:Cl ios (l1++i::l2) t:=λm hm om d hom hd=>by
   have hjm:bef ord j m=true:=hsort'.1 m hm;obtain⟨n1,n2⟩:=Ztm hnw hom h0 hd;exact h1.clear hgj hKj hT (hcl m (by simp only[Zu,List.mem_cons];exact .inr hm) om d hom hd) (n1 hjm) (n2 (Zrp hjm))
  obtain⟨t1,s'',h3,h4,h5⟩:=Zj0.first hc hnw hi l1 l2 (λq hq=>hind q (by simp[hq])) hsort'.2 hTt hclt h2;obtain⟨u1,u2,h6,h7,h8⟩:=swap (hind j (by simp) oj h0) hgj hgi hKj hKi hT (λd hd=>hcl j (by simp) oj d h0 hd) (λd hd=>hcl i (by simp) oi d hi hd) h1 h3;obtain⟨s3,h9,h10⟩:=Zj0.eqv hc _ h4 (h3.tops hgi hKi hTt) h8.symm;exact⟨u1,s3,h6,⟨oj,u2,h0,h7,h9⟩,h10.symm.trans h5⟩
def ZAc (ord:Option (List Nat))(ops:Array Oper)(ios:List IOp):Bool:=
 (List.range ios.length).all λi=>match ops[i]?,ios[i]? with
  |some o,some io=>(o.after.all λe=>!Region.binds .any e||(bef ord e.on i&&decide (e.on<ios.length)))&&io.pre.all λj=>decide (1000000<=j)||o.after.any λe=>Region.binds .any e&&(decide (e.on=j)||(match ios[e.on]? with
   |some ie=>ie.pre.elem j
   |none=>false))
  |_,_=>false
def ZwY (ord:Option (List Nat))(ios:List IOp):Bool:=
 (List.range ios.length).all λi=>(List.range ios.length).all λj=>!bef ord j i||match ios[j]?,ios[i]? with
  |some oj,some oi=>(oi.pre.elem j&&decide (j<1000000))||ZvX oj oi
  |_,_=>false
def Zxa (ord:Option (List Nat))(ops:Array Oper)(ios:List IOp):Bool:=calm ios&&ZAc ord ops ios&&ZwY ord ios&&ZzM ord ios
def posO (o:IOp):Option Nat:=(o.pre.find? λx=>decide (1000000<=x)).map (· -1000000)
def ordL (iw:List IOp):Option (List Nat):=if iw.all (λo=>(posO o).isSome)then some (iw.map λo=>(posO o).getD 0)else none
def srtL (iw:List IOp):List IOp:=match ordL iw with
 |none=>iw
 |some o=>(List.range iw.length).map λp=>iw.getD (o.idxOf p) ⟨none,.newL 0 [],[],none⟩
def ordK (iw:List IOp):Bool:=match ordL iw with
 |none=>true
 |some o=>(List.range iw.length).all λk=>o.contains k&&decide (o.idxOf (o.getD k 0)=k)&&decide (o.getD k 0<iw.length)
def Zu3 (ops:Array Oper)(iw:List IOp):Bool:=ordK iw&&Zxa (ordL iw) ops (srtL iw)
def Zru (iw:List IOp):List Nat:=match ordL iw with
 |none=>List.range iw.length
 |some o=>o
theorem ZmE {iw:List IOp}{o:List Nat}(h:ordL iw=some o):o.length=iw.length:=by
 unfold ordL at h;split at h
 ·simp only[Zab]at h;subst h;simp
 cases h
theorem ZkX {iw:List IOp}{o:List Nat}(h:ordK iw=true)(ho:ordL iw=some o){k:Nat}(hk:k<iw.length):k∈o/\o.idxOf (o.getD k 0)=k/\o.getD k 0<iw.length:=by
 unfold ordK at h;rw[ho]at h;have:=List.all_eq_true.1 h k (List.mem_range.2 hk);simp only[Ze,Zag,Zv]at this;exact⟨this.1.1,this.1.2,this.2⟩
theorem ZxM (iw:List IOp):(srtL iw).length=iw.length:=by
 unfold srtL;split<;>simp
theorem ZxL {iw:List IOp}(h:ordK iw=true){o:IOp}(ho:o∈srtL iw):o∈iw:=by
 unfold srtL at ho;split at ho
 ·exact ho
 rename_i od hod;obtain⟨p,hp,rfl⟩:=List.mem_map.1 ho;have hp':=List.mem_range.1 hp;have h1:=(ZkX h hod hp').1;have h2:od.idxOf p<od.length:=List.idxOf_lt_length_iff.2 h1;rw[ZmE hod]at h2;rw[Zz,ZF h2];exact List.getElem_mem h2
theorem Zy3 {iw:List IOp}(h:ordK iw=true){k:Nat}(hk:k<iw.length):∃p,(Zru iw)[k]?=some p/\(srtL iw)[p]?=iw[k]?:=by
 unfold Zru srtL;cases ho:ordL iw with
 |none=>exact⟨k,by simp[hk],rfl⟩
 |some o=>
  obtain⟨_,h2,h3⟩:=ZkX h ho hk;have hl:=ZmE ho;refine⟨o.getD k 0,?_,?_⟩
  ·simp only[Zz,ZF (show k<o.length by omega),Z9]
  simp only;rw[ZH,List.getElem?_range h3,Zaa,h2,Zz,ZF hk];rfl
theorem Zsw (iw:List IOp):(Zru iw).length=iw.length:=by
 unfold Zru;cases ho:ordL iw with
 |none=>simp
 |some o=>exact ZmE ho
theorem Zwk {iw:List IOp}(h:ordK iw=true){i:Nat}:i∈Zru iw↔i<iw.length:=by
 unfold Zru;cases ho:ordL iw with
 |none=>simp
 |some o=>
  constructor
  ·intro hi;obtain⟨k,hk,rfl⟩:=List.getElem_of_mem hi;have:=(ZkX h ho (by rw[←ZmE ho];exact hk)).2.2
   rwa [Zz,ZF hk]at this
  intro hi;exact(ZkX h ho hi).1
theorem Zsv {iw:List IOp}(h:ordK iw=true):(Zru iw).Pairwise (λa b=>bef (ordL iw) a b=true):=by
 unfold Zru;cases ho:ordL iw with
 |none=>
  simp only[bef,Zag];exact List.pairwise_lt_range
 |some o=>
  rw[List.pairwise_iff_getElem];intro i j hi hj hij;change i<o.length at hi;change j<o.length at hj;have hl:=ZmE ho;have h1:=(ZkX h ho (show i<iw.length by omega)).2.1;have h2:=(ZkX h ho (show j<iw.length by omega)).2.1;rw[Zz,ZF hi,Z9]at h1;rw[Zz,ZF hj,Z9]at h2;simp only[bef,Zag,h1,h2];exact hij
theorem Zrt {ios:List IOp}:∀(iw:List IOp) (l:List Nat) {s s':St},l.length=iw.length->(∀k,k<iw.length->∃p,l[k]?=some p/\ios[p]?=iw[k]?)->Zba P iw s s'->Zj0 P ios l s s'
 |[],l,s,s',hl,_,h=>by
  have:l=[]:=List.eq_nil_of_length_eq_zero hl;subst this;exact h
 |o::iw,[],s,s',hl,_,h=>by simp at hl
 |o::iw,p::l,s,s',hl,hk,h=>by
  simp only[Zba]at h;obtain⟨s1,h1,h2⟩:=h;obtain⟨q,e1,e2⟩:=hk 0 (by simp);simp only[ZD,Zab]at e1 e2;subst e1;exact⟨o,s1,e2,h1,Zrt iw l (by simpa using hl) (λk hk'=>by simpa using hk (k+1) (by simpa using hk')) h2⟩
variable {k:K0} {n:Nat} {ops:Array Oper}
theorem Zxi {ord:Option (List Nat)}{ios:List IOp}(hlen:ops.size=ios.length)(hchk:∀(i:Nat) o io,ops[i]?=some o->ios[i]?=some io->ZtE P n ops o io=true)(hd:Zxa ord ops ios=true){r:Option Nat}{Q:Exit->Act->World->Prop}:
  ∀(fuel:Nat) (listed:Array Bool) (l:List Nat) {g:G} {s s':St} {a:Act} {w:World},l.length=fuel->l.Pairwise (λa b=>bef ord a b=true)->listed.size=ops.size->(∀i,i∈l↔listed[i]?=some false)→
   (∀(i:Nat) io j,ios[i]?=some io->listed[i]?=some true->j∈io.pre->j<1000000->listed[j]?=some true)→
   Rel k n g s a w->Cl ios l s->Zj0 P ios l s s'->(∀g' t a' w',Eqv s' t->Rel k n g' t a' w'->Q .normal a' w')->wpAnyIn (FR r) 0 P .any ops Q fuel listed a w:=by
 simp only[Zxa,Ze]at hd;obtain⟨⟨⟨hcalm,hpre⟩,hind⟩,hnw⟩:=hd;simp only[ZAc,Zr,ZW]at hpre;simp only[ZwY,Zr,ZW]at hind;intro fuel;induction fuel with
 |zero=>
  intro listed l g s s' a w hl _ hsz hmem _ hr _ hp hQ;have hl0:l=[]:=List.eq_nil_of_length_eq_zero hl;subst hl0;simp only[Zj0]at hp;subst hp;refine⟨?_,hQ g _ a w (Eqv.refl _) hr⟩;unfold Region.ready;rw[List.filter_eq_nil_iff];intro i hi hcon;simp only[ZW]at hi;simp only[Ze,Zh]at hcon;have hf:listed.getD i true=false:=hcon.1;rw[Za,Zb (by omega)]at hf;have:=(hmem i).2 (by rw[Zb (by omega)];simpa using hf);cases this
 |succ fuel ih=>
  intro listed l g s s' a w hl hsort hsz hmem hcl hr hclr hp hQ;have hlt:∀i,i∈l->i<ops.size:=λi hi=>by
   have:=(Array.getElem?_eq_some_iff.1 ((hmem i).1 hi)).1;omega
  refine⟨λhready=>?_,λi hi=>?_⟩
  ·
   exfalso;cases l with
   |nil=>simp at hl
   |cons i l'=>
    have hil:=hlt i (by simp);have:i∈Region.ready .any ops listed:=by
     unfold Region.ready;rw[List.mem_filter];refine⟨List.mem_range.2 hil,?_⟩;have hf:=(hmem i).1 (by simp);simp only[Ze,Zh];refine⟨by rw[Za,hf];rfl,?_⟩;rw[Zb hil];simp only[Zaa,Z9];rw[Array.all_eq_true_iff_forall_mem];intro e he;have hp0:=hpre i (by omega);rw[Zb hil,ZF (by omega)]at hp0;simp only[Ze]at hp0;have he1:=(Array.all_eq_true_iff_forall_mem.1 hp0.1) e he;simp only[Zj,Ze,Zh,Zag]at he1⊢;rcases he1 with he1|he1
     ·exact .inl he1
     right;have hno:e.on∉i::l':=by
      intro hm;rcases List.mem_cons.1 hm with h|h
      ·exact Zrp he1.1 h
      exact Zyi (List.rel_of_pairwise_cons hsort h) he1.1
     have hne:listed[e.on]?≠some false:=λh=>hno ((hmem e.on).2 h)
     have hlt2:e.on<listed.size:=by omega
     rw[Zb hlt2]at hne;rw[Za,Zb hlt2];simpa using hne
    rw[hready]at this;cases this
  ·
   unfold Region.ready at hi;rw[List.mem_filter]at hi;obtain⟨hi0,hi1⟩:=hi;simp only[ZW]at hi0;simp only[Ze,Zh]at hi1;obtain⟨hi1,hi2⟩:=hi1;have hfi:listed[i]?=some false:=by
    rw[Za,Zb (by omega)]at hi1;rw[Zb (by omega)];simpa using hi1
   have him:i∈l:=(hmem i).2 hfi;obtain⟨l1,l2,rfl⟩:=List.append_of_mem him;have hoi:ops[i]?=some ops[i]:=Zb hi0;have hio:ios[i]?=some (ios[i]'(by omega)):=ZF (by omega);generalize hoe:ops[i]=o at hoi;generalize hie:ios[i]'(by omega)=io at hio;rw[hoi]at hi2;simp only[Zaa,Z9]at hi2;have hedges:=Array.all_eq_true_iff_forall_mem.1 hi2;have hp0:=hpre i (by omega);rw[hoi,hio]at hp0;simp only[Ze]at hp0;have hclosed:∀j∈io.pre,j<1000000->listed[j]?=some true:=by
    intro j hj hjM;have h1:=(List.all_eq_true.1 hp0.2) j hj;simp only[Zj,Zag]at h1;replace h1:=h1.resolve_left (by omega);rw[Array.any_eq_true]at h1;obtain⟨q,hq,h1⟩:=h1;have he:o.after[q]∈o.after:=Array.getElem_mem hq;generalize o.after[q]=e at he h1;simp only[Ze,Zj,Zag]at h1;obtain⟨hb,h1⟩:=h1;have h2:=hedges e he;simp only[hb,Zi,Bool.false_or]at h2;have h3:listed[e.on]?=some true:=by
     rw[Za]at h2;cases h4:listed[e.on]? with
     |none=>rw[h4]at h2;simp at h2
     |some b=>rw[h4]at h2;simp at h2;rw[h2]
    rcases h1 with h1|h1
    ·rw[←h1];exact h3
    split at h1
    ·rename_i ie hie;exact hcl e.on ie j hie h3 (by simpa using h1) hjM
    cases h1
   have hpw:=List.pairwise_append.1 hsort;have hindl:∀j∈l1,∀oj,ios[j]?=some oj->ZvX oj io=true:=λj hj oj hoj=>by
    have hji:bef ord j i=true:=hpw.2.2 j hj i (by simp);have h4:=hind i (by omega) j (List.getElem?_eq_some_iff.1 hoj).1;rw[hoj,hio,hji]at h4;simp only[Zi,Bool.false_or,Zj,Ze,Zag]at h4;rcases h4 with h4|h4
    ·have h5:=hclosed j (by simpa using h4.1) h4.2;have h6:=(hmem j).1 (by simp[hj]);rw[h5]at h6;cases h6
    exact h4
   obtain⟨s1,s'',h1,h2,h3⟩:=Zj0.first hcalm hnw hio l1 l2 hindl hsort hr.tops hclr hp;have hcl1:Cl ios (l1++l2) s1:=λm hm om d hom hd=>by
    obtain⟨hgi,hKi⟩:=ZoE hcalm hio;obtain⟨n1,n2⟩:=Ztm hnw hom hio hd;have hcm:ZnI d s.fr:=hclr m (by simp only[List.mem_append,List.mem_cons]at hm⊢;rcases hm with h|h;exact .inl h;exact .inr (.inr h)) om d hom hd;rcases List.mem_append.1 hm with hm1|hm2
    ·have hmi:bef ord m i=true:=hpw.2.2 m hm1 i (by simp);have hin:=hindl m hm1 om hom;simp only[ZvX,Ze]at hin;have hdst:dstI om.i=some d:=ZxY hd;rw[hdst]at hin;exact h1.clear hgi hKi hr.tops hcm (Zh2 hin.1.1.2) (n2 (Zrp hmi).symm)
    have hmi:bef ord i m=true:=List.rel_of_pairwise_cons hpw.2.1 hm2;exact h1.clear hgi hKi hr.tops hcm (n1 hmi) (n2 (Zrp hmi))
   refine ZrY hr hoi (hchk i o io hoi hio) h1 r (λg' a' w' h4=>?_);refine ih (listed.setIfInBounds i true) (l1++l2) ?_ ?_ (by simpa using hsz) (λj=>?_) (λj ij q hj hjt hq hqM=>?_) h4 hcl1 h2 (λg2 t a2 w2 e=>hQ g2 t a2 w2 (h3.symm.trans e))
   ·simp only[ZM,ZN]at hl⊢;omega
   ·refine List.pairwise_append.2 ⟨hpw.1,(List.pairwise_cons.1 hpw.2.1).2,λx hx y hy=>hpw.2.2 x hx y (by simp[hy])⟩
   ·by_cases hij:i=j
    ·subst hij;rw[Array.getElem?_setIfInBounds_self_of_lt (by omega)];constructor
     ·intro hm;exfalso;rcases List.mem_append.1 hm with h|h
      ·exact Zrp (hpw.2.2 i h i (by simp)) rfl
      exact Zrp (List.rel_of_pairwise_cons hpw.2.1 h) rfl
     intro h;simp at h
    rw[Zc hij,←hmem];simp only[List.mem_append,List.mem_cons];constructor
    ·rintro(h|h)
     ·exact .inl h
     exact .inr (.inr h)
    rintro(h|h|h)
    ·exact .inl h
    ·exact absurd h.symm hij
    exact .inr h
   by_cases hqi:i=q
   ·subst hqi;rw[Array.getElem?_setIfInBounds_self_of_lt (by omega)]
   rw[Zc hqi];by_cases hji:i=j
   ·subst hji;rw[hio]at hj;cases hj;exact hclosed q hq hqM
   rw[Zc hji]at hjt;exact hcl j ij q hj hjt hq hqM
theorem Zrh {r:Option Nat}{g:G}{s s':St}{a:Act}{w:World}(hm:P.follows .mixedOrders=true)(h:Rel k n g s a w){id:Nat}{ios:List IOp}(hc:Zdk P n ops ops.toList (srtL ios)=true)(hd:Zu3 ops ios=true)(hst:∀o∈ios,∀d,newD o.i=some d->ZnI d s.fr)(hp:Zba P ios s s'){Q:Exit->Act->World->Prop}
  (hQ:∀g' t a' w',Eqv s' t->Rel k n g' t a' w'->Q .normal a' w'):(Code.region id ops true).wpIn (FR r) 0 P Q a w:=by
 simp only[Zu3,Ze]at hd;obtain⟨hK,hd⟩:=hd;obtain⟨hlen,hget⟩:=Zrk hc;simp only[Zd]at hlen;refine wpIn_region_any hm ?_;have hr:Rel k n g s a w.drew:=h.grow (Grow.drew w);have hpl:=Zrt (ios:=srtL ios) ios (Zru ios) (Zsw ios) (λk hk=>Zy3 hK hk) hp;have hlen2:=ZxM ios;refine Zxi hlen (λi o io h1 h2=>hget i o io (by simpa using h1) h2) hd ops.size _ _ ?_ (Zsv hK) (by simp) (λi=>?_) (λi io j _ hf=>?_) hr (λm _ om d hom hd=>hst om (ZxL hK (List.mem_of_getElem? hom)) d hd) hpl hQ
 ·rw[Zsw];omega
 ·rw[Zwk hK];simp only[Array.getElem?_replicate];constructor
  ·intro hi;rw[Zaj (by omega)]
  intro h;split at h
  ·omega
  cases h
 simp only[Array.getElem?_replicate]at hf;split at hf
 ·simp at hf
 cases hf
end
end Go.Eng

namespace Go.Eng
open Go
def pvl (t:TypeId):List PanicEntry:=[{v:=.iface t (.agg #[]),recovered:=false}]
def Zxf (P:Program)(n:Nat)(t:TypeId):List Oper->Bool
 |[x,y,z]=>x.guard.isNone&&y.guard.isNone&&z.guard.isNone&&Zj2 P t []&&ZjG P t&&(match P.underlying t with
   |some (.struct _)=>true
   |_=>false)&&(match x.op,x.dst,y.op,y.dst,z.op with
   |.build t1 parts,some d1,.makeInterface t2 (.tmp x1),some d2,.panic (.tmp x2)=>decide (t1=t)&&decide (parts.toList=[])&&decide (t2=t)&&decide (x1=d1)&&decide (x2=d2)&&decide (d1<n)&&decide (d2<n)
   |_,_,_,_,_=>false)
 |_=>false
def chkC (P:Program)(n:Nat):Code->IC->Bool
 |.skip,.skip=>true
 |.region _ ops draw,.reg ios _=>!draw&&Zdk P n ops ops.toList ios
 |.region _ ops draw,.regD ios _=>draw&&Zdk P n ops ops.toList (srtL ios)&&P.follows .mixedOrders&&Zu3 ops ios
 |.region _ ops draw,.regF fs ios _=>draw&&Zdk P n ops ops.toList (srtL ios)&&P.follows .mixedOrders&&Zu3 ops ios&&fs.all λt=>decide (t<n)||decide (1000000<=t)
 |.seq a b,.seq a' b'=>chkC P n a a'&&chkC P n b b'
 |.cond x a b,.cond x' a' b'=>ZeK x x'&&chkC P n a a'&&chkC P n b b'
 |.block id a,.block id' a'=>decide (id=id')&&chkC P n a a'
 |.loop a,.loop a'=>chkC P n a a'
 |.exit id,.exit id'=>decide (id=id')
 |.scope a,.scope a'=>chkC P n a a'
 |.label l,.label l'=>decide (l=l')
 |.goto l,.goto l'=>decide (l=l')
 |.ret,.ret=>true
 |c,.kp _ a=>chkC P n c a
 |c,.box a=>chkC P n c a
 |.region _ ops draw,.die t=>!draw&&Zxf P n t ops.toList
 |.region id ops draw,.pu _ a=>chkC P n (.region id ops draw) a
 |.block id b,.pu _ a=>chkC P n (.block id b) a
 |.rangeFunc g ps a b,.rangeF x ps' a' b'=>ZeK g x&&decide (ps.toList=ps')&&ps'.all (λt=>decide (t<n))&&chkC P n a a'&&chkC P n b b'
 |_,_=>false
def Zv2 (t:Nat):List (Nat×AV)->List (Nat×AV)
 |[]=>[]
 |(u,v)::r=>if u=t then Zv2 t r else(u,v)::Zv2 t r
def Zlb (x:IX)(s:St):St:=match x with
 |.t n=>⟨Zv2 n s.fr,s.bx,s.H⟩
 |.k _=>s
def ZbX (ks:List Nat)(s:St):St:=⟨Znv ks s.fr,Ztu ks s.bx,s.H⟩
theorem Ztx (t:Nat)(fr:List (Nat×AV))(x:Nat):get (Zv2 t fr) x=if t=x then .any else get fr x:=by
 induction fr with
 |nil=>simp[Zv2,get]
 |cons p r ih=>
  obtain⟨u,v⟩:=p;simp only[Zv2];by_cases h:u=t
  ·subst h;simp only[Zak,ih,get];by_cases e:u=x<;>simp[e]
  simp only[h,Zah,get,ih];by_cases e:u=x
  ·subst e;simp[Ne.symm h]
  simp[e]
def Ev (P:Program)(n:Nat)(c:Code)(s:St)(Q:Exit->St->Prop):Prop:=
 ∀k g a w,Rel k n g s a w->c.wpIn (FR k.rd) 0 P (λe a' w'=>∃s' g',Rel k n g' s' a' w'/\Q e s') a w
def EvI (P:Program)(n:Nat)(ic:IC)(s:St)(Q:Exit->St->Prop):Prop:=∀c,chkC P n c ic=true->Ev P n c s Q
def EvX (P:Program)(n:Nat)(ic:IC)(s:St)(Q:Exit->St->Prop):Prop:=∃e s',EvI P n ic s (λe1 s1=>e1=e/\s1=s')/\Q e s'
@[reducible] def Zk9 (next:St->Prop)(Q:Exit->St->Prop):Exit->St->Prop
 |.normal,s=>next s
 |e,s=>Q e s
@[reducible] def ZeM (id:Nat)(Q:Exit->St->Prop):Exit->St->Prop
 |.exit id',s=>if id'=id then Q .normal s else Q (.exit id') s
 |e,s=>Q e s
def Zu5 (d:Nat):List (Nat×AV)->Bool
 |[]=>true
 |(u,v)::r=>(match v with
  |.loc t _=>decide (u=d)||decide (t≠d)
  |_=>true)&&Zu5 d r
theorem ZtD {d:Nat}{fr:List (Nat×AV)}(h:Zu5 d fr=true):ZnI d fr:=by
 intro u o hu e;induction fr with
 |nil=>simp[get]at e
 |cons p r ih=>
  obtain⟨u',v⟩:=p;simp only[Zu5,Ze]at h;simp only[get]at e;split at e
  ·rename_i hq;subst e;have:=h.1;simp only[Zj,Zag]at this;rcases this with h1|h1
   ·omega
   exact h1 rfl
  exact ih h.2 e
def Zmj (fr:List (Nat×AV)):List IOp->Bool
 |[]=>true
 |o::os=>(match newD o.i with
  |some d=>Zu5 d fr
  |none=>true)&&Zmj fr os
def ZrE (ops:List IOp)(fr:List (Nat×AV)):Prop:=Zmj fr ops=true
theorem Zo1 {ops:List IOp}{fr:List (Nat×AV)}(h:ZrE ops fr):∀o∈ops,∀d,newD o.i=some d->ZnI d fr:=by
 unfold ZrE at h;induction ops with
 |nil=>simp
 |cons o os ih=>
  simp only[Zmj,Ze]at h;intro o' ho' d hd;rcases List.mem_cons.1 ho' with rfl|ho'
  ·have:=h.1;rw[hd]at this;exact ZtD this
  exact ih h.2 o' ho' d hd
def Zra (s:St)(t:Nat):AV:=if t<1000000 then get s.fr t else .agg ((bget s.bx (t-1000000)).getD [])
def frzS:List Nat->St->Option St
 |[],s=>some s
 |t::ts,s=>(frzV s.H (Zra s t)).bind λ(x,H)=>frzS ts ⟨s.fr,s.bx,H⟩
def ZrT:List Nat->St->Option St
 |[],s=>some s
 |t::ts,s=>if t<1000000 then(frzV s.H (get s.fr t)).bind λ(x,H)=>ZrT ts ⟨put s.fr t x,s.bx,H⟩
  else match bget s.bx (t-1000000)with
   |some cs=>(frzC s.H cs).bind λ(xs,H)=>if ZaL xs=true then ZrT ts ⟨s.fr,bput s.bx (t-1000000) xs,H⟩else none
   |none=>none
@[reducible] def puQ (fs:List Nat)(Q:Exit->St->Prop):Exit->St->Prop
 |.normal,s=>∃s',ZrT fs s=some s'/\Q .normal s'
 |e,s=>Q e s
def vc (P:Program)(n:Nat):IC->(Exit->St->Prop)->St->Prop
 |.skip,Q,s=>Q .normal s
 |.reg ops keep,Q,s=>∃s',Zba P ops s s'/\Q .normal (ZbX keep s')
 |.regD ops keep,Q,s=>ZrE ops s.fr/\∃s',Zba P ops s s'/\Q .normal (ZbX keep s')
 |.regF fs ops keep,Q,s=>∃s0,frzS fs s=some s0/\ZrE ops s0.fr/\∃s',Zba P ops s0 s'/\Q .normal (ZbX keep s')
 |.seq a b,Q,s=>vc P n a (Zk9 (vc P n b Q) Q) s
 |.cond x a b,Q,s=>match ev s.fr x with
  |.p (.bool t)=>if t=true then vc P n a Q (Zlb x s)else vc P n b Q (Zlb x s)
  |_=>False
 |.block id a,Q,s=>vc P n a (ZeM id Q) s
 |.loop a,Q,s=>EvX P n (.loop a) s Q
 |.exit id,Q,s=>Q (.exit id) s
 |.scope a,Q,s=>EvX P n (.scope a) s Q
 |.label _,Q,s=>Q .normal s
 |.goto l,Q,s=>Q (.goto l) s
 |.ret,Q,s=>Q .ret s
 |.kp ks a,Q,s=>vc P n a Q (ZbX ks s)
 |.pu fs a,Q,s=>vc P n a (puQ fs Q) s
 |.rangeF x ps a b,Q,s=>EvX P n (.rangeF x ps a b) s Q
 |.box a,Q,s=>EvX P n a s Q
 |.die t,Q,s=>Q (.panic (pvl t)) (ZbX [] s)
section
variable {P:Program} {n:Nat}
theorem Rel.drop {k:K0}{g:G}{s:St}{a:Act}{w:World}(h:Rel k n g s a w)(x:IX):Rel k n g (Zlb x s) a w:=by
 cases x with
 |k v=>exact h
 |t m=>
  exact {h with
   slots:=λt=>by
    simp only[Zlb,Ztx];split
    ·simp[VR]
    exact h.slots t
   tops:=λt=>by
    simp only[Zlb,Ztx];split
    ·rfl
    exact h.tops t}
theorem Zw3 {k:K0}{g:G}{s:St}{a:Act}{w:World}(h:Rel k n g s a w)(t:Nat):top (Zra s t)=true/\∃v,VR (cx k g s.H w) (Zra s t) v:=by
 unfold Zra;split
 ·exact⟨h.tops t,_,h.slots t⟩
 cases hb:bget s.bx (t-1000000)with
 |none=>exact⟨rfl,.agg #[],by simp only[Option.getD_none];rw[VR];exact⟨[],rfl,by simp[VRL]⟩⟩
 |some cs=>
  obtain⟨b,_,hok,vs,_,hv⟩:=h.boxes _ cs hb;exact⟨ZaP (by simpa[ZaV]using ZaM hok),.agg vs,by rw[VR];exact⟨vs.toList,by simp,hv⟩⟩
theorem Zrb {k:K0}{g:G}{a:Act}{w:World}:∀(ts:List Nat) {s s':St},Rel k n g s a w->frzS ts s=some s'->Rel k n g s' a w
 |[],s,s',h,e=>by
  simp only[frzS,Zab]at e;exact e▸h
 |t::ts,s,s',h,e=>by
  simp only[frzS]at e;cases h1:frzV s.H (Zra s t)with
  |none=>simp[h1]at e
  |some p=>
   obtain⟨x,H1⟩:=p;simp only[h1,Z8]at e;obtain⟨ht,v,hv⟩:=Zw3 h t;obtain⟨r1,l1,v1,n1⟩:=Znx h h1 ht hv;exact Zrb ts r1 e
theorem Rel.reSlot {k:K0}{g:G}{s:St}{a:Act}{w:World}(h:Rel k n g s a w){t:Nat}{x:AV}(hv:VR (cx k g s.H w) x (a.tmps.getD t undef))(ht:top x=true):Rel k n g ⟨Eng.put s.fr t x,s.bx,s.H⟩ a w:=
 {h with
  slots:=λu=>by
   simp only[Zbr];split
   ·rename_i e;subst e;exact hv
   exact h.slots u
  tops:=λu=>by
   simp only[Zbr];split
   ·exact ht
   exact h.tops u}
theorem Rel.reBox {k:K0}{g:G}{s:St}{a:Act}{w:World}(h:Rel k n g s a w){t:Nat}{cs xs:List AV}(hb:bget s.bx t=some cs)(hok:ZaL xs=true)(hv:∃b vs,g.β t=some b/\(cx k g s.H w).blk b vs/\VRL (cx k g s.H w) xs vs.toList):
  Rel k n g ⟨s.fr,bput s.bx t xs,s.H⟩ a w:=
 {h with
  boxes:=λu ys e=>by
   simp only[ZcJ]at e;by_cases he:t=u
   ·subst he;simp only[Zak,Zab]at e;subst e;obtain⟨b,vs,h1,h2,h3⟩:=hv;exact⟨b,h1,hok,vs,h2,h3⟩
   rw[Zai he]at e;exact h.boxes u ys e
  boxed:=λu b e=>by
   obtain⟨⟨ys,hy⟩,h2⟩:=h.boxed u b e;refine⟨?_,h2⟩;simp only[ZcJ];by_cases he:t=u
   ·exact⟨xs,by rw[Zaj he]⟩
   exact⟨ys,by rw[Zai he];exact hy⟩}
theorem Zl2 {k:K0}{g:G}{a:Act}{w:World}:∀(ts:List Nat) {s s':St},Rel k n g s a w->ZrT ts s=some s'->Rel k n g s' a w
 |[],s,s',h,e=>by
  simp only[ZrT,Zab]at e;exact e▸h
 |t::ts,s,s',h,e=>by
  simp only[ZrT]at e;split at e
  ·cases h1:frzV s.H (get s.fr t)with
   |none=>simp[h1]at e
   |some p=>
    obtain⟨x,H1⟩:=p;simp only[h1,Z8]at e;obtain⟨r1,l1,v1,n1⟩:=Znx h h1 (h.tops t) (h.slots t);exact Zl2 ts (r1.reSlot v1 (ZaP n1)) e
  split at e
  ·rename_i cs hb;cases h1:frzC s.H cs with
   |none=>simp[h1]at e
   |some p=>
    obtain⟨xs,H1⟩:=p;simp only[h1,Z8]at e;split at e
    ·rename_i hok;obtain⟨b,hb1,hoc,vs0,hblk,hv0⟩:=h.boxes _ cs hb;have hno:=ZaM hoc;obtain⟨r1,_,v1,_⟩:=Znz cs h h1 hno hv0;exact Zl2 ts (r1.reBox (cs:=cs) hb hok ⟨b,vs0,hb1,hblk,v1⟩) e
    cases e
  cases e
theorem EvI.mono {ic:IC}{s:St}{Q Q':Exit->St->Prop}(h:EvI P n ic s Q)(hq:∀e s,Q e s->Q' e s):EvI P n ic s Q':=
 λc hc k g a w hr=>wpIn_mono (h c hc k g a w hr) λe a' w' ⟨s',g',h1,h2⟩=>⟨s',g',h1,hq e s' h2⟩
theorem EvX.mono {ic:IC}{s:St}{Q Q':Exit->St->Prop}(h:EvX P n ic s Q)(hq:∀e s,Q e s->Q' e s):EvX P n ic s Q':=
 let ⟨e,s',h1,h2⟩:=h;⟨e,s',h1,hq e s' h2⟩
theorem EvX.toI {ic:IC}{s:St}{Q:Exit->St->Prop}(h:EvX P n ic s Q):EvI P n ic s Q:=by
 obtain⟨e,s',h1,h2⟩:=h;exact h1.mono λe1 s1 ⟨a,b⟩=>by subst a b;exact h2
theorem Zu2 {a:Act}{d:Nat}(hd:d<a.tmps.size)(v:Value):(a.put (some d) v).eval (.tmp d)=v:=by
 simp[Act.put,Act.eval,Za,hd]
theorem Zxc {k:K0}{g:G}{s:St}{a:Act}{w:World}(h:Rel k n g s a w){t:TypeId}{id:Nat}{ops:Array Oper}(hc:Zxf P n t ops.toList=true){Q:Exit->St->Prop}(hQ:Q (.panic (pvl t)) (ZbX [] s)):
  (Code.region id ops false).wpIn (FR k.rd) 0 P (λe a' w'=>∃s' g',Rel k n g' s' a' w'/\Q e s') a w:=by
 refine wpIn_region ?_;unfold Zxf at hc;split at hc
 ·rename_i x y z hl;simp only[Ze,Option.isNone_iff_eq_none]at hc;obtain⟨⟨⟨⟨⟨⟨gx,gy⟩,gz⟩,hz⟩,hfs⟩,hu⟩,hc⟩:=hc;split at hc
  ·rename_i t1 parts d1 t2 x1 d2 x2 ox dx oy dy oz;simp only[Ze,Zag]at hc;obtain⟨⟨⟨⟨⟨⟨rfl,hp⟩,rfl⟩,rfl⟩,rfl⟩,h1⟩,h2⟩:=hc;have hops:ops=#[x,y,z]:=by
    apply Array.ext';rw[hl]
   subst hops;have hparts:parts=#[]:=by apply Array.ext';rw[hp]
   subst hparts;obtain⟨u,hu1,hu2,_⟩:=ZsR (P:=P) (c:=cx k g s.H w) (w:=w) (ps:=#[]) (parts:=[]) (xs:=[]) (out:=[]) (ρ:=a.eval) hz (by rfl) hfs (by rw[VRL];rfl) rfl;have hu3:u=.agg #[]:=by
    rw[VR]at hu2;obtain⟨us,e,hv⟩:=hu2;rw[VRL]at hv;subst hv;exact e
   subst hu3;have r1:Rel k n g ⟨put s.fr x1 .any,s.bx,s.H⟩ (a.put (some x1) (.agg #[])) w:=h.put h1 (by simp[VR]) rfl;have r2:Rel k n g ⟨put (put s.fr x1 .any) x2 .any,s.bx,s.H⟩ ((a.put (some x1) (.agg #[])).put (some x2) (.iface t2 (.agg #[]))) w:=r1.put h2 (by simp[VR]) rfl;show wpOpsIn (FR k.rd) 0 P #[x,y,z] _ [0,1,2] a w;rw[wpOpsIn_cons];unfold wpOpIn;simp only[List.getElem?_toArray,ZD];rw[Zaj (by simp[Region.wanted,gx])];refine Oper.wpIn_of_wp _ (by rw[ox];intro c e;cases e) ?_;unfold Oper.wp;have e1:(execOp a.eval x).run P w=.ok (.value (.agg #[])) w:=by
    simp only[execOp,ox,Sem.run_bind];rw[show(Instr.build t2 ((#[]:Array (Nat×Operand)).map λ(i,x)=>(i,a.eval x))).run P w=.ok (.agg #[]) w from hu1];rfl
   rw[e1,Oper.upon_value,dx,wpOpsIn_cons];unfold wpOpIn;simp only[List.getElem?_toArray,ZC,ZD];rw[Zaj (by simp[Region.wanted,gy])];refine Oper.wpIn_of_wp _ (by rw[oy];intro c e;cases e) ?_;unfold Oper.wp;have e2:(execOp (a.put (some x1) (.agg #[])).eval y).run P w=.ok (.value (.iface t2 (.agg #[]))) w:=by
    simp only[execOp,oy,Sem.run_bind];rw[Zu2 (by rw[h.tsz];exact h1)];split at hu
    ·rename_i fs hu';unfold Instr.makeInterface;simp only[Sem.run_bind,run_underlying hu',Result.andThen_ok,Sem.run_pure]
    cases hu
   rw[e2,Oper.upon_value,dy,wpOpsIn_cons];unfold wpOpIn;simp only[List.getElem?_toArray,ZC,ZD];rw[Zaj (by simp[Region.wanted,gz])];refine Oper.wpIn_of_wp _ (by rw[oz];intro c e;cases e) ?_;unfold Oper.wp;have e3:(execOp ((a.put (some x1) (.agg #[])).put (some x2) (.iface t2 (.agg #[]))).eval z).run P w=.halt (.panic (.iface t2 (.agg #[]))) w:=by
    simp only[execOp,oz,Sem.run_bind];rw[Zu2 (by rw[r1.tsz];exact h2)];rfl
   rw[e3,Oper.upon_panic];obtain⟨g2,h3⟩:=r2.keepOnly [];refine⟨_,g2,h3,?_⟩;have ek:∀fr:List (Nat×AV),Znv [] fr=[]:=λfr=>by
    induction fr with
    |nil=>rfl
    |cons p r ih=>obtain⟨u,v⟩:=p;simp[Znv,ih]
   have:ZbX [] ⟨put (put s.fr x1 .any) x2 .any,s.bx,s.H⟩=ZbX [] s:=by
    unfold ZbX;rw[ek,ek]
   have hQ':Q (.panic (pvl t2)) (ZbX [] ⟨put (put s.fr x1 .any) x2 .any,s.bx,s.H⟩):=by rw[this];exact hQ
   exact hQ'
  cases hc
 cases hc
theorem Zbd:∀(ic:IC) (Q:Exit->St->Prop) (s:St),vc P n ic Q s->EvI P n ic s Q
 |.skip,Q,s,h=>by
  intro c hc k g a w hr;cases c<;>simp only[chkC,Zg]at hc;exact wpIn_skip ⟨s,g,hr,h⟩
 |.reg ios keep,Q,s,h=>by
  intro c hc k g a w hr;cases c<;>simp only[chkC,Zg,Ze,Zh]at hc;rename_i id ops draw;obtain⟨rfl,hc⟩:=hc;simp only[vc]at h;obtain⟨s',hp,hq⟩:=h;exact ZsW hr hc hp _ λg' a' w' h1=>let ⟨g2,h2⟩:=h1.keepOnly keep;⟨_,g2,h2,hq⟩
 |.regD ios keep,Q,s,h=>by
  intro c hc k g a w hr;cases c<;>simp only[chkC,Zg,Ze]at hc;rename_i id ops draw;obtain⟨⟨⟨rfl,hc⟩,hm⟩,hd⟩:=hc;simp only[vc]at h;obtain⟨hst,s',hp,hq⟩:=h;exact Zrh hm hr hc hd (Zo1 hst) hp λg' t a' w' e h1=>let ⟨g2,h2⟩:=(h1.eqv e.symm).keepOnly keep;⟨_,g2,h2,hq⟩
 |.regF fs ios keep,Q,s,h=>by
  intro c hc k g a w hr;cases c<;>simp only[chkC,Zg,Ze,Zr,Zag]at hc;rename_i id ops draw;obtain⟨⟨⟨⟨rfl,hc⟩,hm⟩,hd⟩,hf⟩:=hc;simp only[vc]at h;obtain⟨s0,h0,hst,s',hp,hq⟩:=h;exact Zrh hm (Zrb fs hr h0) hc hd (Zo1 hst) hp λg' t a' w' e h1=>let ⟨g2,h2⟩:=(h1.eqv e.symm).keepOnly keep;⟨_,g2,h2,hq⟩
 |.seq x y,Q,s,h=>by
  intro c hc k g a w hr;cases c<;>simp only[chkC,Zg,Ze]at hc;rename_i c1 c2;simp only[vc]at h;refine wpIn_seq (wpIn_mono (Zbd x _ s h c1 hc.1 k g a w hr) ?_);rintro e a' w' ⟨s',g',h1,h2⟩;cases e with
  |normal=>exact Zbd y Q s' h2 c2 hc.2 k g' a' w' h1
  |_=>exact⟨s',g',h1,h2⟩
 |.cond x y z,Q,s,h=>by
  intro c hc k g a w hr;cases c<;>simp only[chkC,Zg,Ze]at hc;rename_i X c1 c2;simp only[vc]at h;split at h
  ·rename_i t hx;have hv:=Zca hr hc.1.1;rw[hx]at hv;have ht:=ZnE hv;cases t with
   |true=>
    simp only[Zak]at h;exact wpIn_cond_true ht (Zbd y Q _ h c1 hc.1.2 k g a w (hr.drop x))
   |false=>
    simp only[Zg,Zah]at h;exact wpIn_cond_false ht (Zbd z Q _ h c2 hc.2 k g a w (hr.drop x))
  exact h.elim
 |.block id x,Q,s,h=>by
  intro c hc k g a w hr;cases c<;>simp only[chkC,Zg,Ze,Zag]at hc;rename_i id' c1;obtain⟨rfl,hc⟩:=hc;simp only[vc]at h;refine wpIn_block (wpIn_mono (Zbd x _ s h c1 hc k g a w hr) ?_);rintro e a' w' ⟨s',g',h1,h2⟩;cases e with
  |exit j=>
   simp only[ZeM]at h2;simp only[Exit.inBlock];split
   ·rename_i e;rw[Zaj e]at h2;exact⟨s',g',h1,h2⟩
   rename_i e;rw[Zai e]at h2;exact⟨s',g',h1,h2⟩
  |_=>exact⟨s',g',h1,h2⟩
 |.loop x,Q,s,h=>EvX.toI h
 |.rangeF ..,Q,s,h=>EvX.toI h
 |.box a,Q,s,h=>λc hc=>EvX.toI h c (by cases c<;>simpa only[chkC]using hc)
 |.die t,Q,s,h=>by
  intro c hc k g a w hr;cases c<;>simp only[chkC,Zg,Ze,Zh]at hc;rename_i id ops draw;obtain⟨rfl,hc⟩:=hc;exact Zxc hr hc h
 |.exit id,Q,s,h=>by
  intro c hc k g a w hr;cases c<;>simp only[chkC,Zg,Zag]at hc;subst hc;exact wpIn_exit ⟨s,g,hr,h⟩
 |.scope x,Q,s,h=>EvX.toI h
 |.label l,Q,s,h=>by
  intro c hc k g a w hr;cases c<;>simp only[chkC,Zg]at hc;exact wpIn_label ⟨s,g,hr,h⟩
 |.goto l,Q,s,h=>by
  intro c hc k g a w hr;cases c<;>simp only[chkC,Zg,Zag]at hc;subst hc;exact wpIn_goto ⟨s,g,hr,h⟩
 |.ret,Q,s,h=>by
  intro c hc k g a w hr;cases c<;>simp only[chkC,Zg]at hc;exact wpIn_ret ⟨s,g,hr,h⟩
 |.kp ks x,Q,s,h=>by
  intro c hc k g a w hr;have hc':chkC P n c x=true:=by cases c<;>simpa only[chkC]using hc
  obtain⟨g2,h2⟩:=hr.keepOnly ks;exact Zbd x Q _ h c hc' k g2 a w h2
 |.pu fs x,Q,s,h=>by
  intro c hc k g a w hr;have hc':chkC P n c x=true:=by cases c<;>simp only[chkC,Zg]at hc<;>exact hc
  refine wpIn_mono (Zbd x _ _ h c hc' k g a w hr) ?_;rintro e a' w' ⟨s',g',h1,h2⟩;cases e with
  |normal=>obtain⟨s2,h3,h4⟩:=h2;exact⟨s2,g',Zl2 fs h1 h3,h4⟩
  |_=>exact⟨s',g',h1,h2⟩
theorem Zmc {F:Fence}{m:Nat}{c:Code}{Q:Exit->Act->World->Prop}{α:Type}(R:α->Act->World->Prop)(μ:α->Nat)
  (round:∀x a w,R x a w->c.wpIn F m P (Exit.then (λa' w'=>∃y,R y a' w'/\μ y<μ x) Q) a w) (x:α) (a:Act) (w:World) (h:R x a w):(Code.loop c).wpIn F m P Q a w:=by
 intro b k cs hro hb hr;have key:∀i x a w,μ x=i->R x a w->∃e a' w',Q e a' w'/\ArrivesIn (Machine.fenced P F) P (lone (b.atR a (.code c::.inLoop c::k)) cs w) b k cs e a' w':=by
  intro i;induction i using Nat.strongRecOn with
  |_ i ih=>
   intro x a w hm hI;obtain⟨e,a₁,w₁,hq,harr⟩:=round x a w hI b (.inLoop c::k) cs hro hb hr;cases e with
   |normal=>
    obtain⟨y,hI₁,hlt⟩:=hq;obtain⟨e₂,a₂,w₂,hq₂,harr₂⟩:=ih (μ y) (hm▸hlt) y a₁ w₁ rfl hI₁;exact⟨e₂,a₂,w₂,hq₂,.of_steps (StepsIn.trans harr (.one (fenced_calm hb hr rfl) stepR_inLoop)) harr₂⟩
   |exit id=>exact⟨_,a₁,w₁,hq,.pass (x:=.inLoop c) rfl (λ_ _=>.inl (by simp)) harr⟩
   |goto l=>exact⟨_,a₁,w₁,hq,.pass (x:=.inLoop c) rfl (λ_ _=>.inl (by simp)) harr⟩
   |ret=>exact⟨_,a₁,w₁,hq,.pass (x:=.inLoop c) rfl (λ_ _=>.inl (by simp)) harr⟩
   |panic ch=>exact⟨_,a₁,w₁,hq,.pass (x:=.inLoop c) rfl (λ_ _=>.inl (by simp)) harr⟩
   |outgrown=>exact⟨_,a₁,w₁,hq,.pass (x:=.inLoop c) rfl (λ_ _=>.inl (by simp)) harr⟩
 obtain⟨e,a',w',hq,harr⟩:=key _ x a w rfl h;exact⟨e,a',w',hq,.of_steps (.one (fenced_calm hb hr rfl) stepR_loop) harr⟩
def ZeX:IC->Nat->Option IC
 |.seq a b,l=>match ZeX a l with
  |some rest=>some (.seq rest b)
  |none=>ZeX b l
 |.label l',l=>if l'==l then some .skip else none
 |.kp _ a,l=>ZeX a l
 |.box a,l=>ZeX a l
 |.pu _ _,_=>none
 |_,_=>none
theorem findI_sound':∀(ic:IC) (c:Code) (l:Nat),chkC P n c ic=true->(∀ir,ZeX ic l=some ir->∃rest,findLabel c l=some rest/\chkC P n rest ir=true)/\(ZeX ic l=none->findLabel c l=none)
 |.pu ..,c,l,h=>by cases c<;>simp_all[chkC,ZeX,findLabel]
 |.kp ks a,c,l,h=>by
  have h':chkC P n c a=true:=by cases c<;>simpa only[chkC]using h
  simpa only[ZeX]using findI_sound' a c l h'
 |.seq i1 i2,c,l,h=>by
  cases c<;>simp only[chkC,Zg,Ze]at h;rename_i c1 c2;obtain⟨h1,h2⟩:=findI_sound' i1 c1 l h.1;obtain⟨h3,h4⟩:=findI_sound' i2 c2 l h.2;simp only[ZeX,findLabel];cases hf:ZeX i1 l with
  |some r=>
   obtain⟨rest,e1,e2⟩:=h1 r hf;refine⟨λir e=>?_,λe=>by cases e⟩;simp only[Zab]at e;subst e;exact⟨.seq rest c2,by simp[e1],by simp[chkC,e2,h.2]⟩
  |none=>
   simp only[h2 hf];exact⟨h3,h4⟩
 |.label l'',c,l,h=>by
  cases c<;>simp only[chkC,Zg,Zag]at h;subst h;simp only[ZeX,findLabel];split
  ·exact⟨λir e=>by simp only[Zab]at e;subst e;exact⟨.skip,rfl,rfl⟩,λe=>by cases e⟩
  exact⟨λir e=>(by cases e),λ_=>rfl⟩
 |.skip,c,l,h=>by cases c<;>simp_all[chkC,ZeX,findLabel]
 |.reg ..,c,l,h=>by cases c<;>simp_all[chkC,ZeX,findLabel]
 |.regD ..,c,l,h=>by cases c<;>simp_all[chkC,ZeX,findLabel]
 |.regF ..,c,l,h=>by cases c<;>simp_all[chkC,ZeX,findLabel]
 |.die _,c,l,h=>by cases c<;>simp_all[chkC,ZeX,findLabel]
 |.cond ..,c,l,h=>by cases c<;>simp_all[chkC,ZeX,findLabel]
 |.block ..,c,l,h=>by cases c<;>simp_all[chkC,ZeX,findLabel]
 |.loop ..,c,l,h=>by cases c<;>simp_all[chkC,ZeX,findLabel]
 |.exit ..,c,l,h=>by cases c<;>simp_all[chkC,ZeX,findLabel]
 |.scope ..,c,l,h=>by cases c<;>simp_all[chkC,ZeX,findLabel]
 |.goto ..,c,l,h=>by cases c<;>simp_all[chkC,ZeX,findLabel]
 |.ret,c,l,h=>by cases c<;>simp_all[chkC,ZeX,findLabel]
 |.rangeF ..,c,l,h=>by cases c<;>simp_all[chkC,ZeX,findLabel]
 |.box a,c,l,h=>by
  have h':chkC P n c a=true:=by cases c<;>simpa only[chkC]using h
  simpa only[ZeX]using findI_sound' a c l h'
theorem Zup {c:Code}{ic:IC}{l:Nat}(h:chkC P n c ic=true):(∀ir,ZeX ic l=some ir->∃rest,findLabel c l=some rest/\chkC P n rest ir=true)/\(ZeX ic l=none->findLabel c l=none):=findI_sound' ic c l h
@[reducible] def Zuf (Q:Exit->St->Prop):Exit->St->Prop
 |.goto _,_=>False
 |e,s=>Q e s
theorem Zcc {b:Frame}{a:Act}{k:List Item}{cs:List Frame}{w:World}{c:Code}:step P (lone (b.atR a (.code (.scope c)::k)) cs w)=.next (lone (b.atR a (.code c::.inScope c::k)) cs w):=
 step_lone_go (by simp[stepG,stepG.exec,Frame.atR])
theorem ZiX {b:Frame}{a:Act}{k:List Item}{cs:List Frame}{w:World}{c:Code}:step P (lone (b.atR a (.inScope c::k)) cs w)=.next (lone (b.atR a k) cs w):=
 step_lone_go (by simp[stepG,stepG.exec,Frame.atR])
theorem Ze4 (id:Nat)(c:Code)(k:List Item):exitTo id (.inScope c::k)=exitTo id k:=by simp[exitTo]
theorem ZlO {F:Fence}{m:Nat}{c:Code}{Q:Exit->Act->World->Prop}{a:Act}{w:World}(h:c.wpIn F m P (λe a w=>(∀l,e≠.goto l)/\Q e a w) a w):(Code.scope c).wpIn F m P Q a w:=by
 intro b k cs hro hb hr;obtain⟨e,a₁,w₁,⟨hne,hq⟩,harr⟩:=h b (.inScope c::k) cs hro hb hr;have h0:(lone (b.atR a (.code (.scope c)::k)) cs w).fenced P F:=fenced_calm hb hr rfl;cases e with
 |normal=>exact⟨.normal,a₁,w₁,hq,.head h0 Zcc (StepsIn.trans harr (.one (fenced_calm hb hr rfl) ZiX))⟩
 |exit id=>exact⟨.exit id,a₁,w₁,hq,λk' hk=>.head h0 Zcc (harr.1 k' (by rw[Ze4];exact hk)),λh1 h2=>let ⟨k₁,h3,h4⟩:=harr.2 h1 (by rw[Ze4];exact h2);⟨k₁,h3,.head h0 Zcc h4⟩⟩
 |goto l'=>exact absurd rfl (hne l')
 |ret=>exact⟨_,a₁,w₁,hq,.of_steps (.one h0 Zcc) harr⟩
 |panic ch=>exact⟨_,a₁,w₁,hq,.of_steps (.one h0 Zcc) harr⟩
 |outgrown=>exact⟨_,a₁,w₁,hq,.of_steps (.one h0 Zcc) harr⟩
theorem EvI.scope0 {b:IC}{Q:Exit->St->Prop}{s:St}(h:vc P n b (Zuf Q) s):EvI P n (.scope b) s Q:=by
 intro c hc k g a w hr;cases c<;>simp only[chkC,Zg]at hc;rename_i c1;refine ZlO (wpIn_mono (Zbd b _ _ h c1 hc k g a w hr) ?_);rintro e a' w' ⟨s',g',h1,h2⟩;cases e with
 |goto l=>exact h2.elim
 |_=>exact⟨λ_ e=>(by cases e),s',g',h1,h2⟩
theorem Zqg {F:Fence}{m:Nat}{c rest:Code}{Q:Exit->Act->World->Prop}{α:Type}(l:Nat)(R:α->Act->World->Prop)(μ:α->Nat)(hf:findLabel c l=some rest){a:Act}{w:World}
  (first:c.wpIn F m P (Exit.jump l (λa w=>∃x,R x a w) Q) a w)
  (pass:∀x a w,R x a w->rest.wpIn F m P (Exit.jump l (λa' w'=>∃y,R y a' w'/\μ y<μ x) Q) a w):(Code.scope c).wpIn F m P Q a w:=by
 intro b k cs hro hb hr;have hg:gotoIn l (.inScope c::k)=some (.code rest::.inScope c::k):=by simp[gotoIn,hf]
 have key:∀i x a w,μ x=i->R x a w->∃e a' w',Q e a' w'/\ArrivesIn (Machine.fenced P F) P (lone (b.atR a (.code rest::.inScope c::k)) cs w) b k cs e a' w':=by
  intro i;induction i using Nat.strongRecOn with
  |_ i ih=>
   intro x a w hn hJ;obtain⟨e,a₁,w₁,hq,harr⟩:=pass x a w hJ b (.inScope c::k) cs hro hb hr;cases e with
   |normal=>exact⟨.normal,a₁,w₁,hq,StepsIn.trans harr (.one (fenced_calm hb hr rfl) ZiX)⟩
   |exit id=>exact⟨.exit id,a₁,w₁,hq,λk' hk=>harr.1 k' (by rw[Ze4];exact hk),λh1 h2=>harr.2 h1 (by rw[Ze4];exact h2)⟩
   |goto l'=>
    obtain⟨rfl,y,hJ',hlt⟩:=hq;obtain⟨e₂,a₂,w₂,hq₂,harr₂⟩:=ih _ (by omega) y a₁ w₁ rfl hJ';exact⟨e₂,a₂,w₂,hq₂,.of_steps (harr.1 _ hg) harr₂⟩
   |ret=>exact⟨_,a₁,w₁,hq,harr⟩
   |panic ch=>exact⟨_,a₁,w₁,hq,harr⟩
   |outgrown=>exact⟨_,a₁,w₁,hq,harr⟩
 have h0:(lone (b.atR a (.code (.scope c)::k)) cs w).fenced P F:=fenced_calm hb hr rfl;obtain⟨e,a₁,w₁,hq,harr⟩:=first b (.inScope c::k) cs hro hb hr
 cases e with
 |normal=>exact⟨.normal,a₁,w₁,hq,.head h0 Zcc (StepsIn.trans harr (.one (fenced_calm hb hr rfl) ZiX))⟩
 |exit id=>exact⟨.exit id,a₁,w₁,hq,λk' hk=>.head h0 Zcc (harr.1 k' (by rw[Ze4];exact hk)),λh1 h2=>let ⟨k₁,h3,h4⟩:=harr.2 h1 (by rw[Ze4];exact h2);⟨k₁,h3,.head h0 Zcc h4⟩⟩
 |goto l'=>
  obtain⟨rfl,x,hJ'⟩:=hq;obtain⟨e₂,a₂,w₂,hq₂,harr₂⟩:=key _ x a₁ w₁ rfl hJ';exact⟨e₂,a₂,w₂,hq₂,.of_steps (.head h0 Zcc (harr.1 _ hg)) harr₂⟩
 |ret=>exact⟨_,a₁,w₁,hq,.of_steps (.one h0 Zcc) harr⟩
 |panic ch=>exact⟨_,a₁,w₁,hq,.of_steps (.one h0 Zcc) harr⟩
 |outgrown=>exact⟨_,a₁,w₁,hq,.of_steps (.one h0 Zcc) harr⟩
@[reducible] def Zya (l:Nat)(J:St->Prop)(Q:Exit->St->Prop):Exit->St->Prop
 |.goto l',s=>l'=l/\J s
 |e,s=>Q e s
end
end Go.Eng

namespace Go.Eng
open Go
def ZjX (P:Program):List ResultVar->List RV->Bool
 |[],[]=>true
 |.tmp t::r,.tmp t'::r'=>decide (t=t')&&ZjX P r r'
 |.cell t ty::r,.cell t' m isA::r'=>decide (t=t')&&Zdh P ty m&&Zsq P ty isA&&ZjX P r r'
 |_,_=>false
def chkF (P:Program)(f:Nat)(F:IFn):Bool:=match P.funcs[f]? with
 |some fn=>(match fn.body with
  | some c=>chkC P fn.ntmps c F.body&&ZjX P fn.results.toList F.res&&decide (F.nargs<=fn.ntmps)&&decide (fn.ntmps=F.nt) && !(fn.name == "runtime.NumGoroutine")
  |none=>false)
 |none=>false
@[reducible] def endQ (R:St->Prop):Exit->St->Prop
 |.normal,s|.ret,s=>R s
 |_,_=>False
def resF (tmps:Array Value):ResultVar->Sem Value
 |.tmp t=>pure (tmps.getD t undef)
 |.cell a t=>do loadVar t (←asAddr (tmps.getD a undef))
theorem Znf (fn:Func)(tmps:Array Value):results fn tmps=(do let vs←fn.results.mapM (resF tmps);pure (if h:vs.size=1 then vs[0]else .tuple vs)):=rfl
section
variable {P:Program} {k:K0} {n:Nat} {g:G} {s:St} {a:Act} {w:World}
theorem Znw:∀(args:List AV) (i t:Nat),get (Zhy args i) t=if i<=t then(args[t-i]?).getD .any else .any
 |[],i,t=>by simp[Zhy,get]
 |v::vs,i,t=>by
  simp only[Zhy,get];by_cases h:i=t
  ·subst h;simp
  rw[Zai h,Znw vs (i+1) t];by_cases h1:i<=t
  ·rw[Zaj (by omega),Zaj h1,show t-i=(t-(i+1))+1 by omega,ZC]
  rw[Zai (by omega),Zai h1]
theorem Zp0 {ok0:Addr->Prop}{ρ:List Nat}{H:List HO}{args:List AV}{vs:List Value}(hr:HR (k0 ok0 ρ H w) ρ H w)(hv:VRL (cx (k0 ok0 ρ H w) ⟨ρ,noB⟩ H w) args vs)(hno:noLocL args=true)(hn:args.length<=n):
  Rel (k0 ok0 ρ H w) n ⟨ρ,noB⟩ ⟨Zhy args 0,[],H⟩ {tmps:=vs.toArray++Array.replicate (n-vs.toArray.size) undef,defers:=[]} w:=
 have hl:=hv.length
 {defers:=⟨[],[],rfl,List.nodup_nil,λD h=>(by cases h)⟩
  rnd:=λl h=>(by cases h)
  tsz:=by simp;omega
  slots:=λt=>by
   simp only[Znw,Nat.zero_le,Zak,Nat.sub_zero];cases ht:args[t]? with
   |none=>simp[VR]
   |some x=>
    have hlt:=(List.getElem?_eq_some_iff.1 ht).1;have hlt':t<vs.length:=by omega
    have:(vs.toArray++Array.replicate (n-vs.toArray.size) undef).getD t undef=vs[t]:=by
     rw[Za,Array.getElem?_append_left (by simpa using hlt')];simp[hlt']
    rw[this];exact(Zed.1 hv).2 t x _ ht (ZF hlt')
  tops:=λt=>by
   simp only[Znw,Nat.zero_le,Zak,Nat.sub_zero];cases ht:args[t]? with
   |none=>rfl
   |some x=>exact ZaP (ZbV.1 hno x (List.mem_of_getElem? ht))
  boxes:=λt cs e=>by simp[bget]at e
  boxed:=λt b e=>by cases e
  heap:=hr.heap
  len:=hr.len
  inj:=hr.inj
  binj:=λt u b e=>by cases e
  apart:=λt i b e=>by cases e
  own:=hr.own
  keep:=hr.keep
  hist:=Zbl.refl _}
theorem Zko (h:Rel k n g s a w):∀{rs:List ResultVar} {is:List RV} {xs:List AV},ZjX P rs is=true->rawL s is=some xs→
  ∃us:List Value,(rs.mapM (m:=Sem) (resF a.tmps)).run P w=.ok us w/\VRL (cx k g s.H w) xs us
 |[],[],xs,_,hx=>by
  simp only[rawL,Zab]at hx;subst hx;exact⟨[],rfl,by rw[VRL]⟩
 |.tmp t::rs,.tmp t'::is,xs,hc,hx=>by
  simp only[ZjX,Ze,Zag]at hc;obtain⟨rfl,hc⟩:=hc;simp only[rawL,rawV,Z8]at hx;cases hr:rawL s is with
  |none=>simp[hr]at hx
  |some ys=>
   simp only[hr,Zaa,Zab]at hx;subst hx;obtain⟨us,h1,h2⟩:=Zko h hc hr;refine⟨a.tmps.getD t undef::us,?_,by rw[VRL];exact⟨_,_,rfl,h.slots t,h2⟩⟩;rw[List.mapM_cons];simp only[Sem.run_bind,resF,Sem.run_pure,Result.andThen_ok,h1]
 |.cell p ty::rs,.cell p' m isA::is,xs,hc,hx=>by
  simp only[ZjX,Ze,Zag]at hc;obtain⟨⟨⟨rfl,hsz⟩,hag⟩,hc⟩:=hc;simp only[rawL,rawV]at hx;cases hrd:rd s.bx s.H m (get s.fr p)with
  |none=>simp[hrd]at hx
  |some cs=>
   simp only[hrd,Z8]at hx;cases hmk:mk isA cs with
   |none=>simp[hmk]at hx
   |some r=>
    simp only[hmk,Z8]at hx;cases hr:rawL s is with
    |none=>simp[hr]at hx
    |some ys=>
     simp only[hr,Zaa,Zab]at hx;subst hx;obtain⟨us,h1,h2⟩:=Zko h hc hr;obtain⟨A,vs,e,v1,v2,v3,v4⟩:=ZuK h hrd (h.slots p);have hone:isA=false->m=1:=λe=>by
      have:=ZuP hmk e;rw[←v2,v1.length];exact this
     have hload:=Zo3 (P:=P) (w:=w) hsz hag v2 hone v4;refine⟨_::us,?_,by rw[VRL];exact⟨_,_,rfl,Zx4 hmk v1,h2⟩⟩;have hf:(resF a.tmps (.cell p ty)).run P w=.ok (if isA then .agg vs.toArray else vs.getD 0 undef) w:=by
      simp only[resF,Sem.run_bind,e,asAddr,Sem.run_pure,Result.andThen_ok,hload]
     rw[List.mapM_cons];simp only[Sem.run_bind,hf,Sem.run_pure,Result.andThen_ok,h1]
 |[],_::_,_,hc,_=>by simp[ZjX]at hc
 |.tmp _::_,[],_,hc,_=>by simp[ZjX]at hc
 |.cell _ _::_,[],_,hc,_=>by simp[ZjX]at hc
 |.tmp _::_,.cell .. ::_,_,hc,_=>by simp[ZjX]at hc
 |.cell _ _::_,.tmp _::_,_,hc,_=>by simp[ZjX]at hc
theorem Zrw {c:Cx}{xs:List AV}{us:List Value}(h:VRL c xs us):VR c (ZcP xs) (if h:us.toArray.size=1 then us.toArray[0]else .tuple us.toArray):=by
 unfold ZcP;split
 ·obtain⟨v,rfl,h'⟩:=Zfq h;simpa using h'
 rename_i hne;have hl:=h.length;rw[dif_neg]
 ·rw[VR];exact⟨us,rfl,h⟩
 intro e;simp only[List.size_toArray]at e;rw[hl]at e
 match xs,e with
 |[v],_=>exact hne v rfl
theorem Zt0 (h:Rel k n g s a w){fn:Func}{is:List RV}{xs:List AV}(hc:ZjX P fn.results.toList is=true)(hx:rawL s is=some xs):
  ∃v,(results fn a.tmps).run P w=.ok v w/\VR (cx k g s.H w) (ZcP xs) v:=by
 obtain⟨us,h1,h2⟩:=Zko (P:=P) h hc hx;refine⟨_,?_,Zrw h2⟩;rw[Znf];have hm:(fn.results.mapM (m:=Sem) (resF a.tmps)).run P w=.ok us.toArray w:=by
  rw[←Array.toArray_toList (xs:=fn.results),List.mapM_toArray,Sem.run_map];rw[h1];rfl
 simp only[Sem.run_bind,hm,Result.andThen_ok,Sem.run_pure]
theorem Rel.noBoxes (h:Rel k n g s a w):Zbl (cx k g s.H w) (cx k ⟨g.ρ,noB⟩ s.H w):=
 {stay:=λa u ho hc=>⟨hc,ho.1,λt e=>(by cases e),ho.2.2⟩
  arr:=λid sz ver frz rows e=>⟨ver,frz,rows,e,Nat.le_refl _,λ_=>⟨Nat.le_refl _,rfl,λb vs _ hb=>⟨vs,hb,rfl⟩⟩⟩
  cells:=λid cs e=>⟨⟨cs,e⟩,rfl⟩
  lp:=λ_ _ _ st e=>⟨⟨st,e⟩,rfl⟩}
theorem Rel.toHR (h:Rel k n g s a w):HR k g.ρ s.H w:=
 {heap:=λid o e=>let ⟨b,hb,hr⟩:=h.heap id o e;⟨b,hb,hr.later h.noBoxes λ_ hb=>hb⟩
  len:=h.len
  inj:=h.inj
  own:=h.own
  keep:=h.keep}
structure Off (w w':World) (D:Nat):Prop where
 os:w'.os=w.os
 tape:w'.tape=w.tape
 output:w'.output=w.output
 size:w'.heap.size=w.heap.size
 block:∀i,i≠D->w'.heap[i]?=w.heap[i]?
 no:∀vs e f,w.heap[D]?≠some (.cells vs e f)
theorem Off.put {w:World}{D:Nat}(o:Obj)(h:∀vs e f,w.heap[D]?≠some (.cells vs e f)):Off w (w.putObj D o) D:=
 ⟨rfl,rfl,rfl,World.putObj_size,λi hi=>World.putObj_heap_other hi,h⟩
theorem Off.cell {w w':World}{D:Nat}(u:Off w w' D){a:Addr}{x:Value}(hc:w.cell? a=some x):w'.cell? a=some x:=by
 rw[World.cell?_of_block (u.block a.block (λe=>?_))];exact hc;subst e;unfold World.cell? at hc;split at hc
 ·rename_i c e f h;exact u.no c e f h
 cases hc
theorem Off.blk {H H':List HO}{g g':G}{w w':World}{D:Nat}(u:Off w w' D){b:Nat}{vs:Array Value}(hb:(cx k g H w).blk b vs):(cx k g' H' w').blk b vs:=by
 obtain⟨e,hb⟩:=hb;exact⟨e,(u.block b (λe'=>by subst e';exact u.no _ _ _ hb)).trans hb⟩
theorem Keep.off {D0:Nat->Prop}{w0 w w':World}{b:Nat}(h:Keep D0 w0 w)(u:Off w w' b)(hb:w0.heap.size<=b∨D0 b):Keep D0 w0 w':=
 ⟨u.os.trans h.os,u.tape.trans h.tape,u.output.trans h.output,by rw[u.size];exact h.size,λi hi hD=>by
  rw[u.block i (λe=>by subst e;rcases hb with hb|hb;omega;exact hD hb)];exact h.block i hi hD⟩
theorem ZwV {w':World}{D:Nat}(u:Off w w' D)(g:G)(H:List HO):Zbl (cx k g H w) (cx k g H w'):=
 {stay:=λa x ho hc=>⟨u.cell hc,ho⟩
  arr:=λid sz ver frz rows e=>⟨ver,frz,rows,e,Nat.le_refl _,λ_=>⟨Nat.le_refl _,rfl,λb vs _ hb=>⟨vs,u.blk hb,rfl⟩⟩⟩
  cells:=λid cs e=>⟨⟨cs,e⟩,rfl⟩
  lp:=λ_ _ _ st e=>⟨⟨st,e⟩,rfl⟩}
theorem Rel.close1 (h:Rel k n g s a w){D:Nat}{ms ms2:List Nat}(hd:a.defers=(D::ms).map (λD=>{target:=.collected D,args:=#[]})++(k.tl++ms2.map (λD=>{target:=.collected D,args:=#[]})))(hn:(D::ms++ms2).Nodup)
  (hm:∀D'∈D::ms++ms2,k.w0.heap.size<=D'/\w.heap[D']?=some (.deferred (some []))):
  (Instr.takeDeferred D).run P w=.ok [] (w.putObj D (.deferred none))/\Rel k n g s {a with defers:=ms.map (λD=>{target:=.collected D,args:=#[]})++(k.tl++ms2.map (λD=>{target:=.collected D,args:=#[]}))} (w.putObj D (.deferred none))∧
   ∀D'∈ms++ms2,k.w0.heap.size<=D'/\(w.putObj D (.deferred none)).heap[D']?=some (.deferred (some [])):=by
 obtain⟨hge,hD⟩:=hm D (by simp);have u:Off w (w.putObj D (.deferred none)) D:=.put _ (λvs e f h=>by rw[hD]at h;cases h);have hl:=ZwV (k:=k) u g s.H;have hobj:∀b,b≠D->∀o,w.heap[b]?=some o->(w.putObj D (.deferred none)).heap[b]?=some o:=λb hb o ho=>(u.block b hb).trans ho
 rw[Zu]at hn;have hm':∀D'∈ms++ms2,k.w0.heap.size<=D'/\(w.putObj D (.deferred none)).heap[D']?=some (.deferred (some [])):=λD' hD'=>
  ⟨(hm D' (by rw[Zu];exact List.mem_cons_of_mem _ hD')).1,hobj D' (λe=>by subst e;exact(List.nodup_cons.1 hn).1 hD') _ (hm D' (by rw[Zu];exact List.mem_cons_of_mem _ hD')).2⟩
 refine⟨run_takeDeferred hD,?_,hm'⟩;exact
  {defers:=⟨ms,ms2,rfl,(List.nodup_cons.1 hn).2,hm'⟩
   rnd:=λl hl=>let ⟨r,hr⟩:=h.rnd l hl;⟨r,hobj l (λe=>by subst e;rw[hD]at hr;cases hr) _ hr⟩
   tsz:=h.tsz
   slots:=λt=>Zbz hl (λ_ _ e=>e) (h.tops t) (h.slots t)
   tops:=h.tops
   boxes:=λt cs e=>let ⟨b,hb,hr⟩:=h.boxes t cs e;⟨b,hb,hr.later hl (hobj b (λe=>by
    subst e;obtain⟨_,vs,⟨et,hr⟩,_⟩:=hr;rw[show w.heap[b]?=_ from hr]at hD;cases hD))⟩
   boxed:=h.boxed
   heap:=λid o e=>let ⟨b,hb,hr⟩:=h.heap id o e;⟨b,hb,hr.later hl (hobj b (λe=>by subst e;exact h.notDeferred hb hD))⟩
   len:=h.len
   inj:=h.inj
   binj:=h.binj
   apart:=h.apart
   own:=h.own
   keep:=h.keep.off u (.inl hge)
   hist:=h.hist.trans hl}
theorem Rel.leavesT {fn:Func}{R:Ending->World->Prop}{u:FrameMode}(hu:u≠.run){ms2:List Nat}:∀(ms:List Nat) {a:Act} {w:World},Rel k n g s a w->a.defers=ms.map (λD=>{target:=.collected D,args:=#[]})++(k.tl++ms2.map (λD=>{target:=.collected D,args:=#[]}))->(ms++ms2).Nodup→
  (∀D'∈ms++ms2,k.w0.heap.size<=D'/\w.heap[D']?=some (.deferred (some [])))→
  (∀w',Rel k n g s {a with defers:=k.tl++ms2.map (λD=>{target:=.collected D,args:=#[]})} w'->(∀D'∈ms2,k.w0.heap.size<=D'/\w'.heap[D']?=some (.deferred (some [])))->LeavesInM (FR none) 0 P fn a.tmps R (k.tl++ms2.map (λD=>{target:=.collected D,args:=#[]})) u w')->LeavesInM (FR none) 0 P fn a.tmps R a.defers u w
 |[],a,w,h,hd,hn,hm,hR=>by
  simp only[ZV,ZY]at hd;rw[hd];have:a={a with defers:=k.tl++ms2.map (λD=>{target:=.collected D,args:=#[]})}:=by cases a;simp only at hd;simp[hd]
  exact hR w (this▸h) (by simpa using hm)
 |D::ms,a,w,h,hd,hn,hm,hR=>by
  obtain⟨h1,h2,h3⟩:=h.close1 (P:=P) hd hn hm;have:=Rel.leavesT (fn:=fn) (R:=R) hu ms h2 rfl (by rw[Zu]at hn;exact(List.nodup_cons.1 hn).2) h3 (λw' h'=>hR w' h');rw[hd,ZU,Zu];exact⟨hu,.inl ⟨D,_,rfl,h1,this⟩⟩
theorem Rel.leavesU {fn:Func}{R:Ending->World->Prop}{u:FrameMode}(hu:u≠.run)(h:Rel k n g s a w)(hR:∀w',Rel k n g s {a with defers:=[]} w'->LeavesInM (FR none) 0 P fn a.tmps R [] u w')(htl:k.tl=[]:=by rfl):
  LeavesInM (FR none) 0 P fn a.tmps R a.defers u w:=by
 obtain⟨ms,ms2,e,hn,hm⟩:=h.defers;refine Rel.leavesT (ms2:=[]) hu (ms++ms2) h (by rw[e,htl];simp) (by simpa using hn) (by simpa using hm) λw' h' _=>?_
 rw[htl]at h'⊢;exact hR w' h'
theorem Rel.leavesAll {fn:Func}{R:Ending->World->Prop}(h:Rel k n g s a w)(hR:∀w',Rel k n g s {a with defers:=[]} w'->∃v,(results fn a.tmps).run P w'=.ok v w'/\R (.returned v) w')(htl:k.tl=[]:=by rfl):
  LeavesInM (FR none) 0 P fn a.tmps R a.defers .returning w:=h.leavesU (by simp) (λw' h'=>hR w' h') htl
theorem Zsr {f:Nat}{F:IFn}(hk:chkF P f F=true){args:List AV}{H H':List HO}{r:AV}(hl:args.length=F.nargs)(hno:noLocL args=true)(hr:ZaV r=true)
  (h:EvI P F.nt F.body ⟨Zhy args 0,[],H⟩ (endQ λs'=>∃xs,rawL s' F.res=some xs/\ZcP xs=r/\s'.H=H')):ZbW P f args H r H':=by
 unfold chkF at hk;split at hk
 ·rename_i fn hf;split at hk
  ·rename_i c hb;simp only[Ze,Zag,Zh]at hk;obtain⟨⟨⟨⟨hc,hres⟩,hna⟩,hnt⟩,hname⟩:=hk;refine⟨⟨fn,hf,by rw[hb];rfl,hname⟩,hr,λok0 ρ w vs hhr hv=>?_⟩;have hrel:=Zp0 (n:=fn.ntmps) hhr hv hno (by omega);refine Zsn (r:=none) (m:=0) (callsIn_of_wp_marks hf hb trivial (wpIn_mono (h c (by rw[←hnt];exact hc) _ _ _ _ (by rw[←hnt];exact hrel)) ?_));rintro e a' w' ⟨s',g',h1,h2⟩;have key:(∃xs,rawL s' F.res=some xs/\ZcP xs=r/\s'.H=H')->LeavesInM (FR none) 0 P fn a'.tmps (λe w'=>∃v' ρ',e=.returned v'/\HR (k0 ok0 ρ H w) ρ' H' w'/\VR (cx (k0 ok0 ρ H w) ⟨ρ',noB⟩ H' w') r v'∧
     Zbl (cx (k0 ok0 ρ H w) ⟨ρ,noB⟩ H w) (cx (k0 ok0 ρ H w) ⟨ρ',noB⟩ H' w')) a'.defers .returning w':=by
    rintro⟨xs,x1,rfl,rfl⟩;refine h1.leavesAll λw2 h2=>?_
    obtain⟨v,v1,v2⟩:=Zt0 h2 hres x1;exact⟨v,v1,v,g'.ρ,rfl,h2.toHR,VR.later h2.noBoxes _ _ hr v2,h2.hist.trans h2.noBoxes⟩
   cases e with
   |normal=>exact key h2
   |ret=>exact key h2
   |_=>exact h2.elim
  cases hk
 cases hk
theorem Zpu {ok0:Addr->Prop}{w0:World}(h:Rel (k0 ok0 [] [] w0) n g s a w){x r:AV}{v:Value}(hp:ZrU s.H x=some r)(hv:VR (cx (k0 ok0 [] [] w0) g s.H w) x v):
  VR (cx (k0 ok0 [] [] w0) ⟨[],noB⟩ [] w) r v/\ZkB r=true:=by
 have hst:Stay (okOf (k0 ok0 [] [] w0) s.H g) (okOf (k0 ok0 [] [] w0) [] ⟨[],noB⟩) w w:=λa u ho hc=>⟨hc,ho.1,λt e=>(by cases e),λid e=>by simp at e⟩
 unfold ZrU at hp;split at hp
 ·simp only[Zab]at hp;subst hp;exact⟨VR.weak1 (ZmT hst rfl hv),rfl⟩
 ·simp only[Zab]at hp;subst hp;exact⟨ZmT hst rfl hv,rfl⟩
 ·rename_i sz id ver off len;split at hp
  ·rename_i sz' ver' frz rows hH;split at hp
   ·rename_i hcond;obtain⟨rfl,rfl⟩:=hcond;cases hs:sub off len rows with
    |none=>simp[hs]at hp
    |some r0=>
     simp only[hs,Zaa,Zab]at hp;subst hp;refine⟨?_,rfl⟩;obtain⟨h1,hl,hv2,_⟩:=Zk2 (x:=.osl sz' id ver' off len) (x':=.p (.sl sz' false r0)) (H':=s.H.set id (.arr sz' ver' true rows)) h (by simp[frz1,hH,hs]) hv;exact ZmT (c:=cx (k0 ok0 [] [] w0) g (s.H.set id (.arr sz' ver' true rows)) w) (c':=cx (k0 ok0 [] [] w0) ⟨[],noB⟩ [] w) (λa u ho hc=>⟨hc,ho.1,λt e=>(by cases e),λid e=>by simp at e⟩) rfl hv2
   cases hp
  cases hp
 cases hp
theorem Zpt {ok0:Addr->Prop}{w0:World}(h:Rel (k0 ok0 [] [] w0) n g s a w):∀{xs rs:List AV} {vs:List Value},Zoq s.H xs=some rs->VRL (cx (k0 ok0 [] [] w0) g s.H w) xs vs→
  VRL (cx (k0 ok0 [] [] w0) ⟨[],noB⟩ [] w) rs vs/\ZkA rs=true
 |[],rs,vs,hp,hv=>by
  simp only[Zoq,Zab]at hp;subst hp;rw[VRL]at hv⊢;exact⟨hv,rfl⟩
 |x::xs,rs,vs,hp,hv=>by
  simp only[Zoq]at hp;cases h1:ZrU s.H x with
  |none=>simp[h1]at hp
  |some y=>
   simp only[h1,Z8]at hp;cases h2:Zoq s.H xs with
   |none=>simp[h2]at hp
   |some ys=>
    simp only[h2,Zaa,Zab]at hp;subst hp;rw[VRL]at hv;obtain⟨u,us,rfl,v1,v2⟩:=hv;obtain⟨a1,a2⟩:=Zpu h h1 v1;obtain⟨b1,b2⟩:=Zpt h h2 v2;exact⟨by rw[VRL];exact⟨u,us,rfl,a1,b1⟩,by simp[ZkA,a2,b2]⟩
theorem Zt9 {ok0:Addr->Prop}{w0:World}(h:Rel (k0 ok0 [] [] w0) n g s a w){x r:AV}{v:Value}(hp:Zmz s.H x=some r)(hv:VR (cx (k0 ok0 [] [] w0) g s.H w) x v):
  VR (cx (k0 ok0 [] [] w0) ⟨[],noB⟩ [] w) r v/\ZkC r=true:=by
 unfold Zmz at hp;split at hp
 ·rename_i cs;cases h1:Zoq s.H cs with
  |none=>simp[h1]at hp
  |some rs=>
   simp only[h1,Zaa,Zab]at hp;subst hp;rw[VR]at hv;obtain⟨vs,rfl,hv⟩:=hv;obtain⟨a1,a2⟩:=Zpt h h1 hv;exact⟨by rw[VR];exact⟨vs,rfl,a1⟩,by simpa[ZkC]using a2⟩
 obtain⟨a1,a2⟩:=Zpu h hp hv;refine⟨a1,?_⟩;cases r<;>simp_all[ZkC,ZkB]
theorem ZxR {is:List RV}{rs:List AV}(h:resL s is=some rs):∃xs,rawL s is=some xs/\xs.length=rs.length/\∀(j:Nat) x r,xs[j]?=some x->rs[j]?=some r->Zmz s.H x=some r:=by
 induction is generalizing rs with
 |nil=>simp only[resL,Zab]at h;subst h;exact⟨[],rfl,rfl,by simp⟩
 |cons i is ih=>
  simp only[resL]at h;cases h1:resV s i with
  |none=>simp[h1]at h
  |some y=>
   simp only[h1,Z8]at h;cases h2:resL s is with
   |none=>simp[h2]at h
   |some ys=>
    simp only[h2,Zaa,Zab]at h;subst h;obtain⟨xs,a1,a2,a3⟩:=ih h2;have:∃x,rawV s i=some x/\Zmz s.H x=some y:=by
     cases i with
     |tmp t=>exact⟨get s.fr t,rfl,h1⟩
     |cell t m b=>
      simp only[resV]at h1;cases h3:(rd s.bx s.H m (get s.fr t)).bind (mk b)with
      |none=>simp[h3]at h1
      |some x=>exact⟨x,h3,by simpa[h3]using h1⟩
    obtain⟨x,x1,x2⟩:=this;refine⟨x::xs,by simp[rawL,x1,a1],by simp[a2],λj x' r' hx hr=>?_⟩;cases j with
    |zero=>simp at hx hr;subst hx hr;exact x2
    |succ j=>exact a3 j x' r' (by simpa using hx) (by simpa using hr)
theorem ZxW {f:Nat}{F:IFn}(hk:chkF P f F=true){args:List AV}{r:AV}(hl:args.length=F.nargs)(hpa:Zir args=true)
  (h:EvI P F.nt F.body ⟨Zhy args 0,[],[]⟩ (endQ λs'=>∃xs,resL s' F.res=some xs/\ZcP xs=r)) (hpr:Zip r=true):Zle P f args r:=by
 refine⟨hpr,hpa,?_⟩;unfold chkF at hk;split at hk
 ·rename_i fn hf;split at hk
  ·rename_i c hb;simp only[Ze,Zag,Zh]at hk;obtain⟨⟨⟨⟨hc,hres⟩,hna⟩,hnt⟩,hname⟩:=hk;have hno:ZaV r=true:=by
    cases r with
    |tup vs=>simpa[ZaV]using ZfZ (by simpa[Zip]using hpr)
    |_=>exact Zq3 (by simpa[Zip]using hpr)
   refine⟨⟨fn,hf,by rw[hb];rfl,hname⟩,hno,λok0 ρ w vs hhr hv=>?_⟩;have hρ:ρ=[]:=List.eq_nil_of_length_eq_zero hhr.len;subst hρ;have hrel:=Zp0 (n:=fn.ntmps) hhr hv (ZfZ hpa) (by omega);refine Zsn (r:=none) (m:=0) (callsIn_of_wp_marks hf hb trivial (wpIn_mono (h c (by rw[←hnt];exact hc) _ _ _ _ (by rw[←hnt];exact hrel)) ?_));rintro e a' w' ⟨s',g',h1,h2⟩;have key:(∃xs,resL s' F.res=some xs/\ZcP xs=r)->LeavesInM (FR none) 0 P fn a'.tmps (λe w'=>∃v' ρ',e=.returned v'/\HR (k0 ok0 [] [] w) ρ' [] w'/\VR (cx (k0 ok0 [] [] w) ⟨ρ',noB⟩ [] w') r v'∧
     Zbl (cx (k0 ok0 [] [] w) ⟨[],noB⟩ [] w) (cx (k0 ok0 [] [] w) ⟨ρ',noB⟩ [] w')) a'.defers .returning w':=by
    rintro⟨rs,x1,rfl⟩;obtain⟨xs,y1,y2,y3⟩:=ZxR x1;refine h1.leavesAll λw2 h2'=>?_
    have hkp:∀i,i<w.heap.size->w2.heap[i]?=w.heap[i]?:=λi hi=>h2'.keep.block i hi (λ⟨j,hj⟩=>by simp at hj)
    have hg:Grow w w2:=⟨h2'.keep.os,h2'.keep.tape,h2'.keep.output,h2'.keep.size,hkp⟩;obtain⟨us,h3,h4⟩:=Zko (P:=P) h2' hres y1;have h5:VRL (cx (k0 ok0 [] [] w) ⟨[],noB⟩ [] w2) rs us:=by
     rw[Zed]at h4⊢;refine⟨by omega,λj r u hr hu=>?_⟩;have hjl:j<xs.length:=by rw[y2];exact(List.getElem?_eq_some_iff.1 hr).1
     have hx:=ZF hjl;exact(Zt9 h2' (y3 j _ r hx hr) (h4.2 j _ u hx hu)).1
    refine⟨_,?_,_,[],rfl,?_,Zrw h5,Ze3 hg []⟩
    ·rw[Znf];have hm:(fn.results.mapM (m:=Sem) (resF a'.tmps)).run P w2=.ok us.toArray w2:=by
      rw[←Array.toArray_toList (xs:=fn.results),List.mapM_toArray,Sem.run_map,h3];rfl
     simp only[Sem.run_bind,hm,Result.andThen_ok,Sem.run_pure]
    exact
     {heap:=λid o e=>by simp at e
      len:=rfl
      inj:=λi j b e=>by simp at e
      own:=λi b e=>by simp at e
      keep:=h2'.keep}
   cases e with
   |normal=>exact key h2
   |ret=>exact key h2
   |_=>exact h2.elim
  cases hk
 cases hk
end
end Go.Eng

namespace Go.Eng
open Go
abbrev ZtU:=Nat->List AV->List HO->Option (AV×List HO)
def ZrD (call:ZtU)(i:Ins)(s:St):Option St:=
 match i with
 |.call d f xs=>(frzL s.H (xs.map (ev s.fr))).bind λ(args,H1)=>(call f args H1).map λ(r,H2)=>⟨putO s.fr d r,s.bx,H2⟩
 |.callP d f xs=>if Zir (weakVs (xs.map (ev s.fr)))then(call f (weakVs (xs.map (ev s.fr))) []).bind λ(r,H2)=>if H2.isEmpty&&Zip r then some ⟨put s.fr d r,s.bx,s.H⟩else none else none
 |.callV d fx xs=>match ev s.fr fx with
  |.fn f first cap=>(frzL s.H (first++xs.map (ev s.fr)++cap)).bind λ(args,H1)=>(call f args H1).map λ(r,H2)=>⟨putO s.fr d r,s.bx,H2⟩
  |_=>none
 |i=>Za0 i s
def opF (call:ZtU)(o:IOp)(s:St):Option St:=
 match o.g with
 |none=>if bnOK o s.fr=true then ZrD call o.i s else none
 |some (t,want)=>match get s.fr t with
  |.p (.bool b)=>if b=want then(if bnOK o s.fr=true then ZrD call o.i s else none)else some ⟨putO s.fr (dstI o.i) (.nl .unit),s.bx,s.H⟩
  |.nl .unit=>some ⟨putO s.fr (dstI o.i) (.nl .unit),s.bx,s.H⟩
  |_=>none
def opsF (call:ZtU):List IOp->St->Option St
 |[],s=>some s
 |o::os,s=>(opF call o s).bind (opsF call os)
section
variable {P:Program} {n N:Nat}
def ZoK (P:Program)(call:ZtU):Prop:=∀f args H r H',call f args H=some (r,H')->ZbW P f args H r H'
theorem Zo0 {call:ZtU}(hc:ZoK P call){i:Ins}{s s':St}(h:ZrD call i s=some s'):ZaH P i s s':=by
 cases i with
 |call d f xs=>
  simp only[ZrD]at h;cases h1:frzL s.H (xs.map (ev s.fr))with
  |none=>simp[h1]at h
  |some p=>
   obtain⟨args,H1⟩:=p;simp only[h1,Z8]at h;cases h2:call f args H1 with
   |none=>simp[h2]at h
   |some q=>
    obtain⟨r,H2⟩:=q;simp only[h2,Zaa,Zab]at h;exact⟨args,H1,r,H2,.frz h1,hc _ _ _ _ _ h2,h.symm⟩
 |callP d f xs=>
  simp only[ZrD]at h;split at h
  ·rename_i hp;cases h2:call f (weakVs (xs.map (ev s.fr))) []with
   |none=>simp[h2]at h
   |some q=>
    obtain⟨r,H2⟩:=q;simp only[h2,Z8]at h;split at h
    ·rename_i hcond;simp only[Ze,List.isEmpty_iff]at hcond;obtain⟨rfl,hpr⟩:=hcond;simp only[Zab]at h;exact⟨r,⟨hpr,hp,hc _ _ _ _ _ h2⟩,h.symm⟩
    cases h
  cases h
 |callV d fx xs=>
  simp only[ZrD]at h;split at h
  ·rename_i f first cap h0
   cases h1:frzL s.H (first++xs.map (ev s.fr)++cap)with
   |none=>rw[h1]at h;cases h
   |some p=>
    obtain⟨args,H1⟩:=p;simp only[h1,Z8]at h;cases h2:call f args H1 with
    |none=>simp[h2]at h
    |some q=>
     obtain⟨r,H2⟩:=q;simp only[h2,Zaa,Zab]at h;exact⟨f,first,cap,args,H1,r,H2,h0,.frz h1,hc _ _ _ _ _ h2,h.symm⟩
  cases h
 |callY d fx xs=>simp[ZrD,Za0]at h
 |callQ d f xs=>simp[ZrD,Za0]at h
 |sp d q xs=>simp[ZrD,Za0]at h
 |_=>exact h
theorem ZwL {call:ZtU}(hc:ZoK P call){o:IOp}{s s':St}(h:opF call o s=some s'):AOp P o s s':=by
 unfold opF at h;unfold AOp;split at h
 ·rename_i hg;rw[hg];split at h
  ·rename_i hb;exact⟨hb,Zo0 hc h⟩
  cases h
 rename_i t want hg;rw[hg];simp only;split at h
 ·rename_i b hget;rw[hget];simp only;split at h
  ·rename_i hb;rw[Zaj hb];split at h
   ·rename_i hbn;exact⟨hbn,Zo0 hc h⟩
   cases h
  rename_i hb;rw[Zai hb];simp only[Zab]at h;exact h.symm
 ·rename_i hget;rw[hget];simp only[Zab]at h;exact h.symm
 cases h
theorem Zq1 {call:ZtU}(hc:ZoK P call):∀{os:List IOp} {s s':St},opsF call os s=some s'->Zba P os s s'
 |[],s,s',h=>by simp only[opsF,Zab]at h;exact h.symm
 |o::os,s,s',h=>by
  simp only[opsF]at h;cases h1:opF call o s with
  |none=>simp[h1]at h
  |some s1=>simp only[h1,Z8]at h;exact⟨s1,ZwL hc h1,Zq1 hc h⟩
theorem EvI.loopR {b:IC}{Q:Exit->St->Prop}{α:Type}(R:α->St->Prop)(μ:α->Nat)
  (round:∀x s,R x s->EvI P n b s (Zk9 (λs'=>∃y,R y s'/\μ y<μ x) Q)) (x:α) (s:St) (h:R x s):EvI P n (.loop b) s Q:=by
 intro c hc k g a w hr;cases c<;>simp only[chkC,Zg]at hc;rename_i c1;refine Zmc (R:=λx a w=>∃s,R x s/\∃g,Rel k n g s a w) μ (λx a w h=>?_) x a w ⟨s,h,g,hr⟩;obtain⟨s,hx,g,hr⟩:=h;refine wpIn_mono (round x s hx c1 hc k g a w hr) ?_;rintro e a' w' ⟨s',g',h1,h2⟩;cases e with
 |normal=>
  obtain⟨y,hy,hlt⟩:=h2;exact⟨y,⟨s',hy,g',h1⟩,hlt⟩
 |_=>exact⟨s',g',h1,h2⟩
end
end Go.Eng

namespace Go.Eng
open Go Go.RowKit Go.WideShapes Go.ChangeShapes
theorem Zle.run {P:Program}{f:Nat}{args:List AV}{r:AV}(h:Zle P f args r)(ok0:Addr->Prop)(w:World)(vs:List Value)
  (hv:VRL (cx (k0 ok0 [] [] w) ⟨[],noB⟩ [] w) args vs):
  Calls P f vs.toArray w λe w'=>∃v,e=.returned v/\Below w.heap.size w w'/\VR (cx (k0 ok0 [] [] w) ⟨[],noB⟩ [] w') r v:=by
 obtain⟨_,_,hc⟩:=h;have hr0:HR (k0 ok0 [] [] w) [] [] w:=
  {heap:=λid o e=>by simp at e
   len:=rfl
   inj:=λi j b e=>by simp at e
   own:=λi b e=>by simp at e
   keep:=Keep.refl _ _}
 refine(hc.2.2 ok0 [] w vs hr0 hv).mono ?_;rintro e w' ⟨v,ρ',rfl,h1,h2,_⟩;have hρ:ρ'=[]:=List.eq_nil_of_length_eq_zero h1.len;subst hρ;refine⟨v,rfl,⟨h1.keep.os,h1.keep.tape,h1.keep.output,h1.keep.size,λk hk=>h1.keep.block k hk (λ⟨id,e⟩=>by simp at e)⟩,h2⟩
theorem Zle.run_bool {P:Program}{f:Nat}{args:List AV}{b:Bool}(h:Zle P f args (.p (.bool b)))(ok0:Addr->Prop)(w:World)(vs:List Value)
  (hv:VRL (cx (k0 ok0 [] [] w) ⟨[],noB⟩ [] w) args vs):
  Calls P f vs.toArray w λe w'=>e=.returned (.bool b)/\Below w.heap.size w w':=by
 refine(h.run ok0 w vs hv).mono ?_;rintro e w' ⟨v,rfl,hb,hv⟩;exact⟨by rw[VR,PR]at hv;rw[hv],hb⟩
theorem post_of_below {H:Type}{enc:TypeId×Value->H}{P:Program}{f:Func}{s:ChangeSpec}{apart fresh handsOn again:Bool}{W W':World}{args:Array Value}{v:Value}{ds gs:List (DataW H)}{before pa pv:List MemPlace}
  (hW:DataW.Whole enc P f.params.toList s.vars apart W args.toList ds gs before)
  (hres:∀(b:Nat) (sp:Nat->Bool) (hd:Bool),DataW.TrodAll enc P W' b sp hd f.resultTypes.toList (v.resultList f.resultTypes.size) (s.fn H (ds++gs)).results [])
  (hargs:∀sp:Nat->Bool,(∀p∈before,sp p.block=true)->DataW.TrodAll enc P W' 0 sp true f.params.toList args.toList (s.fn H (ds++gs)).args pa)
  (hvars:∀sp:Nat->Bool,(∀p∈before,sp p.block=true)->DataW.TrodVars enc P W' sp s.vars (s.fn H (ds++gs)).vars pv)
  (hps:before=pa++pv) (hb:Below W.heap.size W W')
  (hok:∀(j:Nat) (t:TypeId) (r:Value),f.resultTypes[j]?=some t->(v.resultList f.resultTypes.size)[j]?=some r->Value.okWide P W' .any 0 t r):
  s.post enc P f apart fresh handsOn again W args v W':=by
 have hlt:∀p∈before,p.block<W.heap.size:=λp hp=>hW.lt p hp
 have hold:∀p∈before,(λb=>decide (b<W.heap.size)) p.block=true:=λp hp=>by simpa using hlt p hp
 refine⟨ds,gs,before,[],pa,pv,hW,hres _ _ _,hargs _ hold,hvars _ hold,World.keptBut_mono (λp hp=>⟨hp,?_⟩) (hb.frame (· ∈before)),λ_=>?_⟩
 ·rw[hps,List.mem_append]at hp;exact Or.inr hp
 obtain⟨_,_,_,_,_,hz,hn⟩:=hW;refine⟨hok,_,_,([]++pa)++pv,⟨[]++pa,pv,trodAll_append (hargs _ (λ_ _=>rfl)) (hres _ _ _),hvars _ (λ_ _=>rfl),rfl,?_,?_⟩,?_⟩
 ·intro b off hp;have hin:MemPlace.cell b off∈before:=by rw[hps];simpa using hp
  rw[hb.frozen (hlt _ hin)];exact hz b off hin
 ·intro ha;have:=hn ha;rw[hps]at this;simpa using this
 intro p hp _;rw[hps];simpa using hp
end Go.Eng

