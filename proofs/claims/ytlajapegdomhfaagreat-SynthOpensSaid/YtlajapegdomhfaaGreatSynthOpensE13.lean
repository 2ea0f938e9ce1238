/-Part of the proof. -/
import Derived.Test.YtlajapegdomhfaaGreatSynthOpensE10
import Derived.ScopeJumps
import Derived.RangeFuncLeaves
import Derived.Below
import Derived.Carry
import Derived.ChangeSame
set_option linter.all false
namespace Go.Eng
open Go
structure Eqv (s t:St):Prop where
 fr:∀x,get s.fr x=get t.fr x
 bx:∀x,bget s.bx x=bget t.bx x
 H:s.H=t.H
def Eqv.refl (s:St):Eqv s s:=⟨λ_=>rfl,λ_=>rfl,rfl⟩
def Eqv.symm {s t:St}(h:Eqv s t):Eqv t s:=⟨λx=>(h.fr x).symm,λx=>(h.bx x).symm,h.H.symm⟩
def Eqv.trans {s t u:St}(h:Eqv s t)(h':Eqv t u):Eqv s u:=⟨λx=>(h.fr x).trans (h'.fr x),λx=>(h.bx x).trans (h'.bx x),h.H.trans h'.H⟩
def Rel.eqv {k:K0}{n:Nat}{g:G}{s t:St}{a:Act}{w:World}(h:Rel k n g s a w)(e:Eqv s t):Rel k n g t a w:=by
 obtain⟨fr,bx,H⟩:=s;obtain⟨fr',bx',H'⟩:=t;obtain⟨e1,e2,e3⟩:=e;simp only at e1 e2 e3;subst e3;exact {h with
  slots:=λx=>by rw[←e1];exact h.slots x
  tops:=λx=>by rw[←e1];exact h.tops x
  boxes:=λt cs e=>h.boxes t cs (by simp_all)
  boxed:=λt b e=>let ⟨⟨cs,hc⟩,hb⟩:=h.boxed t b e;⟨⟨cs,by simp_all⟩,hb⟩}
def ixT:IX->List Nat
 |.t n=>[n]
 |.k _=>[]
def ixK:IX->Bool
 |.t _=>true
 |.k v=>Za7 v
def ZcP:Ins->List IX
 |.val _ _ xs=>xs
 |.load _ x _ _=>[x]
 |.loadL _ x _ _=>[x]
 |.loadH _ x _ _=>[x]
 |.loadI _ x _ _=>[x]
 |.loadN _ x _ _ zs=>x::zs
 |.appN _ x y _ _=>[x,y]
 |.store x y _=>[x,y]
 |.storeH x y _=>[x,y]
 |.newL .. =>[]
 |.boxL _ x=>[x]
 |.newH .. =>[]
 |.boxH _ x=>[x]
 |.mkSl _ x y _ _=>[x,y]
 |.app _ x y _ _=>[x,y]
 |.litSl _ _ xs=>xs
 |.litP _ _ xs=>xs
 |.mkC .. =>[]
 |.call _ _ xs=>xs
 |.callP _ _ xs=>xs
 |.callQ _ _ xs=>xs
 |.callV _ x xs=>x::xs
 |.callY _ x xs=>x::xs
 |.sp _ _ xs=>xs
def Zbo (i:Ins):List Nat:=(ZcP i).flatMap ixT
def Zcm (o:IOp):List Nat:=(match o.g with
 |some (t,_)=>[t]
 |none=>[])++Zbo o.i
def Za8:Ins->Nat
 |.val .. |.callP .. |.litP .. |.mkC .. |.loadI .. =>0
 |.load .. |.callQ .. =>1
 |.loadL .. =>4
 |.newL .. |.boxL .. =>3
 |.store .. =>2
 |.newH .. |.boxH .. |.litSl .. |.mkSl .. |.appN .. =>6
 |.loadH .. |.loadN .. =>7
 |_=>5
def Zxh (a b:Nat):Bool:=match a,b with
 |0,0|0,1|1,0|1,1|0,2|2,0=>true
 |3,0|3,1|3,2|0,3|1,3|2,3|3,3=>true
 |4,0|0,4|4,1|1,4|4,4|4,5|5,4|0,5|5,0|3,4|4,3|3,5|5,3=>true
 |6,0|0,6|1,6|6,4|4,6|6,3|3,6=>true
 |7,0|0,7|7,1|1,7|7,7|3,7|7,3|7,4|4,7|7,6=>true
 |_,_=>false
def ZuO (x y:IOp):Bool:=((Za8 x.i==2&&Za8 y.i==4)||(Za8 x.i==4&&Za8 y.i==2))&&(match x.bn,y.bn with
 |some a,some b=>decide (a≠b)
 |_,_=>false)
def Zxr (x y:IOp):Bool:=(Za8 x.i==2&&x.bn.isSome&&Za8 y.i==7)||(Za8 x.i==7&&Za8 y.i==2&&y.bn.isSome)
def Zi4 (k:Nat):Prop:=k=0∨k=1∨k=4∨k=7
def ZlH (d:Option Nat)(l:List Nat):Bool:=match d with
 |some d=>!l.elem d
 |none=>true
def memT (z:IX)(zs:List IX):Bool:=match z with
 |.t u=>zs.any λq=>match q with
  |.t u'=>decide (u'=u)
  |_=>false
 |_=>false
def Zvt (x y:IOp):Bool:=x.g.isNone&&y.g.isNone&&(match x.i,y.i with
 |.loadN _ _ _ _ _,.app .. |.app ..,.loadN _ _ _ _ _=>true
 |.loadN _ _ _ _ zs,.storeH z _ _|.storeH z _ _,.loadN _ _ _ _ zs=>memT z zs
 |_,_=>false)
def Zwg (x y:IOp):Bool:=
 (Zxh (Za8 x.i) (Za8 y.i)||ZuO x y||Zxr x y||Zvt x y)&&ZlH (dstI x.i) (Zcm y)&&ZlH (dstI y.i) (Zcm x)&&(match dstI x.i,dstI y.i with
  |some d,some e=>decide (d≠e)
  |_,_=>true)
def ZnE (d:Nat)(fr:List (Nat×AV)):Prop:=∀u o,u≠d->get fr u≠.loc d o
def Ziv (fr:List (Nat×AV))(l:List Nat)(q:Nat):Prop:=∃x∈l,∃o,get fr x=.loc q o
def Zfn (bx:List (Nat×List AV)):Option (Nat×List AV)->List (Nat×List AV)
 |none=>bx
 |some (q,b)=>bput bx q b
structure ZYn (P:Program) (o:IOp) (s s':St) (v:AV) (bw:Option (Nat×List AV)) (H':List HO):Prop where
 out:s'=⟨putO s.fr (dstI o.i) v,Zfn s.bx bw,H'⟩
 again:∀t:St,(∀x∈Zcm o,get t.fr x=get s.fr x)->(∀q,Ziv s.fr (Zcm o) q->bget t.bx q=bget s.bx q)->t.H=s.H->AOp P o t ⟨putO t.fr (dstI o.i) v,Zfn t.bx bw,H'⟩
 quiet:Zi4 (Za8 o.i)->bw=none/\H'=s.H
 boxed:Za8 o.i=5∨Za8 o.i=6->bw=none
 more6:Za8 o.i=6->∃e,H'=s.H++e
 heap7:Za8 o.i=7->∀t:St,(∀x∈Zcm o,get t.fr x=get s.fr x)->t.H=s.H->AOp P o t ⟨putO t.fr (dstI o.i) v,t.bx,t.H⟩
 grow1:Za8 o.i=1∨Za8 o.i=7->∀(t:St) (e:List HO),(∀x∈Zcm o,get t.fr x=get s.fr x)->(∀q,Ziv s.fr (Zcm o) q->bget t.bx q=bget s.bx q)->t.H=s.H++e->AOp P o t ⟨putO t.fr (dstI o.i) v,t.bx,t.H⟩
 bnW:Za8 o.i=2->∀b,o.bn=some b->H'=s.H/\∀q,q≠b->bget (Zfn s.bx bw) q=bget s.bx q
 bnR:Za8 o.i=4->∀b,o.bn=some b->∀t:St,(∀x∈Zcm o,get t.fr x=get s.fr x)->bget t.bx b=bget s.bx b->AOp P o t ⟨putO t.fr (dstI o.i) v,t.bx,t.H⟩
 local4:Za8 o.i=4->∀t:St,(∀x∈Zcm o,get t.fr x=get s.fr x)->(∀q,Ziv s.fr (Zcm o) q->bget t.bx q=bget s.bx q)->AOp P o t ⟨putO t.fr (dstI o.i) v,t.bx,t.H⟩
 blind:Za8 o.i=0->∀t:St,(∀x∈Zcm o,get t.fr x=get s.fr x)->AOp P o t ⟨putO t.fr (dstI o.i) v,t.bx,t.H⟩
 named:∀q b,bw=some (q,b)->Ziv s.fr (Zcm o) q
 src:∀d off,v=.loc d off->Ziv s.fr (Zcm o) d
theorem Zb6 {fr fr':List (Nat×AV)}{x:IX}(h:∀t∈ixT x,get fr' t=get fr t):ev fr' x=ev fr x:=by
 cases x with
 |t n=>grind[ev,get,ixT]
 |k v=>rfl
def Zee {fr fr':List (Nat×AV)}{xs:List IX}(h:∀t∈xs.flatMap ixT,get fr' t=get fr t):xs.map (ev fr')=xs.map (ev fr):=by
 grind[List.map_congr_left,Zb6]
def ZuX {bx:List (Nat×List AV)}{H:List HO}{cs:List AV}{x:AV}{m:Mem}(hx:ZqY x=false)(h:wrt bx H cs x=some m):m.bx=bx/\∀bx',wrt bx' H cs x=some ⟨bx',m.H⟩:=by
 cases x with
 |loc t o=>grind[ZqY]
 |ptr id off=>
  simp only[wrt]at h⊢;split at h
  ·rename_i b hb;cases hs:Zb3 off cs b with
   |none=>simp_all
   |some b'=>
    grind
  cases h
 |optr sz id ver i off=>
  simp only[wrt]at h⊢;split at h
  ·rename_i sz' ver' rows hb;split at h
   ·rename_i hc;simp only[hc,and_self,Zaw];cases hr:rows[i]? with
    |none=>simp_all
    |some r=>
     simp only[hr,Zak]at h⊢;cases hu:unP cs with
     |none=>simp_all
     |some ps=>
      simp only[hu,Zak]at h⊢;cases hs:Zb3 off ps r with
      |none=>simp_all
      |some r'=>
       grind
   cases h
  cases h
 |_=>simp[wrt]at h
theorem ZyO {fr:List (Nat×AV)}{x:IX}(hk:ixK x=true){d o:Nat}(h:ev fr x=.loc d o):∃t∈ixT x,get fr t=.loc d o:=by
 cases x with
 |t n=>grind[ev,get,ixK,ixT]
 |k v=>grind[ev,ixK,Za7]
def ZrF {o:Nat}{x:AV}{d off:Nat}(h:Zn6 o x=some (.loc d off)):∃o',x=.loc d o':=by
 unfold Zn6 at h;grind
theorem Zzj {b:Bool}{cs:List AV}{d off:Nat}(h:mk b cs=some (.loc d off)): .loc d off∈cs:=by
 unfold mk at h;grind
theorem ZwO {α:Type}{off n:Nat}{l r:List α}(h:sub off n l=some r){x:α}(hx:x∈r):x∈l:=by
 grind[sub]
theorem ZvR {sz:Nat}{lo hi mx:Bool}{x:AV}{vs:List AV}{d off:Nat}(h:Zlg sz lo hi mx x vs=some (.loc d off)):False:=by
 unfold Zlg at h;split at h
 ·cases h1:ZfI lo 0 vs with
  |none=>simp_all
  |some p=>
   simp only[h1,Zak]at h;rename_i rows;cases h2:ZfI hi rows.length p.2 with
   |none=>simp_all
   |some q=>
    simp only[h2,Zak]at h;cases h3:ZfI mx q.1 q.2 with
    |none=>simp_all
    |some r=>
     simp_all
 ·cases h1:ZfI lo 0 vs with
  |none=>simp_all
  |some p=>
   simp only[h1,Zak]at h;rename_i len;cases h2:ZfI hi len p.2 with
   |none=>simp_all
   |some q=>
    grind
 cases h
def ZyZ:AV->Prop
 |.p _|.osl .. =>True
 |.loc .. =>True
 |_=>False
def sliceV_form' {sz:Nat}{lo hi mx:Bool}{x:AV}{vs:List AV}{r:AV}(h:Zlg sz lo hi mx x vs=some r):ZyZ r:=by
 unfold Zlg at h;split at h
 ·cases h1:ZfI lo 0 vs with
  |none=>simp_all
  |some p=>
   simp only[h1,Zak]at h;rename_i rows;cases h2:ZfI hi rows.length p.2 with
   |none=>simp_all
   |some q=>
    simp only[h2,Zak]at h;cases h3:ZfI mx q.1 q.2 with
    |none=>simp_all
    |some r=>
     grind[ZyZ,ZfI]
 ·cases h1:ZfI lo 0 vs with
  |none=>simp_all
  |some p=>
   simp only[h1,Zak]at h;rename_i len;cases h2:ZfI hi len p.2 with
   |none=>simp_all
   |some q=>
    grind[ZyZ,ZfI]
 cases h
def Zuh {sz:Nat}{lo hi mx:Bool}{x:AV}{vs:List AV}{r:AV}(h:Zlg sz lo hi mx x vs=some r):ZyZ r:=sliceV_form' h
theorem ZwH {v:VI}{xs:List AV}{d off:Nat}(h:Zbc v xs=some (.loc d off))(h0:∀x∈xs,top x=true):∃o',AV.loc d o'∈xs:=by
 have h5:∀cs:List AV,AV.agg cs∈xs->AV.loc d off∈cs->False:=λcs h1 h2=>by
  have:=h0 _ h1;have h3:noLocL cs=true:=by grind[top,Za7]
  grind[ZcA,Za7]
 have h4:∀cs:List AV,AV.tup cs∈xs->AV.loc d off∈cs->False:=λcs h1 h2=>by
  have:=h0 _ h1;have h3:noLocL cs=true:=by grind[top,Za7]
  grind[ZcA,Za7]
 cases v with
 |mov=>simp only[Zbc]at h;grind
 |bin op=>
  simp only[Zbc]at h;split at h
  ·simp_all
  cases h
 |sh op=>
  simp only[Zbc]at h;split at h
  ·simp_all
  cases h
 |eqB neg=>simp only[Zbc]at h;grind
 |eqS neg m=>
  simp only[Zbc]at h;split at h
  ·simp_all
  cases h
 |not=>simp only[Zbc]at h;grind
 |neg=>simp only[Zbc]at h;grind
 |conv k=>simp only[Zbc]at h;grind
 |pick=>
  simp only[Zbc]at h;grind
 |faddr o=>
  simp only[Zbc]at h;split at h
  ·obtain⟨o',rfl⟩:=ZrF h;simp_all
  cases h
 |iaddr m sz=>
  simp only[Zbc]at h;split at h
  ·split at h
   ·obtain⟨o',rfl⟩:=ZrF h;simp_all
   cases h
  cases h
 |iaddrS sz=>
  simp only[Zbc]at h;grind
 |idx m sz b=>
  simp only[Zbc]at h;grind[sub,Zak,ZwO,Zzj]
 |fld o m b=>
  simp only[Zbc]at h;grind[sub,Zak,ZwO,Zzj]
 |build z ps=>simp_all[Zbc,Zc3]
 |len=>simp only[Zbc]at h;grind
 |lenA m=>simp[Zbc]at h
 |ext i=>
  simp only[Zbc]at h;grind
 |mkfn f m=>grind[Zbc]
 |min=>simp only[Zbc,minI]at h;grind
 |max=>simp only[Zbc,maxI]at h;grind
 |slice sz lo hi mx=>
  simp only[Zbc]at h;grind[ZvR]
 |nilChk=>
  simp only[Zbc]at h;grind
 |isNil neg=>simp only[Zbc]at h;grind
def viK:VI->Bool
 |.build z _=>ZaX z
 |_=>true
def insK (i:Ins):Bool:=(ZcP i).all ixK&&(match i with
 |.val _ v _=>viK v
 |_=>true)
theorem Zn2:∀{ps:List (Nat×Nat)} {cs xs out:List AV},Zc3 cs ps xs=some out->ZaX cs=true->ZaX out=true
 |[],cs,xs,out,h,h1=>by
  grind[Zc3,Zan]
 |(off,n)::ps,cs,xs,out,h,h1=>by
  cases xs with
  |nil=>simp[Zc3]at h
  |cons v vs=>
   simp only[Zc3]at h;split at h
   ·rename_i h0;cases hs:Zb3 off (cellsOf v) cs with
    |none=>simp[hs]at h
    |some cs'=>
     simp only[hs,Zak]at h;exact Zn2 h (ZeV hs h0.2 h1)
   cases h
def ZwF {v:VI}{xs:List AV}{r:AV}(hv:viK v=true)(h:Zbc v xs=some r)(ht:∀x∈xs,top x=true):top r=true:=by
 have h2:∀cs:List AV,AV.agg cs∈xs->noLocL cs=true:=λcs h1=>by grind[top,Za7]
 have h0:∀cs:List AV,AV.tup cs∈xs->noLocL cs=true:=λcs h1=>by grind[top,Za7]
 cases v with
 |mov=>simp only[Zbc]at h;grind
 |bin op=>
  simp only[Zbc]at h;split at h
  ·split at h
   ·rename_i k a k' b _;cases hb:binI op k a b<;>simp_all;subst h;rfl
   cases h
  cases h
 |sh op=>
  simp only[Zbc]at h;split at h
  ·rename_i k a k' b;cases hb:shI op k a b<;>simp_all;subst h;rfl
  cases h
 |eqB neg=>simp only[Zbc]at h;split at h<;>simp at h;subst h;rfl
 |eqS neg m=>
  simp only[Zbc]at h;split at h
  ·rename_i a b;cases hb:ZcQ m a b<;>simp_all;subst h;rfl
  cases h
 |not=>simp only[Zbc]at h;split at h<;>simp at h;subst h;rfl
 |neg=>simp only[Zbc]at h;split at h<;>simp at h;subst h;rfl
 |conv k=>simp only[Zbc]at h;split at h<;>simp at h;subst h;rfl
 |pick=>
  simp only[Zbc]at h;grind
 |faddr o=>
  simp only[Zbc]at h;grind[Zk7]
 |iaddr m sz=>
  simp only[Zbc]at h;grind[Zk7]
 |iaddrS sz=>
  simp only[Zbc]at h;split at h
  ·split at h<;>simp at h;subst h;rfl
  ·split at h<;>simp at h;subst h;rfl
  ·split at h<;>simp at h;subst h;rfl
  cases h
 |idx m sz b=>
  simp only[Zbc]at h;grind[sub,Zak,Za1,ZlD,Zhd]
 |fld o m b=>
  simp only[Zbc]at h;grind[sub,Zak,Za1,ZlD,Zhd]
 |build z ps=>
  simp only[Zbc]at h;cases hf:Zc3 z ps xs with
  |none=>simp_all
  |some out=>
   grind[Zam,Zan,top,Za7,ZaY,Zn2,viK]
 |len=>simp only[Zbc]at h;split at h<;>simp at h<;>(subst h;rfl)
 |lenA m=>simp[Zbc]at h;subst h;rfl
 |ext i=>
  simp only[Zbc]at h;grind[Za1,ZcA,List.mem_of_getElem?]
 |mkfn f m=>
  simp only[Zbc]at h;split at h
  ·rename_i hn;simp only[Zan]at h;subst h;simp only[top,Za7,Ze];grind[ZcA,List.mem_of_mem_take,List.mem_of_mem_drop]
  cases h
 |min=>simp only[Zbc,minI]at h;split at h<;>simp at h<;>(subst h;rfl)
 |max=>simp only[Zbc,maxI]at h;split at h<;>simp at h<;>(subst h;rfl)
 |slice sz lo hi mx=>
  simp only[Zbc]at h;split at h
  ·cases r with
   |loc t o=>rfl
   |p x=>rfl
   |osl=>rfl
   |_=>exact(Zuh h).elim
  cases h
 |nilChk=>
  simp only[Zbc]at h;grind
 |isNil neg=>simp only[Zbc]at h;split at h<;>simp at h<;>(subst h;rfl)
section
variable {P:Program}
def Tops (fr:List (Nat×AV)):Prop:=∀t,top (get fr t)=true
def ZLl {fr:List (Nat×AV)}(h:Tops fr){x:IX}(hk:ixK x=true):top (ev fr x)=true:=by
 cases x with
 |t n=>exact h n
 |k v=>exact Za1 (x:=v) hk
theorem ZkZ {fr:List (Nat×AV)}{i:Ins}(hk:(ZcP i).all ixK=true){x:IX}(hx:x∈ZcP i){d o:Nat}(h:ev fr x=.loc d o):Ziv fr (Zbo i) d:=by
 grind[ZyO,Zu,ev,Zbo,ZcP,ixK,Ziv]
def Zut {bx bx':List (Nat×List AV)}{H:List HO}{n:Nat}{x:AV}(h:∀t o,x=.loc t o->bget bx' t=bget bx t):rd bx' H n x=rd bx H n x:=by
 cases x with
 |loc t o=>simp only[rd,h t o rfl]
 |_=>rfl
def ZxY {bx:List (Nat×List AV)}{H:List HO}{cs:List AV}{x:AV}{m:Mem}(h:wrt bx H cs x=some m):
  ∃bw,m.bx=Zfn bx bw/\(∀q b,bw=some (q,b)->∃o,x=.loc q o)/\∀bx',(∀t o,x=.loc t o->bget bx' t=bget bx t)->wrt bx' H cs x=some ⟨Zfn bx' bw,m.H⟩:=by
 unfold wrt at h;split at h
 ·rename_i t off;cases hb:bget bx t with
  |none=>simp_all
  |some b=>
   simp only[hb,Zak]at h;cases hs:Zb3 off cs b with
   |none=>simp_all
   |some b'=>
    simp only[hs,Zam,Zan]at h;subst h;refine⟨some (t,b'),rfl,λq b e=>?_,λbx' h1=>?_⟩
    ·simp_all
    grind[Zfn,wrt,bput,bget,Zb3]
 ·rename_i id off;split at h
  ·rename_i b hH;cases hs:Zb3 off cs b with
   |none=>simp_all
   |some b'=>
    simp only[hs,Zam,Zan]at h;subst h;exact⟨none,rfl,λq b e=>(by cases e),λbx' _=>by grind[Zfn,wrt,bget,Zb3]⟩
  cases h
 ·rename_i sz id ver i off;split at h
  ·rename_i sz' ver' rows hH;split at h
   ·rename_i h0;cases hi:rows[i]? with
    |none=>simp_all
    |some r=>
     simp only[hi,Zak]at h;cases hu:unP cs with
     |none=>simp_all
     |some ps=>
      simp only[hu,Zak]at h;cases hs:Zb3 off ps r with
      |none=>simp_all
      |some r'=>
       simp only[hs,Zam,Zan]at h;subst h;refine⟨none,rfl,λq b e=>(by cases e),λbx' _=>?_⟩;grind[Zfn,wrt,bget,Zb3,unP]
   cases h
  cases h
 cases h
def ZsY {i:Ins}{s s':St}(h:ZaS P i s s')(hk:Za8 i≠3)(he:insK i=true)(hT:Tops s.fr):
  ∃v bw H',s'=⟨putO s.fr (dstI i) v,Zfn s.bx bw,H'⟩∧
   (∀t:St,(∀x∈Zbo i,get t.fr x=get s.fr x)->(∀q,Ziv s.fr (Zbo i) q->bget t.bx q=bget s.bx q)->t.H=s.H->ZaS P i t ⟨putO t.fr (dstI i) v,Zfn t.bx bw,H'⟩)∧
   (Zi4 (Za8 i)->bw=none/\H'=s.H)/\(Za8 i=5∨Za8 i=6->bw=none)∧
   (Za8 i=4->∀t:St,(∀x∈Zbo i,get t.fr x=get s.fr x)->(∀q,Ziv s.fr (Zbo i) q->bget t.bx q=bget s.bx q)->ZaS P i t ⟨putO t.fr (dstI i) v,t.bx,t.H⟩)∧
   (Za8 i=0->∀t:St,(∀x∈Zbo i,get t.fr x=get s.fr x)->ZaS P i t ⟨putO t.fr (dstI i) v,t.bx,t.H⟩)∧
   (∀q b,bw=some (q,b)->Ziv s.fr (Zbo i) q)∧
   (∀d off,v=.loc d off->Ziv s.fr (Zbo i) d)/\top v=true:=by
 have hK:(ZcP i).all ixK=true:=by simp_all[insK,Ze]
 cases i with
 |val d v xs=>
  simp only[ZaS,Zbb]at h;cases hv:Zbc v (xs.map (ev s.fr))with
  |none=>simp_all
  |some r=>
   simp only[hv,Zam,Zan]at h;subst h;have key:∀t:St,(∀x∈Zbo (.val d v xs),get t.fr x=get s.fr x)->ZaS P (.val d v xs) t ⟨put t.fr d r,t.bx,t.H⟩:=λt ht=>by
    simp only[ZaS,Zbb];rw[Zee (xs:=xs) ht,hv];rfl
   have h7:∀x∈xs.map (ev s.fr),top x=true:=λx hx=>by
    obtain⟨y,hy,rfl⟩:=List.mem_map.1 hx;exact ZLl hT (List.all_eq_true.1 hK y hy)
   refine⟨r,none,s.H,rfl,λt ht _ e2=>(by have:=key t ht;rw[e2]at this;exact this),λ_=>⟨rfl,rfl⟩,λ_=>rfl,λh=>(by simp[Za8]at h),λ_=>key,λq b e=>(by cases e),λdd off e=>?_,ZwF (by simp_all[insK,Ze]) hv h7⟩;grind[ZwH,ZkZ,Za8,ev,Zbo,Zbc,ZaS,insK,ZcP,put,get,ixK,top,Ziv,Tops]
 |litP d sz xs=>
  simp only[ZaS,Zbb]at h;cases hv:ZnG sz (xs.map (ev s.fr))with
  |none=>simp_all
  |some r=>
   simp only[hv,Zam,Zan]at h;subst h;have key:∀t:St,(∀x∈Zbo (.litP d sz xs),get t.fr x=get s.fr x)->ZaS P (.litP d sz xs) t ⟨put t.fr d (.p (.sl sz true r)),t.bx,t.H⟩:=λt ht=>by
    simp only[ZaS,Zbb];rw[Zee (xs:=xs) ht,hv];rfl
   exact⟨_,none,s.H,rfl,λt ht _ e2=>(by have:=key t ht;rw[e2]at this;exact this),λ_=>⟨rfl,rfl⟩,λ_=>rfl,λh=>(by simp[Za8]at h),λ_=>key,λq b e=>(by cases e),λdd off e=>(by cases e),rfl⟩
 |mkC d m zero bytes=>
  simp only[ZaS,Zbb]at h;split at h
  ·rename_i hv;simp only[Zan]at h;subst h;have key:∀t:St,(∀x∈Zbo (.mkC d m zero bytes),get t.fr x=get s.fr x)->ZaS P (.mkC d m zero bytes) t ⟨put t.fr d (.p (.sl zero.length false (List.replicate m zero))),t.bx,t.H⟩:=λt ht=>by
    simp_all[ZaS,Zbb,Zav]
   exact⟨_,none,s.H,rfl,λt ht _ e2=>(by have:=key t ht;rw[e2]at this;exact this),λ_=>⟨rfl,rfl⟩,λ_=>rfl,λh=>(by simp[Za8]at h),λ_=>key,λq b e=>(by cases e),λdd off e=>(by cases e),rfl⟩
  cases h
 |callP d f xs=>
  simp only[ZaS]at h;obtain⟨r,h2,rfl⟩:=h;have key:∀t:St,(∀x∈Zbo (.callP d f xs),get t.fr x=get s.fr x)->ZaS P (.callP d f xs) t ⟨put t.fr d r,t.bx,t.H⟩:=λt ht=>by
   simp only[ZaS];rw[Zee (xs:=xs) ht];grind
  have h4:=h2.2.2.2.1;exact⟨r,none,s.H,rfl,λt ht _ e2=>(by have:=key t ht;rw[e2]at this;exact this),λ_=>⟨rfl,rfl⟩,λ_=>rfl,λh=>(by simp[Za8]at h),λ_=>key,λq b e=>(by cases e),λdd off e=>(by grind[Za7]),Za1 h4⟩
 |callQ d f xs=>
  simp only[ZaS]at h;obtain⟨args,r,h1,h2,rfl⟩:=h;have h4:=h2.2.2.2.1;refine⟨r,none,s.H,rfl,λt ht _ e2=>?_,λ_=>⟨rfl,rfl⟩,λ_=>rfl,λh=>(by simp[Za8]at h),λh=>(by simp[Za8]at h),λq b e=>(by cases e),λdd off e=>(by grind[Za7]),Za1 h4⟩;simp only[ZaS];rw[Zee (xs:=xs) ht,e2];exact⟨args,r,h1,h2,rfl⟩
 |load d x m b=>
  simp only[ZaS,Zbb]at h;cases hr:rd s.bx s.H m (ev s.fr x)with
  |none=>simp_all
  |some cs=>
   simp only[hr,Zak]at h;split at h
   rotate_left
   ·cases h
   rename_i h6;cases h5:mk b cs with
   |none=>simp_all
   |some r=>
    simp only[h5,Zam,Zan]at h;subst h;have h4:Za7 r=true:=ZlD h5 (ZaY h6);refine⟨r,none,s.H,rfl,λt ht hb e2=>?_,λ_=>⟨rfl,rfl⟩,λ_=>rfl,λh=>(by simp[Za8]at h),λh=>(by simp[Za8]at h),λq b e=>(by cases e),λdd off e=>(by grind[Za7]),Za1 h4⟩;simp only[ZaS,Zbb];rw[Zb6 (x:=x) (λq hq=>ht q (by simp[Zbo,ZcP,hq])),e2,Zut (λq o e=>hb q (ZkZ (i:=.load d x m b) hK (by simp[ZcP]) e)),hr];simp only[Zak,h6,Zaw,h5,Zam];rfl
 |loadI d x m b=>
  simp only[ZaS,Zbb]at h;split at h
  rotate_left
  ·cases h
  rename_i sz rows i off hx;cases hr:rd [] [] m (.ppt sz rows i off)with
  |none=>simp_all
  |some cs=>
   simp only[hr,Zak]at h;split at h
   rotate_left
   ·cases h
   rename_i h6;cases h5:mk b cs with
   |none=>simp_all
   |some r=>
    simp only[h5,Zam,Zan]at h;subst h;have h4:Za7 r=true:=ZlD h5 (ZaY h6);have key:∀t:St,(∀z∈Zbo (.loadI d x m b),get t.fr z=get s.fr z)->ZaS P (.loadI d x m b) t ⟨put t.fr d r,t.bx,t.H⟩:=λt ht=>by
     simp only[ZaS,Zbb];rw[Zb6 (x:=x) (λq hq=>ht q (by simp[Zbo,ZcP,hq])),hx];simp_all
    exact⟨r,none,s.H,rfl,λt ht _ e2=>(by have:=key t ht;rw[e2]at this;exact this),λ_=>⟨rfl,rfl⟩,λ_=>rfl,λh=>(by simp[Za8]at h),λ_=>key,λq b e=>(by cases e),λdd off e=>(by grind[Za7]),Za1 h4⟩
 |loadH d x m b=>
  simp only[ZaS,Zbb]at h;split at h
  ·cases h
  rename_i hl;cases hr:rd [] s.H m (ev s.fr x)with
  |none=>simp_all
  |some cs=>
   simp only[hr,Zak]at h;split at h
   rotate_left
   ·cases h
   rename_i h6;cases h5:mk b cs with
   |none=>simp_all
   |some r=>
    simp only[h5,Zam,Zan]at h;subst h;have h4:Za7 r=true:=ZlD h5 (ZaY h6);refine⟨r,none,s.H,rfl,λt ht hb e2=>?_,λ_=>⟨rfl,rfl⟩,λ_=>rfl,λh=>(by simp[Za8]at h),λh=>(by simp[Za8]at h),λq b e=>(by cases e),λdd off e=>(by grind[Za7]),Za1 h4⟩;simp only[ZaS,Zbb];rw[Zb6 (x:=x) (λq hq=>ht q (by simp[Zbo,ZcP,hq])),Zau hl,e2,hr];simp only[Zak,h6,Zaw,h5,Zam];rfl
 |loadN d x m b zs=>
  simp only[ZaS,Zbb]at h;split at h
  rotate_left
  ·cases h
  rename_i id off hx;split at h
  rotate_left
  ·cases h
  rename_i hz;cases hr:rd [] s.H m (.ptr id off)with
  |none=>simp_all
  |some cs=>
   simp only[hr,Zak]at h;split at h
   rotate_left
   ·cases h
   rename_i h6;cases h5:mk b cs with
   |none=>simp_all
   |some r=>
    simp only[h5,Zam,Zan]at h;subst h;have h4:Za7 r=true:=ZlD h5 (ZaY h6);refine⟨r,none,s.H,rfl,λt ht hb e2=>?_,λ_=>⟨rfl,rfl⟩,λ_=>rfl,λh=>(by simp[Za8]at h),λh=>(by simp[Za8]at h),λq b e=>(by cases e),λdd off e=>(by grind[Za7]),Za1 h4⟩;simp only[ZaS,Zbb];rw[Zb6 (x:=x) (λq hq=>ht q (by simp[Zbo,ZcP,hq])),hx,Zee (xs:=zs) (λq hq=>ht q (List.mem_append_right _ hq))];simp only;rw[Zav hz,e2,hr];simp only[Zak,h6,Zaw,h5,Zam];rfl
 |appN d x y z b=>
  simp only[ZaS,Zbb]at h;split at h
  rotate_left
  ·cases h
  rename_i a0 b0 hx;by_cases h8:Zi8 (ev s.fr y)=true
  case neg=>simp_all
  rw[Zav h8]at h;cases hr:ZdD s.H z (ev s.fr y)with
  |none=>simp_all
  |some new=>
   simp only[hr,Zak]at h;cases ha:appV s.H z b (.p (.sl a0 true b0)) new with
   |none=>simp_all
   |some p=>
    obtain⟨v,H2⟩:=p;simp only[ha,Zam,Zan]at h;subst h;have h4:Za7 v=true:=by
     grind[Za8,ev,appV,insK,ZcP,Za7,ixK,ZdD,Tops,Zi8]
    refine⟨v,none,H2,rfl,λt ht _ e2=>?_,λh=>(by simp[Za8,Zi4]at h),λ_=>rfl,λh=>(by simp[Za8]at h),λh=>(by simp[Za8]at h),λq b e=>(by cases e),λdd off e=>(by grind[Za7]),Za1 h4⟩;simp only[ZaS,Zbb];rw[Zb6 (x:=y) (λq hq=>ht q (by simp[Zbo,ZcP,hq])),Zb6 (x:=x) (λq hq=>ht q (by simp[Zbo,ZcP,hq])),e2,hx];simp only[h8,Zaw,hr,Zak,ha,Zam];rfl
 |loadL d x m b=>
  simp only[ZaS,Zbb]at h;split at h
  ·rename_i tt off h9;cases hr:rd s.bx [] m (.loc tt off)with
   |none=>simp_all
   |some cs=>
    simp only[hr,Zak]at h;split at h
    rotate_left
    ·cases h
    rename_i h6;cases h5:mk b cs with
    |none=>simp_all
    |some r=>
     simp only[h5,Zam,Zan]at h;subst h;have h4:Za7 r=true:=ZlD h5 (ZaY h6);have key:∀t:St,(∀z∈Zbo (.loadL d x m b),get t.fr z=get s.fr z)->(∀q,Ziv s.fr (Zbo (.loadL d x m b)) q->bget t.bx q=bget s.bx q)->ZaS P (.loadL d x m b) t ⟨put t.fr d r,t.bx,t.H⟩:=λt ht hb=>by
      simp only[ZaS,Zbb];rw[Zb6 (x:=x) (λq hq=>ht q (by simp[Zbo,ZcP,hq])),h9];simp only;rw[Zut (bx:=s.bx) (λq o e=>hb q (ZkZ (i:=.loadL d x m b) hK (x:=x) (by simp[ZcP]) (by rw[h9,e]))),hr];simp_all
     exact⟨r,none,s.H,rfl,λt ht hb e2=>(by have:=key t ht hb;rw[e2]at this;exact this),λ_=>⟨rfl,rfl⟩,λh=>(by simp_all),λ_=>key,λh=>(by simp[Za8]at h),λq b e=>(by cases e),λdd off e=>(by grind[Za7]),Za1 h4⟩
  cases h
 |store x y m=>
  simp only[ZaS,Zbb]at h;split at h
  ·rename_i h3;cases hw:wrt s.bx s.H (cellsOf (ev s.fr y)) (ev s.fr x)with
   |none=>simp_all
   |some mm=>
    simp only[hw,Zam,Zan]at h;subst h;obtain⟨bw,w1,w2,w3⟩:=ZxY hw;refine⟨.any,bw,mm.H,by rw[w1];rfl,λt ht hb e2=>?_,λh=>(by simp[Za8,Zi4]at h),λh=>(by simp[Za8]at h),λh=>(by simp[Za8]at h),λh=>(by simp[Za8]at h),λq b e=>?_,λdd off e=>(by cases e),rfl⟩
    ·simp only[ZaS,Zbb];rw[Zb6 (x:=y) (λq hq=>ht q (by simp[Zbo,ZcP,hq])),Zb6 (x:=x) (λq hq=>ht q (by simp[Zbo,ZcP,hq])),Zav h3,e2,w3 t.bx (λq o e=>hb q (ZkZ (i:=.store x y m) hK (by simp[ZcP]) e))];rfl
    grind[ZkZ,store,ZcP]
  cases h
 |storeH x y m=>
  simp only[ZaS,Zbb]at h;split at h
  ·rename_i h3;cases hw:wrt s.bx s.H (cellsOf (ev s.fr y)) (ev s.fr x)with
   |none=>simp_all
   |some mm=>
    simp only[hw,Zam,Zan]at h;subst h;obtain⟨w1,w2⟩:=ZuX h3.1 hw;refine⟨.any,none,mm.H,by rw[w1];rfl,λt ht hb e2=>?_,λh=>(by simp[Za8,Zi4]at h),λ_=>rfl,λh=>(by simp[Za8]at h),λh=>(by simp[Za8]at h),λq b e=>(by cases e),λdd off e=>(by cases e),rfl⟩;simp only[ZaS,Zbb];rw[Zb6 (x:=y) (λq hq=>ht q (by simp[Zbo,ZcP,hq])),Zb6 (x:=x) (λq hq=>ht q (by simp[Zbo,ZcP,hq])),Zav h3,e2,w2 t.bx];rfl
  cases h
 |newL=>grind[Za8]
 |boxL=>grind[Za8]
 |newH d z=>
  simp only[ZaS,Zbb,Zan]at h;subst h;refine⟨_,none,_,rfl,λt ht _ e2=>?_,λh=>(by simp[Za8,Zi4]at h),λ_=>rfl,λh=>(by simp[Za8]at h),λh=>(by simp[Za8]at h),λq b e=>(by cases e),λdd off e=>(by cases e),rfl⟩;simp only[ZaS,Zbb,e2];rfl
 |boxH d x=>
  simp only[ZaS,Zbb]at h;split at h
  ·rename_i h3;simp only[Zan]at h;subst h;refine⟨_,none,_,rfl,λt ht _ e2=>?_,λh=>(by simp[Za8,Zi4]at h),λ_=>rfl,λh=>(by simp[Za8]at h),λh=>(by simp[Za8]at h),λq b e=>(by cases e),λdd off e=>(by cases e),rfl⟩;simp only[ZaS,Zbb];rw[Zb6 (x:=x) (λq hq=>ht q (by simp[Zbo,ZcP,hq])),Zav h3,e2];rfl
  cases h
 |mkSl d x y z b=>
  simp only[ZaS,Zbb]at h;split at h
  ·rename_i m c hx hy;split at h
   ·rename_i h3;simp only[Zan]at h;subst h;refine⟨_,none,_,rfl,λt ht _ e2=>?_,λh=>(by simp[Za8,Zi4]at h),λ_=>rfl,λh=>(by simp[Za8]at h),λh=>(by simp[Za8]at h),λq b e=>(by cases e),λdd off e=>(by cases e),rfl⟩;simp only[ZaS,Zbb];rw[Zb6 (x:=y) (λq hq=>ht q (by simp[Zbo,ZcP,hq])),Zb6 (x:=x) (λq hq=>ht q (by simp[Zbo,ZcP,hq])),hx,hy];simp only[h3,and_self,Zaw,e2];rfl
   cases h
  cases h
 |app d x y z b=>
  simp only[ZaS,Zbb]at h;by_cases h8:Zi8 (ev s.fr y)=true
  case neg=>simp_all
  rw[Zav h8]at h;cases hr:ZdD s.H z (ev s.fr y)with
  |none=>simp_all
  |some new=>
   simp only[hr,Zak]at h;cases ha:appV s.H z b (ev s.fr x) new with
   |none=>simp_all
   |some p=>
    obtain⟨v,H2⟩:=p;simp only[ha,Zam,Zan]at h;subst h;have h4:Za7 v=true:=by
     unfold appV at ha;split at ha
     ·grind[Za8,ev,ZqV,insK,ZcP,Za7,ixK,ZdD,Tops,Zi8]
     ·split at ha
      ·grind[Za8,ev,insK,ZcP,Za7,ixK,ZdD,Tops,Zi8]
      cases ha
     cases ha
    refine⟨v,none,H2,rfl,λt ht _ e2=>?_,λh=>(by simp[Za8,Zi4]at h),λ_=>rfl,λh=>(by simp[Za8]at h),λh=>(by simp[Za8]at h),λq b e=>(by cases e),λdd off e=>(by grind[Za7]),Za1 h4⟩;simp only[ZaS,Zbb];rw[Zb6 (x:=y) (λq hq=>ht q (by simp[Zbo,ZcP,hq])),Zb6 (x:=x) (λq hq=>ht q (by simp[Zbo,ZcP,hq])),e2,hr];simp only[h8,Zaw,Zak,ha,Zam];rfl
 |litSl d sz xs=>
  simp only[ZaS,Zbb]at h;cases hv:ZnG sz (xs.map (ev s.fr))with
  |none=>simp_all
  |some r=>
   simp only[hv,Zam,Zan]at h;subst h;refine⟨_,none,_,rfl,λt ht _ e2=>?_,λh=>(by simp[Za8,Zi4]at h),λ_=>rfl,λh=>(by simp[Za8]at h),λh=>(by simp[Za8]at h),λq b e=>(by cases e),λdd off e=>(by cases e),rfl⟩;simp only[ZaS,Zbb];rw[Zee (xs:=xs) ht,hv,e2];rfl
 |call d f xs=>
  simp only[ZaS]at h;obtain⟨args,H1,r,H2,h1,h2,rfl⟩:=h;have h4:=h2.2.1;refine⟨r,none,H2,rfl,λt ht _ e2=>?_,λh=>(by simp[Za8,Zi4]at h),λ_=>rfl,λh=>(by simp[Za8]at h),λh=>(by simp[Za8]at h),λq b e=>(by cases e),λdd off e=>(by grind[Za7]),Za1 h4⟩;simp only[ZaS];rw[Zee (xs:=xs) ht,e2];exact⟨args,H1,r,H2,h1,h2,rfl⟩
 |callV d fx xs=>
  simp only[ZaS]at h;obtain⟨f,first,cap,args,H1,r,H2,h0,h1,h2,rfl⟩:=h;have h4:=h2.2.1;refine⟨r,none,H2,rfl,λt ht _ e2=>?_,λh=>(by simp[Za8,Zi4]at h),λ_=>rfl,λh=>(by simp[Za8]at h),λh=>(by simp[Za8]at h),λq b e=>(by cases e),λdd off e=>(by grind[Za7]),Za1 h4⟩;simp only[ZaS];rw[Zb6 (x:=fx) (λq hq=>ht q (by simp[Zbo,ZcP,hq])),Zee (xs:=xs) (λq hq=>ht q (by simp only[Zbo,ZcP,List.flatMap_cons,List.mem_append];exact .inr hq)),e2];exact⟨f,first,cap,args,H1,r,H2,h0,h1,h2,rfl⟩
 |sp d q xs=>
  simp only[ZaS]at h;obtain⟨v,H2,h1,rfl⟩:=h;have h4:=h1.1;refine⟨v,none,H2,rfl,λt ht _ e2=>?_,λh=>(by simp[Za8,Zi4]at h),λ_=>rfl,λh=>(by simp[Za8]at h),λh=>(by simp[Za8]at h),λq b e=>(by cases e),λdd off e=>(by grind[Za7]),Za1 h4⟩;simp only[ZaS];rw[Zee (xs:=xs) ht,e2];exact⟨v,H2,h1,rfl⟩
 |callY d fx xs=>
  simp only[ZaS]at h;obtain⟨id,args,H1,b,H2,h0,h1,h2,rfl⟩:=h;have h4:Za7 (.p (.bool b))=true:=rfl;refine⟨.p (.bool b),none,H2,rfl,λt ht _ e2=>?_,λh=>(by simp[Za8,Zi4]at h),λ_=>rfl,λh=>(by simp[Za8]at h),λh=>(by simp[Za8]at h),λq b e=>(by cases e),λdd off e=>(by cases e),Za1 h4⟩;simp only[ZaS];rw[Zb6 (x:=fx) (λq hq=>ht q (by simp[Zbo,ZcP,hq])),Zee (xs:=xs) (λq hq=>ht q (by simp only[Zbo,ZcP,List.flatMap_cons,List.mem_append];exact .inr hq)),e2];exact⟨id,args,H1,b,H2,h0,h1,h2,rfl⟩
def ioK (o:IOp):Bool:=insK o.i
def Ziv.mono {fr:List (Nat×AV)}{l l':List Nat}(h:∀x∈l,x∈l'){q:Nat}(hn:Ziv fr l q):Ziv fr l' q:=by
 grind[Ziv]
theorem ZkJ {o:IOp}{fr fr':List (Nat×AV)}(h:∀x∈Zbo o.i,get fr' x=get fr x):bnOK o fr'=bnOK o fr:=by
 unfold bnOK;cases o.bn with
 |none=>rfl
 |some b=>
  simp only;cases hx:adrI o.i with
  |none=>rfl
  |some x=>
   simp only;rw[Zb6 (x:=x) (λq hq=>h q ?_)];unfold adrI at hx;grind[Zbo,ZcP]
theorem ZAT {i:Ins}{s s':St}(h:ZaS P i s s')(hk:Za8 i=6):∃e,s'.H=s.H++e:=by
 cases i with
 |newH d z=>simp only[ZaS,Zbb,Zan]at h;grind
 |boxH d x=>
  simp only[ZaS,Zbb]at h;grind
 |litSl d sz xs=>
  simp only[ZaS,Zbb]at h;cases hv:ZnG sz (xs.map (ev s.fr))with
  |none=>simp_all
  |some r=>grind
 |mkSl d x y z b=>
  simp only[ZaS,Zbb]at h;grind
 |appN d x y z b=>
  simp only[ZaS,Zbb]at h;split at h
  rotate_left
  ·cases h
  rename_i a0 b0 hx;by_cases h0:Zi8 (ev s.fr y)=true
  case neg=>simp_all
  rw[Zav h0]at h;cases hr:ZdD s.H z (ev s.fr y)with
  |none=>simp_all
  |some new=>
   simp only[hr,Zak]at h;cases ha:appV s.H z b (.p (.sl a0 true b0)) new with
   |none=>simp_all
   |some p=>
    obtain⟨v,H2⟩:=p;simp only[ha,Zam,Zan]at h;subst h;unfold appV at ha;simp only at ha;split at ha
    ·split at ha
     ·simp_all
     grind
    cases ha
 |_=>grind[Za8]
def Zuu {bx:List (Nat×List AV)}{H e:List HO}{n:Nat}{x:AV}{cs:List AV}(h:rd bx H n x=some cs):rd bx (H++e) n x=some cs:=by
 have key:∀(id:Nat) o,H[id]?=some o->(H++e)[id]?=some o:=λid o ho=>by grind
 unfold rd at h⊢;grind
def ZlV {fr:List (Nat×AV)}{d:Nat}{a b:AV}(h:put fr d a=put fr d b):a=b:=by
 have h1:get (put fr d a) d=get (put fr d b) d:=by rw[h]
 rw[ZbF,ZbF,Zav rfl,Zav rfl]at h1;exact h1
def ZtL {i:Ins}{s s':St}(h:ZaS P i s s')(hk:Za8 i=7){v:AV}(hs:s'=⟨putO s.fr (dstI i) v,s.bx,s.H⟩)(t:St)(ht:∀x∈Zbo i,get t.fr x=get s.fr x)(hH:t.H=s.H):
  ZaS P i t ⟨putO t.fr (dstI i) v,t.bx,t.H⟩:=by
 cases i with
 |loadH d x m b=>
  simp only[ZaS,Zbb]at h;split at h
  ·cases h
  rename_i hl;cases hr:rd [] s.H m (ev s.fr x)with
  |none=>simp_all
  |some cs=>
   simp only[hr,Zak]at h;split at h
   rotate_left
   ·cases h
   rename_i h1;cases h0:mk b cs with
   |none=>simp_all
   |some r=>
    simp only[h0,Zam,Zan]at h;subst hs;simp only[dstI,putO,St.mk.injEq,Zap]at h;obtain rfl:=ZlV h;simp only[ZaS,Zbb,dstI,putO];rw[Zb6 (x:=x) (λq hq=>ht q (by simp[Zbo,ZcP,hq])),Zau hl,hH,hr];simp_all
 |loadN d x m b zs=>
  simp only[ZaS,Zbb]at h;split at h
  rotate_left
  ·cases h
  rename_i id off hx;split at h
  rotate_left
  ·cases h
  rename_i hz;cases hr:rd [] s.H m (.ptr id off)with
  |none=>simp_all
  |some cs=>
   simp only[hr,Zak]at h;split at h
   rotate_left
   ·cases h
   rename_i h1;cases h0:mk b cs with
   |none=>simp_all
   |some r=>
    simp only[h0,Zam,Zan]at h;subst hs;simp only[dstI,putO,St.mk.injEq,Zap]at h;obtain rfl:=ZlV h;simp only[ZaS,Zbb,dstI,putO];rw[Zb6 (x:=x) (λq hq=>ht q (by simp[Zbo,ZcP,hq])),hx,Zee (xs:=zs) (λq hq=>ht q (List.mem_append_right _ hq))];simp_all
 |_=>grind[Za8]
def ZtM {i:Ins}{s s':St}(h:ZaS P i s s')(hk:Za8 i=1∨Za8 i=7)(h4:insK i=true){v:AV}(hs:s'=⟨putO s.fr (dstI i) v,s.bx,s.H⟩)(t:St)(e:List HO)(ht:∀x∈Zbo i,get t.fr x=get s.fr x)(hb:∀q,Ziv s.fr (Zbo i) q->bget t.bx q=bget s.bx q)(hH:t.H=s.H++e):
  ZaS P i t ⟨putO t.fr (dstI i) v,t.bx,t.H⟩:=by
 have hK:(ZcP i).all ixK=true:=by simp_all[insK,Ze]
 cases i with
 |load d x m b=>
  simp only[ZaS,Zbb]at h;cases hr:rd s.bx s.H m (ev s.fr x)with
  |none=>simp_all
  |some cs=>
   simp only[hr,Zak]at h;split at h
   rotate_left
   ·cases h
   rename_i h3;cases h0:mk b cs with
   |none=>simp_all
   |some r=>
    simp only[h0,Zam,Zan]at h;subst hs;simp only[dstI,putO,St.mk.injEq,Zap]at h;obtain rfl:=ZlV h;simp only[ZaS,Zbb,dstI,putO];rw[Zb6 (x:=x) (λq hq=>ht q (by simp[Zbo,ZcP,hq])),Zut (λq o e=>hb q (ZkZ (i:=.load d x m b) hK (by simp[ZcP]) e)),hH,Zuu hr];simp_all
 |loadH d x m b=>
  simp only[ZaS,Zbb]at h;split at h
  ·cases h
  rename_i hl;cases hr:rd [] s.H m (ev s.fr x)with
  |none=>simp_all
  |some cs=>
   simp only[hr,Zak]at h;split at h
   rotate_left
   ·cases h
   rename_i h3;cases h0:mk b cs with
   |none=>simp_all
   |some r=>
    simp only[h0,Zam,Zan]at h;subst hs;simp only[dstI,putO,St.mk.injEq,Zap]at h;obtain rfl:=ZlV h;simp only[ZaS,Zbb,dstI,putO];rw[Zb6 (x:=x) (λq hq=>ht q (by simp[Zbo,ZcP,hq])),Zau hl,hH,Zuu hr];simp_all
 |loadN d x m b zs=>
  simp only[ZaS,Zbb]at h;split at h
  rotate_left
  ·cases h
  rename_i id off hx;split at h
  rotate_left
  ·cases h
  rename_i hz;cases hr:rd [] s.H m (.ptr id off)with
  |none=>simp_all
  |some cs=>
   simp only[hr,Zak]at h;split at h
   rotate_left
   ·cases h
   rename_i h3;cases h0:mk b cs with
   |none=>simp_all
   |some r=>
    simp only[h0,Zam,Zan]at h;subst hs;simp only[dstI,putO,St.mk.injEq,Zap]at h;obtain rfl:=ZlV h;simp only[ZaS,Zbb,dstI,putO];rw[Zb6 (x:=x) (λq hq=>ht q (by simp[Zbo,ZcP,hq])),hx,Zee (xs:=zs) (λq hq=>ht q (List.mem_append_right _ hq))];simp_all[Zav,Zuu,Zak,Zaw,Zam]
 |callQ d f xs=>
  simp only[ZaS]at h;obtain⟨args,r,h1,h2,e1⟩:=h;subst hs;simp only[dstI,putO,St.mk.injEq,Zap]at e1;obtain rfl:=ZlV e1;simp only[ZaS,dstI,putO];rw[Zee (xs:=xs) ht,hH];exact⟨args,_,h1.grow,h2,rfl⟩
 |_=>grind[Za8]
def ZoI {o:IOp}{fr:List (Nat×AV)}{b:Nat}(h:bnOK o fr=true)(hb:o.bn=some b):∃x off,adrI o.i=some x/\ev fr x=.loc b off:=by
 grind[ev,bnOK,adrI]
def ZsW {i:Ins}{s s':St}(h:ZaS P i s s')(hk:Za8 i=2){x:IX}{b off:Nat}(hx:adrI i=some x)(he:ev s.fr x=.loc b off):s'.H=s.H/\∀q,q≠b->bget s'.bx q=bget s.bx q:=by
 cases i with
 |store x' y m=>
  simp only[adrI,Zan]at hx;subst hx;simp only[ZaS,Zbb]at h;split at h
  ·cases hw:wrt s.bx s.H (cellsOf (ev s.fr y)) (ev s.fr x')with
   |none=>simp_all
   |some mm=>
    simp only[hw,Zam,Zan]at h;subst h;rw[he]at hw;simp only[wrt]at hw;cases hg:bget s.bx b with
    |none=>simp_all
    |some c=>
     simp only[hg,Zak]at hw;cases h0:Zb3 off (cellsOf (ev s.fr y)) c with
     |none=>simp_all
     |some c'=>
      simp only[h0,Zam,Zan]at hw;subst hw;exact⟨rfl,λq hq=>by simp only[Zc5];rw[Zau (Ne.symm hq)]⟩
  cases h
 |_=>grind[Za8]
def Zve {i:Ins}{s s':St}(h:ZaS P i s s')(hk:Za8 i=4){v:AV}(hs:s'=⟨putO s.fr (dstI i) v,s.bx,s.H⟩){x:IX}{b off:Nat}(hx:adrI i=some x)(he:ev s.fr x=.loc b off)(t:St)(ht:∀x∈Zbo i,get t.fr x=get s.fr x)(hb:bget t.bx b=bget s.bx b):
  ZaS P i t ⟨putO t.fr (dstI i) v,t.bx,t.H⟩:=by
 cases i with
 |loadL d x' m bb=>
  simp only[adrI,Zan]at hx;subst hx;simp only[ZaS,Zbb,he]at h;cases hr:rd s.bx [] m (.loc b off)with
  |none=>simp_all
  |some cs=>
   simp only[hr,Zak]at h;split at h
   rotate_left
   ·cases h
   rename_i h2;cases h0:mk bb cs with
   |none=>simp_all
   |some r=>
    simp only[h0,Zam,Zan]at h;subst hs;simp only[dstI,putO,St.mk.injEq,Zap]at h;obtain rfl:=ZlV h;have h1:rd t.bx [] m (.loc b off)=some cs:=by grind[rd]
    simp only[ZaS,Zbb,dstI,putO];rw[Zb6 (x:=x') (λq hq=>ht q (by simp[Zbo,ZcP,hq])),he];simp_all
 |_=>grind[Za8]
def ZlZ {o:IOp}{s s':St}(h:AOp P o s s')(hk:Za8 o.i≠3)(hK:ioK o=true)(hT:Tops s.fr):∃v bw H',ZYn P o s s' v bw H'/\top v=true:=by
 have h9:∀x,x∈Zbo o.i->x∈Zcm o:=λx hx=>by simp[Zcm,hx]
 unfold AOp at h;split at h
 ·rename_i hg;obtain⟨hj,h⟩:=h;obtain⟨v,bw,H',h1,h2,h3,hu,hn,h4,h5,h6,h7⟩:=ZsY h hk hK hT;have hf:∀t:St,(∀x∈Zcm o,get t.fr x=get s.fr x)->bnOK o t.fr=true:=λt ht=>by grind[ZkJ]
  have h8:Zi4 (Za8 o.i)->s'=⟨putO s.fr (dstI o.i) v,s.bx,s.H⟩:=λhm=>by obtain⟨rfl,rfl⟩:=h3 hm;exact h1
  refine⟨v,bw,H',⟨h1,λt ht hb e2=>?_,h3,hu,λhz=>?_,λhz t ht e2=>?_,λhz t e ht hb e2=>?_,λhz b hb=>?_,λhz b hb t ht e=>?_,λhz t ht hb=>?_,λhz t ht=>?_,λq b e=>(h5 q b e).mono h9,λd off e=>(h6 d off e).mono h9⟩,h7⟩
  ·unfold AOp;rw[hg];exact⟨hf t ht,h2 t (λx hx=>ht x (h9 x hx)) (λq hq=>hb q (hq.mono h9)) e2⟩
  ·grind[ZAT]
  ·unfold AOp;rw[hg];exact⟨hf t ht,ZtL h hz (h8 (.inr (.inr (.inr hz)))) t (λx hx=>ht x (h9 x hx)) e2⟩
  ·unfold AOp;rw[hg];exact⟨hf t ht,ZtM h hz hK (h8 (hz.elim (λh=>.inr (.inl h)) (λh=>.inr (.inr (.inr h))))) t e (λx hx=>ht x (h9 x hx)) (λq hq=>hb q (hq.mono h9)) e2⟩
  ·obtain⟨x,off,hx,he⟩:=ZoI hj hb;have:=ZsW h hz hx he;simp_all
  ·obtain⟨x,off,hx,he⟩:=ZoI hj hb;unfold AOp;rw[hg];exact⟨hf t ht,Zve h hz (h8 (.inr (.inr (.inl hz)))) hx he t (λx hx=>ht x (h9 x hx)) e⟩
  ·unfold AOp;rw[hg];exact⟨hf t ht,hn hz t (λx hx=>ht x (h9 x hx)) (λq hq=>hb q (hq.mono h9))⟩
  unfold AOp;rw[hg];exact⟨hf t ht,h4 hz t (λx hx=>ht x (h9 x hx))⟩
 rename_i tg want hg;have ha:tg∈Zcm o:=by simp[Zcm,hg]
 split at h
 ·rename_i b h0;split at h
  ·rename_i hb;obtain⟨hj,h⟩:=h;obtain⟨v,bw,H',h1,h2,h3,hu,hn,h4,h5,h6,h7⟩:=ZsY h hk hK hT;have hf:∀t:St,(∀x∈Zcm o,get t.fr x=get s.fr x)->bnOK o t.fr=true:=λt ht=>by grind[ZkJ]
   have h8:Zi4 (Za8 o.i)->s'=⟨putO s.fr (dstI o.i) v,s.bx,s.H⟩:=λhm=>by obtain⟨rfl,rfl⟩:=h3 hm;exact h1
   refine⟨v,bw,H',⟨h1,λt ht hh e2=>?_,h3,hu,λhz=>?_,λhz t ht e2=>?_,λhz t e ht hh e2=>?_,λhz b' hh=>?_,λhz b' hh t ht e=>?_,λhz t ht hh=>?_,λhz t ht=>?_,λq b e=>(h5 q b e).mono h9,λd off e=>(h6 d off e).mono h9⟩,h7⟩
   ·unfold AOp;rw[hg];simp only;rw[ht tg ha,h0];simp only;rw[Zav hb];exact⟨hf t ht,h2 t (λx hx=>ht x (h9 x hx)) (λq hq=>hh q (hq.mono h9)) e2⟩
   ·grind[ZAT]
   ·unfold AOp;rw[hg];simp only;rw[ht tg ha,h0];simp only;rw[Zav hb];exact⟨hf t ht,ZtL h hz (h8 (.inr (.inr (.inr hz)))) t (λx hx=>ht x (h9 x hx)) e2⟩
   ·unfold AOp;rw[hg];simp only;rw[ht tg ha,h0];simp only;rw[Zav hb];exact⟨hf t ht,ZtM h hz hK (h8 (hz.elim (λh=>.inr (.inl h)) (λh=>.inr (.inr (.inr h))))) t e (λx hx=>ht x (h9 x hx)) (λq hq=>hh q (hq.mono h9)) e2⟩
   ·obtain⟨x,off,hx,he⟩:=ZoI hj hh;have:=ZsW h hz hx he;rw[h1]at this;exact this
   ·obtain⟨x,off,hx,he⟩:=ZoI hj hh;unfold AOp;rw[hg];simp only;rw[ht tg ha,h0];simp only;rw[Zav hb];exact⟨hf t ht,Zve h hz (h8 (.inr (.inr (.inl hz)))) hx he t (λx hx=>ht x (h9 x hx)) e⟩
   ·unfold AOp;rw[hg];simp only;rw[ht tg ha,h0];simp only;rw[Zav hb];exact⟨hf t ht,hn hz t (λx hx=>ht x (h9 x hx)) (λq hq=>hh q (hq.mono h9))⟩
   unfold AOp;rw[hg];simp only;rw[ht tg ha,h0];simp only;rw[Zav hb];exact⟨hf t ht,h4 hz t (λx hx=>ht x (h9 x hx))⟩
  rename_i hb;subst h;refine⟨.nl .unit,none,s.H,⟨rfl,λt ht _ e2=>?_,λ_=>⟨rfl,rfl⟩,λ_=>rfl,λ_=>⟨[],by simp⟩,λhz t ht _=>?_,λhz t e ht _ e2=>?_,λ_ _ _=>⟨rfl,λ_ _=>rfl⟩,λhz b' hh t ht _=>?_,λhz t ht _=>?_,λhz t ht=>?_,λq b e=>(by cases e),λd off e=>(by cases e)⟩,rfl⟩
  ·unfold AOp;rw[hg];simp only;rw[ht tg ha,h0];simp only;rw[Zau hb,e2];rfl
  ·unfold AOp;rw[hg];simp only;rw[ht tg ha,h0];simp only;rw[Zau hb];trivial
  ·unfold AOp;rw[hg];simp only;rw[ht tg ha,h0];simp only;rw[Zau hb];trivial
  ·unfold AOp;rw[hg];simp only;rw[ht tg ha,h0];simp only;rw[Zau hb];trivial
  ·unfold AOp;rw[hg];simp only;rw[ht tg ha,h0];simp only;rw[Zau hb];trivial
  unfold AOp;rw[hg];simp only;rw[ht tg ha,h0];simp only;rw[Zau hb];trivial
 ·rename_i h0;subst h;refine⟨.nl .unit,none,s.H,⟨rfl,λt ht _ e2=>?_,λ_=>⟨rfl,rfl⟩,λ_=>rfl,λ_=>⟨[],by simp⟩,λhz t ht _=>?_,λhz t e ht _ e2=>?_,λ_ _ _=>⟨rfl,λ_ _=>rfl⟩,λhz b' hh t ht _=>?_,λhz t ht _=>?_,λhz t ht=>?_,λq b e=>(by cases e),λd off e=>(by cases e)⟩,rfl⟩
  ·unfold AOp;rw[hg];simp only;rw[ht tg ha,h0];simp only;rw[e2];rfl
  ·unfold AOp;rw[hg];simp only;rw[ht tg ha,h0];trivial
  ·unfold AOp;rw[hg];simp only;rw[ht tg ha,h0];trivial
  ·unfold AOp;rw[hg];simp only;rw[ht tg ha,h0];trivial
  ·unfold AOp;rw[hg];simp only;rw[ht tg ha,h0];trivial
  unfold AOp;rw[hg];simp only;rw[ht tg ha,h0];trivial
 simp_all
def newD:Ins->Option Nat
 |.newL d _|.boxL d _=>some d
 |_=>none
def ZkY {o:IOp}{s s':St}(hg:o.g=none){d:Nat}(hd:newD o.i=some d)(h:AOp P o s s'):
  dstI o.i=some d/\∃cs,s'=⟨put (Zgl d s.fr) d (.loc d 0),bput s.bx d cs,s.H⟩∧
   ∀t:St,(∀x∈Zcm o,get t.fr x=get s.fr x)->AOp P o t ⟨put (Zgl d t.fr) d (.loc d 0),bput t.bx d cs,t.H⟩:=by
 unfold AOp at h;rw[hg]at h;obtain⟨h2,h⟩:=h;have h1:∀t:St,(∀x∈Zcm o,get t.fr x=get s.fr x)->bnOK o t.fr=true:=λt ht=>by rw[ZkJ (λx hx=>ht x (by simp[Zcm,hx]))];exact h2
 obtain⟨g,i,pre,bn⟩:=o;simp only at hg h hd;subst hg;cases i<;>simp only[newD,Zan,reduceCtorEq]at hd
 ·rename_i d' z;subst hd;simp only[ZaS,Zbb,Zan]at h;exact⟨rfl,z,h.symm,λt ht=>⟨h1 t ht,rfl⟩⟩
 rename_i d' x;subst hd;simp only[ZaS,Zbb]at h;split at h
 ·rename_i h0;simp only[Zan]at h;refine⟨rfl,_,h.symm,λt ht=>?_⟩;have e:ev t.fr x=ev s.fr x:=Zb6 λq hq=>ht q (by simp[Zcm,Zbo,ZcP,hq])
  refine⟨h1 t ht,?_⟩;show ZaS P (.boxL d' x) t _;simp only[ZaS,Zbb,e,Zav h0]
 cases h
def ZyE {i:Ins}{d:Nat}(h:newD i=some d):dstI i=some d:=by
 cases i<;>simp_all[newD,dstI]
def Zrl {i:Ins}(h:Za8 i=3):∃d,newD i=some d:=by
 cases i<;>simp_all[Za8,newD]
def Zes {d:Nat}{fr:List (Nat×AV)}(h:ZnE d fr){u:Nat}(hu:u≠d):get (Zgl d fr) u=get fr u:=by
 rw[Zet];split
 ·rename_i t' o e;split
  ·rename_i ht;subst ht;exact absurd e (h u o hu)
  exact e.symm
 rfl
def Zh4 {fr:List (Nat×AV)}{d:Option Nat}{v:AV}{l:List Nat}(h:ZlH d l=true):∀x∈l,get (putO fr d v) x=get fr x:=by
 intro x hx;cases d with
 |none=>rfl
 |some d=>
  simp only[putO,ZbF];rw[Zau];rintro rfl;simp only[ZlH,Zh,List.elem_eq_mem,decide_eq_false_iff_not]at h;exact h hx
def Zda {fr:List (Nat×AV)}{d e:Option Nat}{v u:AV}(h:(match d,e with|some d,some e=>decide (d≠e)|_,_=>true)=true)(x:Nat):
  get (putO (putO fr d v) e u) x=get (putO (putO fr e u) d v) x:=by
 cases d with
 |none=>rfl
 |some d=>
  cases e with
  |none=>rfl
  |some e=>
   simp only[Zas]at h;simp only[putO,ZbF];by_cases h1:e=x<;>by_cases h2:d=x
   ·exact absurd (h2.trans h1.symm) h
   ·simp[h1,h2]
   ·simp[h1,h2]
   simp[h1,h2]
def Zwr {bx bx':List (Nat×List AV)}{bw:Option (Nat×List AV)}(h:∀x,bget bx x=bget bx' x)(x:Nat):bget (Zfn bx bw) x=bget (Zfn bx' bw) x:=by
 cases bw with
 |none=>exact h x
 |some p=>obtain⟨q,b⟩:=p;simp only[Zfn,Zc5,h x]
def Zqi {bx:List (Nat×List AV)}{bw:Option (Nat×List AV)}{d:Nat}{cs:List AV}(h:∀q b,bw=some (q,b)->q≠d)(x:Nat):bget (Zfn (bput bx d cs) bw) x=bget (bput (Zfn bx bw) d cs) x:=by
 cases bw with
 |none=>rfl
 |some p=>
  obtain⟨q,b⟩:=p;have:=h q b rfl;simp only[Zfn,Zc5];by_cases h1:q=x<;>by_cases h2:d=x
  ·exact absurd (h1.trans h2.symm) this
  ·simp[h1,h2]
  ·simp[h1,h2]
  simp[h1,h2]
def Zh6 {d:Nat}{l:List Nat}(h:ZlH (some d) l=true):d∉l:=by
 simpa[ZlH]using h
def Zsn {fr:List (Nat×AV)}{l:List Nat}{d q:Nat}(hc:ZnE d fr)(hd:d∉l)(h:Ziv fr l q):q≠d:=by
 rintro rfl;obtain⟨x,h1,o,h2⟩:=h;exact hc x o (λe=>hd (e▸h1)) h2
def ZpX {fr:List (Nat×AV)}{e:Option Nat}{v:AV}{u:Nat}(h:e≠some u):get (putO fr e v) u=get fr u:=by
 cases e with
 |none=>rfl
 |some e=>simp only[putO,ZbF];rw[Zau (λh'=>h (by rw[h']))]
def Tops.putO {fr:List (Nat×AV)}(h:Tops fr){e:Option Nat}{v:AV}(hv:top v=true):Tops (putO fr e v):=by
 intro t;cases e with
 |none=>exact h t
 |some e=>
  simp only[Eng.putO,ZbF];split
  ·exact hv
  exact h t
def Tops.new {fr:List (Nat×AV)}(h:Tops fr)(d:Nat):Tops (put (Zgl d fr) d (.loc d 0)):=by
 intro t;simp only[ZbF,Zet];split
 ·rfl
 have ht:=h t;generalize get fr t=x at ht;cases x with
 |loc t' o=>simp only;split<;>rfl
 |_=>simpa using ht
def AOp.tops {o:IOp}{s s':St}(h:AOp P o s s')(hg:Za8 o.i=3->o.g=none)(hK:ioK o=true)(hT:Tops s.fr):Tops s'.fr:=by
 by_cases hk:Za8 o.i=3
 ·obtain⟨d,hd⟩:=Zrl hk;obtain⟨_,cs,e,_⟩:=ZkY (hg hk) hd h;rw[e];exact hT.new d
 obtain⟨v,bw,H',sh,hv⟩:=ZlZ h hk hK hT;rw[sh.out];exact hT.putO hv
def ZiP {d:Nat}{xx:IX}{m:Nat}{b:Bool}{zs:List IX}{s s':St}:ZaS P (.loadN d xx m b zs) s s'↔∃id off r,ev s.fr xx=.ptr id off/\(zs.map (ev s.fr)).all (Zt7 id)=true∧
  ((rd [] s.H m (.ptr id off)).bind λcs=>if ZaX cs=true then mk b cs else none)=some r/\s'=⟨put s.fr d r,s.bx,s.H⟩:=by
 simp only[ZaS,Zbb];constructor
 ·intro h;split at h
  ·rename_i id off hx;split at h
   ·rename_i hz;cases hr:rd [] s.H m (.ptr id off)with
    |none=>rw[hr]at h;cases h
    |some cs=>
     rw[hr,Zak]at h;split at h
     ·rename_i h0;cases h3:mk b cs with
      |none=>rw[h3]at h;cases h
      |some r=>
       rw[h3]at h;simp only[Zam,Zan]at h;exact⟨id,off,r,hx,hz,by rw[hr,Zak,Zav h0,h3],h.symm⟩
     cases h
   cases h
  cases h
 rintro⟨id,off,r,hx,hz,hr,rfl⟩;rw[hx];simp only;rw[Zav hz];obtain⟨cs,h1,h2⟩:=Option.bind_eq_some_iff.1 hr;split at h2
 ·rename_i h0;rw[h1,Zak,Zav h0,h2];rfl
 cases h2
def Zpp {H H':List HO}{id off m:Nat}(h:H'[id]?=H[id]?):rd [] H' m (.ptr id off)=rd [] H m (.ptr id off):=by
 simp only[rd,h]
def ZnP {H:List HO}{id off m:Nat}{cs:List AV}(h:rd [] H m (.ptr id off)=some cs):∃c0,H[id]?=some (.cells c0):=by
 simp only[rd]at h;split at h
 ·exact⟨_,by assumption⟩
 cases h
def Zws {H H':List HO}{sz bytes:Nat}{a v:AV}{new:List (List PC)}(h:appV H sz bytes a new=some (v,H')){id:Nat}{c0:List AV}(hc:H[id]?=some (.cells c0)∨H'[id]?=some (.cells c0)):H'[id]?=H[id]?:=by
 have key:∀o:HO,(∀c,o≠.cells c)->(H++[o])[id]?=some (.cells c0)∨H[id]?=some (.cells c0)->(H++[o])[id]?=H[id]?:=by
  intro o ho hc;by_cases h0:id<H.length
  ·rw[ZG h0]
  rcases hc with hc|hc
  ·rw[ZH (by omega)]at hc;cases he:id-H.length with
   |zero=>rw[he]at hc;simp at hc;exact absurd hc (ho c0)
   |succ k=>rw[he]at hc;simp at hc
  rw[ZM (by omega)]at hc;cases hc
 unfold appV at h;split at h
 ·split at h
  ·split at h
   ·simp only[Zan,Zao]at h;rw[←h.2]
   simp only[Zan,Zao]at h;rw[←h.2]at hc⊢;exact key _ (λc e=>by cases e) hc.symm
  cases h
 ·rename_i sz0 q ver off len;split at h
  ·rename_i sz' ver' frz rows hq;split at h
   ·simp only[Zan,Zao]at h;rw[←h.2]at hc⊢;rw[ZP]at hc⊢;by_cases e:q=id
    ·subst e;rw[hq]at hc;rw[Zav rfl]at hc;split at hc<;>simp at hc
    rw[Zau e]
   cases h
  cases h
 cases h
def Zl8 {d:Nat}{xx:IX}{m:Nat}{b:Bool}{zs:List IX}{i:Ins}(hi:(∃e u v sz by_,i=.app e u v sz by_)∨∃z v k,i=.storeH z v k/\memT z zs=true)(h1:ZlH (some d) (Zbo i)=true)(h2:ZlH (dstI i) (Zbo (.loadN d xx m b zs))=true)
  (hd:∀e,dstI i=some e->d≠e) {s s1 s2:St}:(ZaS P (.loadN d xx m b zs) s s1->ZaS P i s1 s2->∃t1 t2,ZaS P i s t1/\ZaS P (.loadN d xx m b zs) t1 t2/\Eqv t2 s2)∧
  (ZaS P i s s1->ZaS P (.loadN d xx m b zs) s1 s2->∃t1 t2,ZaS P (.loadN d xx m b zs) s t1/\ZaS P i t1 t2/\Eqv t2 s2):=by
 have h0:∀(fr:List (Nat×AV)) (r:AV) q,q∈Zbo i->get (put fr d r) q=get fr q:=λfr r q hq=>Zh4 (d:=some d) (fr:=fr) (v:=r) h1 q hq
 have h7:∀(fr:List (Nat×AV)) (r:AV) q,q∈Zbo (.loadN d xx m b zs)->get (putO fr (dstI i) r) q=get fr q:=λfr r q hq=>Zh4 h2 q hq
 have evx:∀(fr:List (Nat×AV)) (r:AV),ev (putO fr (dstI i) r) xx=ev fr xx:=λfr r=>Zb6 (λq hq=>h7 fr r q (by simp[Zbo,ZcP,hq]))
 have evz:∀(fr:List (Nat×AV)) (r:AV),zs.map (ev (putO fr (dstI i) r))=zs.map (ev fr):=λfr r=>Zee (λq hq=>h7 fr r q (List.mem_append_right _ hq))
 obtain⟨F,hF,hg⟩:∃F:List (Nat×AV)->List HO->List (Nat×List AV)->AV->List HO->Prop,(∀t t',ZaS P i t t'↔∃v H',F t.fr t.H t.bx v H'/\t'=⟨putO t.fr (dstI i) v,t.bx,H'⟩)∧
   ∀(fr:List (Nat×AV)) (H:List HO) bx v H',F fr H bx v H'->(∀r,F (put fr d r) H bx v H')/\(∀r fr0,fr=put fr0 d r->F fr0 H bx v H')∧
    ∀id off c0,(zs.map (ev fr)).all (Zt7 id)=true->(H[id]?=some (.cells c0)∨H'[id]?=some (.cells c0))->H'[id]?=H[id]?:=by
  rcases hi with⟨e,u,v,sz,by_,rfl⟩|⟨z,y,k,rfl,hz⟩
  ·refine⟨λfr H bx a' H'=>Zi8 (ev fr v)=true/\∃new,ZdD H sz (ev fr v)=some new/\appV H sz by_ (ev fr u) new=some (a',H'),λt t'=>?_,λfr H bx a' H' hf=>?_⟩
   ·simp only[ZaS,Zbb];constructor
    ·intro h;split at h
     ·rename_i hs;obtain⟨new,h3,h4⟩:=Option.bind_eq_some_iff.1 h;obtain⟨p,h5,h6⟩:=Option.map_eq_some_iff.1 h4;exact⟨p.1,p.2,⟨hs,new,h3,h5⟩,h6.symm⟩
     cases h
    rintro⟨a',H',⟨hs,new,h3,h4⟩,rfl⟩;rw[Zav hs,h3,Zak,h4];rfl
   have e1:∀(fr:List (Nat×AV)) (r:AV),ev (put fr d r) u=ev fr u/\ev (put fr d r) v=ev fr v:=λfr r=>⟨Zb6 (λq hq=>h0 fr r q (by simp[Zbo,ZcP,hq])),Zb6 (λq hq=>h0 fr r q (by simp[Zbo,ZcP,hq]))⟩
   refine⟨λr=>?_,λr fr0 e0=>?_,λid off c0 _ hc=>?_⟩
   ·simp only[(e1 fr r).1,(e1 fr r).2];exact hf
   ·subst e0;simp only[(e1 fr0 r).1,(e1 fr0 r).2]at hf;exact hf
   obtain⟨_,new,_,h4⟩:=hf;exact Zws h4 hc
  refine⟨λfr H bx a' H'=>a'=.any/\ZqY (ev fr z)=false/\(cellsOf (ev fr y)).length=k/\ZaX (cellsOf (ev fr y))=true/\wrt bx H (cellsOf (ev fr y)) (ev fr z)=some ⟨bx,H'⟩,λt t'=>?_,λfr H bx a' H' hf=>?_⟩
  ·simp only[ZaS,Zbb];constructor
   ·intro h;split at h
    ·rename_i hs;obtain⟨m,h3,h4⟩:=Option.map_eq_some_iff.1 h;obtain⟨e1,e2⟩:=ZuX hs.1 h3;refine⟨.any,m.H,⟨rfl,hs.1,hs.2.1,hs.2.2,?_⟩,?_⟩
     ·exact e2 _
     rw[←h4,e1];rfl
    cases h
   rintro⟨a',H',⟨_,h1,h2,h3,h4⟩,rfl⟩;rw[Zav ⟨h1,h2,h3⟩,h4];rfl
  have e1:∀(fr:List (Nat×AV)) (r:AV),ev (put fr d r) z=ev fr z/\ev (put fr d r) y=ev fr y:=λfr r=>⟨Zb6 (λq hq=>h0 fr r q (by simp[Zbo,ZcP,hq])),Zb6 (λq hq=>h0 fr r q (by simp[Zbo,ZcP,hq]))⟩
  refine⟨λr=>?_,λr fr0 e0=>?_,λid off c0 hk _=>?_⟩
  ·simp only[(e1 fr r).1,(e1 fr r).2];exact hf
  ·subst e0;simp only[(e1 fr0 r).1,(e1 fr0 r).2]at hf;exact hf
  obtain⟨_,_,_,_,h4⟩:=hf;have h9:Zt7 id (ev fr z)=true:=by
   unfold memT at hz;split at hz
   ·rename_i u;obtain⟨q,hq,ha⟩:=List.any_eq_true.1 hz;split at ha
    ·rename_i u';simp only[Zas]at ha;subst ha;exact List.all_eq_true.1 hk _ (List.mem_map.2 ⟨_,hq,rfl⟩)
    cases ha
   cases hz
  unfold Zt7 at h9;split at h9
  ·rename_i id' off' he;simp only[Zas]at h9;rw[he]at h4;simp only[wrt]at h4;split at h4
   ·obtain⟨b',h5,h6⟩:=Option.map_eq_some_iff.1 h4;simp only[Mem.mk.injEq,true_and]at h6;rw[←h6,ZQ h9]
   cases h4
  cases h9
 constructor
 ·intro a1 a2;obtain⟨id,off,r,e1,e2,e3,rfl⟩:=ZiP.1 a1;obtain⟨v,H',f1,rfl⟩:=(hF _ _).1 a2;have f2:=(hg _ _ _ _ _ f1).2.1 r s.fr rfl;obtain⟨cs,hh,_⟩:=Option.bind_eq_some_iff.1 e3;obtain⟨c0,hj⟩:=ZnP hh;have h8:=(hg _ _ _ _ _ f2).2.2 id off c0 e2 (.inl hj);refine⟨_,_,(hF _ _).2 ⟨v,H',f2,rfl⟩,ZiP.2 ⟨id,off,r,by rw[evx];exact e1,by rw[evz];exact e2,by rw[Zpp h8];exact e3,rfl⟩,λq=>?_,λ_=>rfl,rfl⟩;exact(Zda (d:=some d) (e:=dstI i) (by
   cases he:dstI i with
   |none=>rfl
   |some e=>simpa using hd e he) q).symm
 intro a1 a2;obtain⟨v,H',f1,rfl⟩:=(hF _ _).1 a1;obtain⟨id,off,r,e1,e2,e3,rfl⟩:=ZiP.1 a2;rw[evx]at e1;rw[evz]at e2;obtain⟨cs,hh,_⟩:=Option.bind_eq_some_iff.1 e3;obtain⟨c0,hj⟩:=ZnP hh;have h8:=(hg _ _ _ _ _ f1).2.2 id off c0 e2 (.inr hj);have f2:=(hg _ _ _ _ _ f1).1 r;refine⟨_,_,ZiP.2 ⟨id,off,r,e1,e2,by rw[←Zpp h8];exact e3,rfl⟩,(hF _ _).2 ⟨v,H',f2,rfl⟩,λq=>?_,λ_=>rfl,rfl⟩;exact Zda (d:=some d) (e:=dstI i) (by
  cases he:dstI i with
  |none=>rfl
  |some e=>simpa using hd e he) q
def ZvO {x y:IOp}(hc:Zvt x y=true)(h7:ZlH (dstI x.i) (Zcm y)=true)(h0:ZlH (dstI y.i) (Zcm x)=true)(hd:(match dstI x.i,dstI y.i with
  |some d,some e=>decide (d≠e)
  |_,_=>true)=true){s s1 s2:St}(h1:AOp P x s s1)(h2:AOp P y s1 s2):∃t1 t2,AOp P y s t1/\AOp P x t1 t2/\Eqv t2 s2:=by
 simp only[Zvt,Ze,Option.isNone_iff_eq_none]at hc;obtain⟨⟨gx,gy⟩,hm⟩:=hc;have rx:Zcm x=Zbo x.i:=by simp[Zcm,gx]
 have ry:Zcm y=Zbo y.i:=by simp[Zcm,gy]
 rw[ry]at h7;rw[rx]at h0;have ux:∀t t',AOp P x t t'↔bnOK x t.fr=true/\ZaS P x.i t t':=λt t'=>by unfold AOp ZvH;rw[gx]
 have uy:∀t t',AOp P y t t'↔bnOK y t.fr=true/\ZaS P y.i t t':=λt t'=>by unfold AOp ZvH;rw[gy]
 obtain⟨b1,a1⟩:=(ux _ _).1 h1;obtain⟨b2,a2⟩:=(uy _ _).1 h2;have fin:(∃t1 t2,ZaS P y.i s t1/\ZaS P x.i t1 t2/\Eqv t2 s2)->(∀t t',ZaS P x.i t t'->∃v,t'.fr=putO t.fr (dstI x.i) v)->(∀t t',ZaS P y.i t t'->∃v,t'.fr=putO t.fr (dstI y.i) v)->∃t1 t2,AOp P y s t1/\AOp P x t1 t2/\Eqv t2 s2:=by
  rintro⟨t1,t2,c1,c2,c3⟩ px py;obtain⟨v,ev1⟩:=px _ _ a1;obtain⟨u,ev2⟩:=py _ _ c1;refine⟨t1,t2,(uy _ _).2 ⟨?_,c1⟩,(ux _ _).2 ⟨?_,c2⟩,c3⟩
  ·rw[←b2,ev1];exact(ZkJ λq hq=>Zh4 h7 q hq).symm
  rw[←b1,ev2];exact ZkJ λq hq=>Zh4 h0 q hq
 have shL:∀(d:Nat) (xx:IX) (m:Nat) (b:Bool) (zs:List IX) (t t':St),ZaS P (.loadN d xx m b zs) t t'->∃v,t'.fr=putO t.fr (some d) v:=λd xx m b zs t t' h=>by
  obtain⟨_,_,r,_,_,_,rfl⟩:=ZiP.1 h;exact⟨r,rfl⟩
 have shA:∀(e:Nat) (u v:IX) (sz by_:Nat) (t t':St),ZaS P (.app e u v sz by_) t t'->∃w,t'.fr=putO t.fr (some e) w:=λe u v sz by_ t t' h=>by
  simp only[ZaS,Zbb]at h;split at h
  ·obtain⟨new,h3,h4⟩:=Option.bind_eq_some_iff.1 h;obtain⟨p,h5,h6⟩:=Option.map_eq_some_iff.1 h4;exact⟨p.1,by rw[←h6];rfl⟩
  cases h
 have shS:∀(z v:IX) (k:Nat) (t t':St),ZaS P (.storeH z v k) t t'->∃w,t'.fr=putO t.fr none w:=λz v k t t' h=>by
  simp only[ZaS,Zbb]at h;split at h
  ·obtain⟨m,h3,h4⟩:=Option.map_eq_some_iff.1 h;exact⟨.any,by rw[←h4];rfl⟩
  cases h
 generalize x.i=xi at*;generalize y.i=yi at*;split at hm
 ·rename_i d xx m b zs e u v sz by_;exact fin ((Zl8 (P:=P) (.inl ⟨_,_,_,_,_,rfl⟩) h7 h0 (λe' he=>by simp only[dstI,Zan]at he;subst he;simpa[dstI]using hd)).1 a1 a2) (shL _ _ _ _ _) (shA _ _ _ _ _)
 ·rename_i e u v sz by_ d xx m b zs;exact fin ((Zl8 (P:=P) (.inl ⟨_,_,_,_,_,rfl⟩) h0 h7 (λe' he=>by simp only[dstI,Zan]at he;subst he;exact Ne.symm (show e≠d by simpa[dstI]using hd))).2 a1 a2) (shA _ _ _ _ _) (shL _ _ _ _ _)
 ·rename_i d xx m b zs z v k;exact fin ((Zl8 (P:=P) (.inr ⟨_,_,_,rfl,hm⟩) h7 h0 (λe' he=>by simp[dstI]at he)).1 a1 a2) (shL _ _ _ _ _) (shS _ _ _)
 ·rename_i z v k d xx m b zs;exact fin ((Zl8 (P:=P) (.inr ⟨_,_,_,rfl,hm⟩) h0 h7 (λe' he=>by simp[dstI]at he)).2 a1 a2) (shS _ _ _) (shL _ _ _ _ _)
 cases hm
def swap {x y:IOp}(hi:Zwg x y=true)(gn:Za8 x.i=3->x.g=none)(gm:Za8 y.i=3->y.g=none)(gf:ioK x=true)(gr:ioK y=true){s s1 s2:St}(hT:Tops s.fr)
  (gw:∀d,newD x.i=some d->ZnE d s.fr) (go:∀d,newD y.i=some d->ZnE d s.fr)
  (h1:AOp P x s s1) (h2:AOp P y s1 s2):∃t1 t2,AOp P y s t1/\AOp P x t1 t2/\Eqv t2 s2:=by
 have gq:Tops s1.fr:=h1.tops gn gf hT;simp only[Zwg,Ze]at hi;obtain⟨⟨⟨hk,hy⟩,hg⟩,hd⟩:=hi;rw[Zj]at hk;by_cases hf:Zvt x y=true
 ·exact ZvO hf hy hg hd h1 h2
 replace hk:=hk.resolve_right hf;by_cases g3:Za8 x.i=3
 ·obtain⟨d,hn⟩:=Zrl g3;have h9:=gw d hn;obtain⟨g5,cs,e1,again1⟩:=ZkY (gn g3) hn h1;rw[g5]at hy hd;have g0:=Zh6 hy;by_cases gb:Za8 y.i=3
  ·obtain⟨e,h4⟩:=Zrl gb;have hh:=go e h4;obtain⟨hz,cs',e2,again2⟩:=ZkY (gm gb) h4 h2;rw[hz]at hg hd;have hex:=Zh6 hg;simp only[Zas]at hd;subst e1 e2;have a1:=again2 s (λq hq=>by
    have hm:d≠q:=λe=>g0 (e▸hq)
    simp only[ZbF];rw[Zau hm,Zes h9 (Ne.symm hm)])
   have a2:=again1 ⟨put (Zgl e s.fr) e (.loc e 0),bput s.bx e cs',s.H⟩ (λq hq=>by
    have hm:e≠q:=λh=>hex (h▸hq)
    simp only[ZbF];rw[Zau hm,Zes hh (Ne.symm hm)])
   refine⟨_,_,a1,a2,λq=>?_,λq=>?_,rfl⟩
   ·have hu:∀(a b:Nat),a≠b->ZnE a s.fr->ZnE b s.fr->∀q,get (put (Zgl a (put (Zgl b s.fr) b (.loc b 0))) a (.loc a 0)) q=if q=a then .loc a 0 else if q=b then .loc b 0 else get s.fr q:=by
     intro a b gx ha hb q;simp only[ZbF];by_cases h1:a=q
     ·subst h1;simp
     rw[Zau h1,Zau (Ne.symm h1),Zet];simp only[ZbF];by_cases h2:b=q
     ·subst h2;simp[Ne.symm gx]
     simp only[Zau h2,Zau (Ne.symm h2)];rw[Zes hb (Ne.symm h2)];split
     ·rename_i t' o ht;split
      ·rename_i e;subst e;exact absurd ht (ha q o (Ne.symm h1))
      exact ht.symm
     rfl
    show get (put (Zgl d (put (Zgl e s.fr) e (.loc e 0))) d (.loc d 0)) q=get (put (Zgl e (put (Zgl d s.fr) d (.loc d 0))) e (.loc e 0)) q;rw[hu d e hd h9 hh,hu e d (Ne.symm hd) hh h9];by_cases h1:q=d
    ·subst h1;simp[hd]
    simp[h1]
   show bget (bput (bput s.bx e cs') d cs) q=bget (bput (bput s.bx d cs) e cs') q;simp only[Zc5];by_cases h1:d=q
   ·subst h1;simp[Ne.symm hd]
   simp[h1]
  obtain⟨v,bw,H',sy,_⟩:=ZlZ h2 gb gr gq;subst e1;have h3:∀q∈Zcm y,get s.fr q=get (put (Zgl d s.fr) d (.loc d 0)) q:=λq hq=>by
   have h4:d≠q:=λe=>g0 (e▸hq)
   rw[ZbF,Zau h4,Zes h9 (Ne.symm h4)]
  have h0:∀q,Ziv (put (Zgl d s.fr) d (.loc d 0)) (Zcm y) q->q≠d:=λq ⟨x,hx,o,ho⟩=>by
   rw[←h3 x hx]at ho;exact Zsn h9 g0 ⟨x,hx,o,ho⟩
  have a1:=sy.again s h3 (λq hq=>by simp only[Zc5];rw[Zau (Ne.symm (h0 q hq))]) rfl;refine⟨_,_,a1,again1 ⟨putO s.fr (dstI y.i) v,Zfn s.bx bw,H'⟩ (λq hq=>Zh4 hg q hq),?_⟩;rw[sy.out];have hv:∀off,v≠.loc d off:=λoff e=>absurd rfl (h0 d (sy.src d off e))
  have h4:dstI y.i≠some d:=by
   intro e;rw[e]at hd;simp at hd
  refine⟨λq=>?_,λq=>(Zqi (λq b e=>h0 q (sy.named q b e)) q).symm,rfl⟩;simp only[ZbF];by_cases hq:d=q
  ·subst hq;rw[Zav rfl,ZpX h4,ZbF,Zav rfl]
  rw[Zau hq];cases hz:dstI y.i with
  |none=>
   simp only[putO];rw[ZbF,Zau hq]
  |some e=>
   simp only[putO];rw[Zet,ZbF,ZbF,ZbF];by_cases he:e=q
   ·simp only[he,Zaw];cases v with
    |loc t' o=>
     simp only;rw[Zau (λe=>hv o (by rw[e]))]
    |_=>rfl
   simp only[he,Zat,Zau hq];rw[Zet]
 by_cases g7:Za8 y.i=3
 ·obtain⟨d,hn⟩:=Zrl g7;have h9:=go d hn;obtain⟨v,bw,H',sx,_⟩:=ZlZ h1 g3 gf hT;obtain⟨g0,cs,e2,again2⟩:=ZkY (gm g7) hn h2;rw[g0]at hg hd;have g5:=Zh6 hg;have e1:=sx.out;subst e1;subst e2;have a1:=again2 s (λq hq=>(Zh4 hy q hq).symm);have h3:∀q∈Zcm x,get (put (Zgl d s.fr) d (.loc d 0)) q=get s.fr q:=λq hq=>by
   have h4:d≠q:=λe=>g5 (e▸hq)
   rw[ZbF,Zau h4,Zes h9 (Ne.symm h4)]
  have h0:∀q,Ziv s.fr (Zcm x) q->q≠d:=λq hq=>Zsn h9 g5 hq
  have a2:=sx.again ⟨put (Zgl d s.fr) d (.loc d 0),bput s.bx d cs,s.H⟩ h3 (λq hq=>by simp only[Zc5];rw[Zau (Ne.symm (h0 q hq))]) rfl;refine⟨_,_,a1,a2,?_⟩;have hv:∀off,v≠.loc d off:=λoff e=>absurd rfl (h0 d (sx.src d off e))
  have h4:dstI x.i≠some d:=by
   intro e;rw[e]at hd;simp at hd
  refine⟨λq=>?_,λq=>Zqi (λq b e=>h0 q (sx.named q b e)) q,rfl⟩;simp only[ZbF];by_cases hq:d=q
  ·subst hq;rw[Zav rfl,ZpX h4,ZbF,Zav rfl]
  rw[Zau hq];cases gv:dstI x.i with
  |none=>
   simp only[putO];rw[ZbF,Zau hq]
  |some e=>
   simp only[putO];rw[Zet,ZbF,ZbF,ZbF];by_cases he:e=q
   ·simp only[he,Zaw];cases v with
    |loc t' o=>
     simp only;rw[Zau (λe=>hv o (by rw[e]))]
    |_=>rfl
   simp only[he,Zat,Zau hq];rw[Zet]
 obtain⟨v,bw,H',sx,gy⟩:=ZlZ h1 g3 gf hT;have e1:=sx.out;subst e1;obtain⟨u,bw',H'',sy,_⟩:=ZlZ h2 g7 gr gq;have e2:=sy.out;subst e2;have h5:∀q∈Zcm y,get s.fr q=get (putO s.fr (dstI x.i) v) q:=λq hq=>(Zh4 hy q hq).symm
 have h6:∀(q:Nat),q∈Zcm x->get (putO s.fr (dstI y.i) u) q=get s.fr q:=λq hq=>Zh4 hg q hq
 by_cases gk:Za8 x.i=0
 ·obtain⟨rfl,rfl⟩:=sx.quiet (.inl gk);refine⟨_,_,sy.again s h5 (λq _=>rfl) rfl,sx.blind gk ⟨putO s.fr (dstI y.i) u,Zfn s.bx bw',H''⟩ h6,?_⟩;exact⟨λq=>(Zda hd q).symm,λ_=>rfl,rfl⟩
 by_cases gi:Za8 y.i=0
 ·obtain⟨rfl,rfl⟩:=sy.quiet (.inl gi);refine⟨_,_,sy.blind gi s h5,sx.again ⟨putO s.fr (dstI y.i) u,s.bx,s.H⟩ h6 (λ_ _=>rfl) rfl,?_⟩;exact⟨λq=>(Zda hd q).symm,λ_=>rfl,rfl⟩
 have hj:((Zi4 (Za8 x.i)/\Zi4 (Za8 y.i))∨(Za8 x.i=4/\Za8 y.i=5)∨(Za8 x.i=5/\Za8 y.i=4))∨((Za8 x.i=4/\Za8 y.i=6)∨(Za8 x.i=6/\Za8 y.i=4))∨((Za8 x.i=1∨Za8 x.i=7)/\Za8 y.i=6)∨ZuO x y=true∨Zxr x y=true:=by
  simp only[Zj]at hk;rcases hk with(hk|hk)|hk
  ·unfold Zxh at hk;split at hk<;>simp_all[Zi4]
  ·exact .inr (.inr (.inr (.inl hk)))
  exact .inr (.inr (.inr (.inr hk)))
 rcases hj with(⟨g4,gs⟩|⟨h8,g6⟩|⟨g9,h7⟩)|(⟨h8,g6⟩|⟨g9,h7⟩)|⟨g4,gh⟩|gp|gl
 ·obtain⟨rfl,rfl⟩:=sx.quiet g4;obtain⟨rfl,rfl⟩:=sy.quiet gs;refine⟨_,_,sy.again s h5 (λq _=>rfl) rfl,sx.again ⟨putO s.fr (dstI y.i) u,s.bx,s.H⟩ h6 (λ_ _=>rfl) rfl,?_⟩;exact⟨λq=>(Zda hd q).symm,λ_=>rfl,rfl⟩
 ·obtain⟨rfl,rfl⟩:=sx.quiet (.inr (.inr (.inl h8)));have hb:=sy.boxed (.inl g6);subst hb;refine⟨_,_,sy.again s h5 (λq _=>rfl) rfl,sx.local4 h8 ⟨putO s.fr (dstI y.i) u,s.bx,H''⟩ h6 (λ_ _=>rfl),?_⟩;exact⟨λq=>(Zda hd q).symm,λ_=>rfl,rfl⟩
 ·have hb:=sx.boxed (.inl g9);subst hb;obtain⟨rfl,rfl⟩:=sy.quiet (.inr (.inr (.inl h7)));refine⟨_,_,sy.local4 h7 s h5 (λ_ _=>rfl),sx.again ⟨putO s.fr (dstI y.i) u,s.bx,s.H⟩ h6 (λ_ _=>rfl) rfl,?_⟩;exact⟨λq=>(Zda hd q).symm,λ_=>rfl,rfl⟩
 ·obtain⟨rfl,rfl⟩:=sx.quiet (.inr (.inr (.inl h8)));have hb:=sy.boxed (.inr g6);subst hb;refine⟨_,_,sy.again s h5 (λq _=>rfl) rfl,sx.local4 h8 ⟨putO s.fr (dstI y.i) u,s.bx,H''⟩ h6 (λ_ _=>rfl),?_⟩;exact⟨λq=>(Zda hd q).symm,λ_=>rfl,rfl⟩
 ·have hb:=sx.boxed (.inr g9);subst hb;obtain⟨rfl,rfl⟩:=sy.quiet (.inr (.inr (.inl h7)));refine⟨_,_,sy.local4 h7 s h5 (λ_ _=>rfl),sx.again ⟨putO s.fr (dstI y.i) u,s.bx,s.H⟩ h6 (λ_ _=>rfl) rfl,?_⟩;exact⟨λq=>(Zda hd q).symm,λ_=>rfl,rfl⟩
 ·obtain⟨rfl,rfl⟩:=sx.quiet (g4.elim (λh=>.inr (.inl h)) (λh=>.inr (.inr (.inr h))));have hb:=sy.boxed (.inr gh);subst hb;obtain⟨e,he⟩:=sy.more6 gh;refine⟨_,_,sy.again s h5 (λq _=>rfl) rfl,sx.grow1 g4 ⟨putO s.fr (dstI y.i) u,s.bx,H''⟩ e h6 (λ_ _=>rfl) he,?_⟩;exact⟨λq=>(Zda hd q).symm,λ_=>rfl,rfl⟩
 ·simp only[ZuO,Ze,Zj,beq_iff_eq]at gp;obtain⟨gu,gd⟩:=gp;split at gd
  ·rename_i a b ha hb;have h4:a≠b:=of_decide_eq_true gd;rcases gu with⟨ga,h7⟩|⟨h8,g8⟩
   ·obtain⟨rfl,hw⟩:=sx.bnW ga a ha;obtain⟨rfl,rfl⟩:=sy.quiet (.inr (.inr (.inl h7)));refine⟨_,_,sy.bnR h7 b hb s h5 (hw b (Ne.symm h4)).symm,sx.again ⟨putO s.fr (dstI y.i) u,s.bx,s.H⟩ h6 (λ_ _=>rfl) rfl,?_⟩;exact⟨λq=>(Zda hd q).symm,λ_=>rfl,rfl⟩
   obtain⟨rfl,rfl⟩:=sx.quiet (.inr (.inr (.inl h8)));obtain⟨rfl,hw⟩:=sy.bnW g8 b hb;refine⟨_,_,sy.again s h5 (λq _=>rfl) rfl,sx.bnR h8 a ha ⟨putO s.fr (dstI y.i) u,Zfn s.bx bw',s.H⟩ h6 (hw a h4),?_⟩;exact⟨λq=>(Zda hd q).symm,λ_=>rfl,rfl⟩
  cases gd
 simp only[Zxr,Ze,Zj,beq_iff_eq]at gl;rcases gl with⟨⟨ga,gc⟩,gg⟩|⟨⟨gj,g8⟩,gc⟩
 ·obtain⟨b,hb⟩:=Option.isSome_iff_exists.1 gc;obtain⟨rfl,_⟩:=sx.bnW ga b hb;obtain⟨rfl,rfl⟩:=sy.quiet (.inr (.inr (.inr gg)));refine⟨_,_,sy.heap7 gg s h5 rfl,sx.again ⟨putO s.fr (dstI y.i) u,s.bx,s.H⟩ h6 (λ_ _=>rfl) rfl,?_⟩;exact⟨λq=>(Zda hd q).symm,λ_=>rfl,rfl⟩
 obtain⟨b,hb⟩:=Option.isSome_iff_exists.1 gc;obtain⟨rfl,rfl⟩:=sx.quiet (.inr (.inr (.inr gj)));obtain⟨rfl,_⟩:=sy.bnW g8 b hb;refine⟨_,_,sy.again s h5 (λq _=>rfl) rfl,sx.heap7 gj ⟨putO s.fr (dstI y.i) u,Zfn s.bx bw',s.H⟩ h6 rfl,?_⟩;exact⟨λq=>(Zda hd q).symm,λ_=>rfl,rfl⟩
def AOp.eqv {o:IOp}{s s' t:St}(h:AOp P o s s')(hg:Za8 o.i=3->o.g=none)(hK:ioK o=true)(hT:Tops s.fr)(e:Eqv s t):∃t',AOp P o t t'/\Eqv s' t':=by
 by_cases hk:Za8 o.i=3
 ·obtain⟨d,hd⟩:=Zrl hk;obtain⟨_,cs,e1,again⟩:=ZkY (hg hk) hd h;refine⟨_,again t (λx _=>(e.fr x).symm),?_⟩;rw[e1];refine⟨λx=>?_,λx=>?_,e.H⟩
  ·simp only[ZbF,Zet,e.fr x]
  simp only[Zc5,e.bx x]
 obtain⟨v,bw,H',sh,_⟩:=ZlZ h hk hK hT;refine⟨_,sh.again t (λx _=>(e.fr x).symm) (λq _=>(e.bx q).symm) e.H.symm,?_⟩;rw[sh.out];refine⟨λx=>?_,Zwr e.bx,rfl⟩;cases dstI o.i with
 |none=>exact e.fr x
 |some d=>simp only[putO,ZbF,e.fr x]
def Zj4 (P:Program)(ios:List IOp):List Nat->St->St->Prop
 |[],s,s'=>s'=s
 |i::l,s,s'=>∃o s1,ios[i]?=some o/\AOp P o s s1/\Zj4 P ios l s1 s'
def calm (ios:List IOp):Bool:=ios.all λo=>(decide (Za8 o.i≠3)||decide (o.g=none))&&ioK o
def ZoH {ios:List IOp}(hc:calm ios=true){i:Nat}{o:IOp}(h:ios[i]?=some o):(Za8 o.i=3->o.g=none)/\ioK o=true:=by
 have:=List.all_eq_true.1 hc o (List.mem_of_getElem? h);simp only[Ze,Zj,Zas]at this;exact⟨λe=>this.1.resolve_left (λh=>h e),this.2⟩
def Zj4.eqv {ios:List IOp}(hc:calm ios=true):∀(l:List Nat) {s s' t:St},Zj4 P ios l s s'->Tops s.fr->Eqv s t->∃t',Zj4 P ios l t t'/\Eqv s' t'
 |[],s,s',t,h,_,e=>by simp only[Zj4]at h;subst h;exact⟨t,rfl,e⟩
 |i::l,s,s',t,h,hT,e=>by
  simp only[Zj4]at h;obtain⟨o,s1,h0,h1,h2⟩:=h;obtain⟨hg,hK⟩:=ZoH hc h0;obtain⟨t1,h3,e1⟩:=h1.eqv hg hK hT e;obtain⟨t',h4,e2⟩:=Zj4.eqv hc l h2 (h1.tops hg hK hT) e1;exact⟨t',⟨o,t1,h0,h3,h4⟩,e2⟩
def Cl (ios:List IOp)(l:List Nat)(s:St):Prop:=∀m∈l,∀om d,ios[m]?=some om->newD om.i=some d->ZnE d s.fr
def AOp.clear {o:IOp}{s s':St}(h:AOp P o s s')(hg:Za8 o.i=3->o.g=none)(hK:ioK o=true)(hT:Tops s.fr){d:Nat}(hc:ZnE d s.fr)(hr:d∉Zcm o)(hn:newD o.i≠some d):ZnE d s'.fr:=by
 by_cases hk:Za8 o.i=3
 ·obtain⟨d',h0⟩:=Zrl hk;obtain⟨_,cs,e1,_⟩:=ZkY (hg hk) h0 h;rw[e1];intro u off hu e;simp only[ZbF]at e;split at e
  ·simp only[AV.loc.injEq]at e;exact hn (by rw[h0,e.1])
  rw[Zet]at e;split at e
  ·rename_i t' o' e';split at e
   ·cases e
   simp only[AV.loc.injEq]at e;exact hc u o' hu (by rw[e',e.1])
  exact hc u off hu e
 obtain⟨v,bw,H',sh,_⟩:=ZlZ h hk hK hT;rw[sh.out];intro u off hu e;cases hd:dstI o.i with
 |none=>rw[hd]at e;exact hc u off hu e
 |some q=>
  rw[hd]at e;simp only[putO,ZbF]at e;split at e
  ·exact absurd rfl (Zsn hc hr (sh.src d off e))
  exact hc u off hu e
def bef:Option (List Nat)->Nat->Nat->Bool
 |none,a,b=>decide (a<b)
 |some o,a,b=>decide (o.idxOf a<o.idxOf b)
def ZrE {ord:Option (List Nat)}{a b:Nat}(h:bef ord a b=true):a≠b:=by
 rintro rfl;cases ord<;>simp[bef]at h
def Zy2 {ord:Option (List Nat)}{a b:Nat}(h:bef ord a b=true):¬bef ord b a=true:=by
 cases ord<;>simp only[bef,Zas]at h⊢<;>omega
def ZAx (ord:Option (List Nat))(ios:List IOp):Bool:=
 (List.range ios.length).all λm=>match ios[m]? with
  |some om=>(match newD om.i with
   |some d=>(List.range ios.length).all λj=>match ios[j]? with
    |some oj=>(!bef ord j m||!(Zcm oj).elem d)&&(decide (j=m)||decide (newD oj.i≠some d))
    |none=>true
   |none=>true)
  |none=>true
def ZtF {ord:Option (List Nat)}{ios:List IOp}(h:ZAx ord ios=true){m j:Nat}{om oj:IOp}{d:Nat}(hm:ios[m]?=some om)(hj:ios[j]?=some oj)(hd:newD om.i=some d):(bef ord j m=true->d∉Zcm oj)/\(j≠m->newD oj.i≠some d):=by
 have h3:=(List.getElem?_eq_some_iff.1 hm).1;have h5:=(List.getElem?_eq_some_iff.1 hj).1;have h1:=List.all_eq_true.1 h m (List.mem_range.2 h3);rw[hm]at h1;simp only[hd]at h1;have h2:=List.all_eq_true.1 h1 j (List.mem_range.2 h5);rw[hj]at h2;simp only[Ze,Zj,Zas,Zh]at h2;refine⟨λh4=>?_,λh0=>h2.2.resolve_left h0⟩;have:=h2.1.resolve_left (by rw[h4];simp);simpa using this
def Zj4.first {ord:Option (List Nat)}{ios:List IOp}(hc:calm ios=true)(ht:ZAx ord ios=true){i:Nat}{oi:IOp}(hi:ios[i]?=some oi):∀(l1 l2:List Nat) {s s':St},(∀j∈l1,∀oj,ios[j]?=some oj->Zwg oj oi=true)->(l1++i::l2).Pairwise (λa b=>bef ord a b=true)->Tops s.fr->Cl ios (l1++i::l2) s->Zj4 P ios (l1++i::l2) s s'→
  ∃s1 s'',AOp P oi s s1/\Zj4 P ios (l1++l2) s1 s''/\Eqv s'' s'
 |[],l2,s,s',_,_,_,_,h=>by
  simp only[Z7,Zj4]at h;obtain⟨o,s1,h0,h1,h2⟩:=h;rw[hi]at h0;cases h0;exact⟨s1,s',h1,h2,Eqv.refl _⟩
 |j::l1,l2,s,s',hf,he,hT,hj,h=>by
  simp only[Zz,Zj4]at h;obtain⟨oj,t,h0,h1,h2⟩:=h;obtain⟨hg,hk⟩:=ZoH hc h0;obtain⟨hv,hy⟩:=ZoH hc hi;have ha:=List.pairwise_cons.1 he;have hx:=h1.tops hg hk hT;have hh:Cl ios (l1++i::l2) t:=λm hm om d hn hd=>by
   have hu:bef ord j m=true:=ha.1 m hm;obtain⟨n1,n2⟩:=ZtF ht hn h0 hd;exact h1.clear hg hk hT (hj m (by simp only[Zz,List.mem_cons];exact .inr hm) om d hn hd) (n1 hu) (n2 (ZrE hu))
  obtain⟨t1,s'',h3,h4,h5⟩:=Zj4.first hc ht hi l1 l2 (λq hq=>hf q (by simp[hq])) ha.2 hx hh h2;obtain⟨u1,u2,h6,h7,h8⟩:=swap (hf j (by simp) oj h0) hg hv hk hy hT (λd hd=>hj j (by simp) oj d h0 hd) (λd hd=>hj i (by simp) oi d hi hd) h1 h3;obtain⟨s3,h9,hz⟩:=Zj4.eqv hc _ h4 (h3.tops hv hy hx) h8.symm;exact⟨u1,s3,h6,⟨oj,u2,h0,h7,h9⟩,hz.symm.trans h5⟩
def ZAY (ord:Option (List Nat))(ops:Array Oper)(ios:List IOp):Bool:=
 (List.range ios.length).all λi=>match ops[i]?,ios[i]? with
  |some o,some io=>(o.after.all λe=>!Region.binds .any e||(bef ord e.on i&&decide (e.on<ios.length)))&&io.pre.all λj=>decide (1000000<=j)||o.after.any λe=>Region.binds .any e&&(decide (e.on=j)||(match ios[e.on]? with
   |some ie=>ie.pre.elem j
   |none=>false))
  |_,_=>false
def Zxj (ord:Option (List Nat))(ios:List IOp):Bool:=
 (List.range ios.length).all λi=>(List.range ios.length).all λj=>!bef ord j i||match ios[j]?,ios[i]? with
  |some oj,some oi=>(oi.pre.elem j&&decide (j<1000000))||Zwg oj oi
  |_,_=>false
def Zxz (ord:Option (List Nat))(ops:Array Oper)(ios:List IOp):Bool:=calm ios&&ZAY ord ops ios&&Zxj ord ios&&ZAx ord ios
def posO (o:IOp):Option Nat:=(o.pre.find? λx=>decide (1000000<=x)).map (· -1000000)
def ordL (iw:List IOp):Option (List Nat):=if iw.all (λo=>(posO o).isSome)then some (iw.map λo=>(posO o).getD 0)else none
def srtL (iw:List IOp):List IOp:=match ordL iw with
 |none=>iw
 |some o=>(List.range iw.length).map λp=>iw.getD (o.idxOf p) ⟨none,.newL 0 [],[],none⟩
def ordK (iw:List IOp):Bool:=match ordL iw with
 |none=>true
 |some o=>(List.range iw.length).all λk=>o.contains k&&decide (o.idxOf (o.getD k 0)=k)&&decide (o.getD k 0<iw.length)
def Zvq (ops:Array Oper)(iw:List IOp):Bool:=ordK iw&&Zxz (ordL iw) ops (srtL iw)
def ZrI (iw:List IOp):List Nat:=match ordL iw with
 |none=>List.range iw.length
 |some o=>o
def Zmy {iw:List IOp}{o:List Nat}(h:ordL iw=some o):o.length=iw.length:=by
 unfold ordL at h;split at h
 ·simp only[Zan]at h;subst h;simp
 cases h
def ZkW {iw:List IOp}{o:List Nat}(h:ordK iw=true)(ho:ordL iw=some o){k:Nat}(hk:k<iw.length):k∈o/\o.idxOf (o.getD k 0)=k/\o.getD k 0<iw.length:=by
 unfold ordK at h;rw[ho]at h;have:=List.all_eq_true.1 h k (List.mem_range.2 hk);simp only[Ze,Zas,ZA]at this;exact⟨this.1.1,this.1.2,this.2⟩
def Zyg (iw:List IOp):(srtL iw).length=iw.length:=by
 unfold srtL;split<;>simp
def Zyf {iw:List IOp}(h:ordK iw=true){o:IOp}(ho:o∈srtL iw):o∈iw:=by
 unfold srtL at ho;split at ho
 ·exact ho
 rename_i od h0;obtain⟨p,hp,rfl⟩:=List.mem_map.1 ho;have h3:=List.mem_range.1 hp;have h1:=(ZkW h h0 h3).1;have h2:od.idxOf p<od.length:=List.idxOf_lt_length_iff.2 h1;rw[Zmy h0]at h2;rw[ZF,ZL h2];exact List.getElem_mem h2
def ZzO {iw:List IOp}(h:ordK iw=true){k:Nat}(hk:k<iw.length):∃p,(ZrI iw)[k]?=some p/\(srtL iw)[p]?=iw[k]?:=by
 unfold ZrI srtL;cases ho:ordL iw with
 |none=>exact⟨k,by simp[hk],rfl⟩
 |some o=>
  obtain⟨_,h2,h3⟩:=ZkW h ho hk;have hl:=Zmy ho;refine⟨o.getD k 0,?_,?_⟩
  ·simp only[ZF,ZL (show k<o.length by omega),Zal]
  simp only;rw[ZN,List.getElem?_range h3,Zam,h2,ZF,ZL hk];rfl
def ZsK (iw:List IOp):(ZrI iw).length=iw.length:=by
 unfold ZrI;cases ho:ordL iw with
 |none=>simp
 |some o=>exact Zmy ho
def ZwE {iw:List IOp}(h:ordK iw=true){i:Nat}:i∈ZrI iw↔i<iw.length:=by
 unfold ZrI;cases ho:ordL iw with
 |none=>simp
 |some o=>
  constructor
  ·intro hi;obtain⟨k,hk,rfl⟩:=List.getElem_of_mem hi;have:=(ZkW h ho (by rw[←Zmy ho];exact hk)).2.2
   rwa [ZF,ZL hk]at this
  intro hi;exact(ZkW h ho hi).1
def ZsJ {iw:List IOp}(h:ordK iw=true):(ZrI iw).Pairwise (λa b=>bef (ordL iw) a b=true):=by
 unfold ZrI;cases ho:ordL iw with
 |none=>
  simp only[bef,Zas];exact List.pairwise_lt_range
 |some o=>
  rw[List.pairwise_iff_getElem];intro i j hi hj h0;change i<o.length at hi;change j<o.length at hj;have hl:=Zmy ho;have h1:=(ZkW h ho (show i<iw.length by omega)).2.1;have h2:=(ZkW h ho (show j<iw.length by omega)).2.1;rw[ZF,ZL hi,Zal]at h1;rw[ZF,ZL hj,Zal]at h2;simp only[bef,Zas,h1,h2];exact h0
def ZrH {ios:List IOp}:∀(iw:List IOp) (l:List Nat) {s s':St},l.length=iw.length->(∀k,k<iw.length->∃p,l[k]?=some p/\ios[p]?=iw[k]?)->Zbn P iw s s'->Zj4 P ios l s s'
 |[],l,s,s',hl,_,h=>by
  have:l=[]:=List.eq_nil_of_length_eq_zero hl;subst this;exact h
 |o::iw,[],s,s',hl,_,h=>by simp at hl
 |o::iw,p::l,s,s',hl,hk,h=>by
  simp only[Zbn]at h;obtain⟨s1,h1,h2⟩:=h;obtain⟨q,e1,e2⟩:=hk 0 (by simp);simp only[ZJ,Zan]at e1 e2;subst e1;exact⟨o,s1,e2,h1,ZrH iw l (by simpa using hl) (λk h0=>by simpa using hk (k+1) (by simpa using h0)) h2⟩
variable {k:K0} {n:Nat} {ops:Array Oper}
def ZxJ {ord:Option (List Nat)}{ios:List IOp}(gz:ops.size=ios.length)(gg:∀(i:Nat) o io,ops[i]?=some o->ios[i]?=some io->Zt2 P n ops o io=true)(hd:Zxz ord ops ios=true){r:Option Nat}{Q:Exit->Act->World->Prop}:
  ∀(fuel:Nat) (listed:Array Bool) (l:List Nat) {g:G} {s s':St} {a:Act} {w:World},l.length=fuel->l.Pairwise (λa b=>bef ord a b=true)->listed.size=ops.size->(∀i,i∈l↔listed[i]?=some false)→
   (∀(i:Nat) io j,ios[i]?=some io->listed[i]?=some true->j∈io.pre->j<1000000->listed[j]?=some true)→
   Rel k n g s a w->Cl ios l s->Zj4 P ios l s s'->(∀g' t a' w',Eqv s' t->Rel k n g' t a' w'->Q .normal a' w')->wpAnyIn (FR r) 0 P .any ops Q fuel listed a w:=by
 simp only[Zxz,Ze]at hd;obtain⟨⟨⟨hh,hn⟩,g0⟩,gl⟩:=hd;simp only[ZAY,Zu,Z5]at hn;simp only[Zxj,Zu,Z5]at g0;intro fuel;induction fuel with
 |zero=>
  intro listed l g s s' a w hl _ gh h0 _ hr _ hp hQ;have k1:l=[]:=List.eq_nil_of_length_eq_zero hl;subst k1;simp only[Zj4]at hp;subst hp;refine⟨?_,hQ g _ a w (Eqv.refl _) hr⟩;unfold Region.ready;rw[List.filter_eq_nil_iff];intro i hi g4;simp only[Z5]at hi;simp only[Ze,Zh]at g4;have hf:listed.getD i true=false:=g4.1;rw[Za,Zb (by omega)]at hf;have:=(h0 i).2 (by rw[Zb (by omega)];simpa using hf);cases this
 |succ fuel ih=>
  intro listed l g s s' a w hl h8 gh h0 gu hr g5 hp hQ;have gy:∀i,i∈l->i<ops.size:=λi hi=>by
   have:=(Array.getElem?_eq_some_iff.1 ((h0 i).1 hi)).1;omega
  refine⟨λhk=>?_,λi hi=>?_⟩
  ·
   exfalso;cases l with
   |nil=>simp at hl
   |cons i l'=>
    have ga:=gy i (by simp);have:i∈Region.ready .any ops listed:=by
     unfold Region.ready;rw[List.mem_filter];refine⟨List.mem_range.2 ga,?_⟩;have hf:=(h0 i).1 (by simp);simp only[Ze,Zh];refine⟨by rw[Za,hf];rfl,?_⟩;rw[Zb ga];simp only[Zam,Zal];rw[Array.all_eq_true_iff_forall_mem];intro e he;have hp0:=hn i (by omega);rw[Zb ga,ZL (by omega)]at hp0;simp only[Ze]at hp0;have hu:=(Array.all_eq_true_iff_forall_mem.1 hp0.1) e he;simp only[Zj,Ze,Zh,Zas]at hu⊢;rcases hu with hu|hu
     ·exact .inl hu
     right;have gw:e.on∉i::l':=by
      intro hm;rcases List.mem_cons.1 hm with h|h
      ·exact ZrE hu.1 h
      exact Zy2 (List.rel_of_pairwise_cons h8 h) hu.1
     have gm:listed[e.on]?≠some false:=λh=>gw ((h0 e.on).2 h)
     have hz:e.on<listed.size:=by omega
     rw[Zb hz]at gm;rw[Za,Zb hz];simpa using gm
    rw[hk]at this;cases this
  ·
   unfold Region.ready at hi;rw[List.mem_filter]at hi;obtain⟨gq,g3⟩:=hi;simp only[Z5]at gq;simp only[Ze,Zh]at g3;obtain⟨g3,gc⟩:=g3;have k4:listed[i]?=some false:=by
    rw[Za,Zb (by omega)]at g3;rw[Zb (by omega)];simpa using g3
   have k3:i∈l:=(h0 i).2 k4;obtain⟨l1,l2,rfl⟩:=List.append_of_mem k3;have hv:ops[i]?=some ops[i]:=Zb gq;have ha:ios[i]?=some (ios[i]'(by omega)):=ZL (by omega);generalize k5:ops[i]=o at hv;generalize gp:ios[i]'(by omega)=io at ha;rw[hv]at gc;simp only[Zam,Zal]at gc;have ht:=Array.all_eq_true_iff_forall_mem.1 gc;have hp0:=hn i (by omega);rw[hv,ha]at hp0;simp only[Ze]at hp0;have h7:∀j∈io.pre,j<1000000->listed[j]?=some true:=by
    intro j hj k2;have h1:=(List.all_eq_true.1 hp0.2) j hj;simp only[Zj,Zas]at h1;replace h1:=h1.resolve_left (by omega);rw[Array.any_eq_true]at h1;obtain⟨q,hq,h1⟩:=h1;have he:o.after[q]∈o.after:=Array.getElem_mem hq;generalize o.after[q]=e at he h1;simp only[Ze,Zj,Zas]at h1;obtain⟨hb,h1⟩:=h1;have h2:=ht e he;simp only[hb,Zi,Bool.false_or]at h2;have h3:listed[e.on]?=some true:=by
     rw[Za]at h2;cases h4:listed[e.on]? with
     |none=>rw[h4]at h2;simp at h2
     |some b=>rw[h4]at h2;simp at h2;rw[h2]
    rcases h1 with h1|h1
    ·rw[←h1];exact h3
    split at h1
    ·rename_i ie gp;exact gu e.on ie j gp h3 (by simpa using h1) k2
    cases h1
   have h9:=List.pairwise_append.1 h8;have hg:∀j∈l1,∀oj,ios[j]?=some oj->Zwg oj io=true:=λj hj oj gk=>by
    have g7:bef ord j i=true:=h9.2.2 j hj i (by simp);have h4:=g0 i (by omega) j (List.getElem?_eq_some_iff.1 gk).1;rw[gk,ha,g7]at h4;simp only[Zi,Bool.false_or,Zj,Ze,Zas]at h4;rcases h4 with h4|h4
    ·have h5:=h7 j (by simpa using h4.1) h4.2;have h6:=(h0 j).1 (by simp[hj]);rw[h5]at h6;cases h6
    exact h4
   obtain⟨s1,s'',h1,h2,h3⟩:=Zj4.first hh gl ha l1 l2 hg h8 hr.tops g5 hp;have gf:Cl ios (l1++l2) s1:=λm hm om d g8 hd=>by
    obtain⟨gr,gv⟩:=ZoH hh ha;obtain⟨n1,n2⟩:=ZtF gl g8 ha hd;have gs:ZnE d s.fr:=g5 m (by simp only[List.mem_append,List.mem_cons]at hm⊢;rcases hm with h|h;exact .inl h;exact .inr (.inr h)) om d g8 hd;rcases List.mem_append.1 hm with gn|gx
    ·have g6:bef ord m i=true:=h9.2.2 m gn i (by simp);have g9:=hg m gn om g8;simp only[Zwg,Ze]at g9;have gd:dstI om.i=some d:=ZyE hd;rw[gd]at g9;exact h1.clear gr gv hr.tops gs (Zh6 g9.1.1.2) (n2 (ZrE g6).symm)
    have g6:bef ord i m=true:=List.rel_of_pairwise_cons h9.2.1 gx;exact h1.clear gr gv hr.tops gs (n1 g6) (n2 (ZrE g6))
   refine Zse hr hv (gg i o io hv ha) h1 r (λg' a' w' h4=>?_);refine ih (listed.setIfInBounds i true) (l1++l2) ?_ ?_ (by simpa using gh) (λj=>?_) (λj ij q hj go hq gj=>?_) h4 gf h2 (λg2 t a2 w2 e=>hQ g2 t a2 w2 (h3.symm.trans e))
   ·simp only[ZV,ZW]at hl⊢;omega
   ·refine List.pairwise_append.2 ⟨h9.1,(List.pairwise_cons.1 h9.2.1).2,λx hx y hy=>h9.2.2 x hx y (by simp[hy])⟩
   ·by_cases gb:i=j
    ·subst gb;rw[Array.getElem?_setIfInBounds_self_of_lt (by omega)];constructor
     ·intro hm;exfalso;rcases List.mem_append.1 hm with h|h
      ·exact ZrE (h9.2.2 i h i (by simp)) rfl
      exact ZrE (List.rel_of_pairwise_cons h9.2.1 h) rfl
     intro h;simp at h
    rw[Zc gb,←h0];simp only[List.mem_append,List.mem_cons];constructor
    ·rintro(h|h)
     ·exact .inl h
     exact .inr (.inr h)
    rintro(h|h|h)
    ·exact .inl h
    ·exact absurd h.symm gb
    exact .inr h
   by_cases gi:i=q
   ·subst gi;rw[Array.getElem?_setIfInBounds_self_of_lt (by omega)]
   rw[Zc gi];by_cases g7:i=j
   ·subst g7;rw[ha]at hj;cases hj;exact h7 q hq gj
   rw[Zc g7]at go;exact gu j ij q hj go hq gj
def Zrw {r:Option Nat}{g:G}{s s':St}{a:Act}{w:World}(hm:P.follows .mixedOrders=true)(h:Rel k n g s a w){id:Nat}{ios:List IOp}(hc:ZdE P n ops ops.toList (srtL ios)=true)(hd:Zvq ops ios=true)(h5:∀o∈ios,∀d,newD o.i=some d->ZnE d s.fr)(hp:Zbn P ios s s'){Q:Exit->Act->World->Prop}
  (hQ:∀g' t a' w',Eqv s' t->Rel k n g' t a' w'->Q .normal a' w'):(Code.region id ops true).wpIn (FR r) 0 P Q a w:=by
 simp only[Zvq,Ze]at hd;obtain⟨hK,hd⟩:=hd;obtain⟨h0,h3⟩:=Zrz hc;simp only[Zd]at h0;refine wpIn_region_any hm ?_;have hr:Rel k n g s a w.drew:=h.grow (Grow.drew w);have h6:=ZrH (ios:=srtL ios) ios (ZrI ios) (ZsK ios) (λk hk=>ZzO hK hk) hp;have h4:=Zyg ios;refine ZxJ h0 (λi o io h1 h2=>h3 i o io (by simpa using h1) h2) hd ops.size _ _ ?_ (ZsJ hK) (by simp) (λi=>?_) (λi io j _ hf=>?_) hr (λm _ om d h7 hd=>h5 om (Zyf hK (List.mem_of_getElem? h7)) d hd) h6 hQ
 ·rw[ZsK];omega
 ·rw[ZwE hK];simp only[Array.getElem?_replicate];constructor
  ·intro hi;rw[Zav (by omega)]
  intro h;split at h
  ·omega
  cases h
 simp only[Array.getElem?_replicate]at hf;split at hf
 ·simp at hf
 cases hf
end
end Go.Eng

namespace Go.Eng
open Go
def pvl (t:TypeId):List PanicEntry:=[{v:=.iface t (.agg #[]),recovered:=false}]
def ZxG (P:Program)(n:Nat)(t:TypeId):List Oper->Bool
 |[x,y,z]=>x.guard.isNone&&y.guard.isNone&&z.guard.isNone&&Zj5 P t []&&ZjN P t&&(match P.underlying t with
   |some (.struct _)=>true
   |_=>false)&&(match x.op,x.dst,y.op,y.dst,z.op with
   |.build t1 parts,some d1,.makeInterface t2 (.tmp x1),some d2,.panic (.tmp x2)=>decide (t1=t)&&decide (parts.toList=[])&&decide (t2=t)&&decide (x1=d1)&&decide (x2=d2)&&decide (d1<n)&&decide (d2<n)
   |_,_,_,_,_=>false)
 |_=>false
def chkC (P:Program)(n:Nat):Code->IC->Bool
 |.skip,.skip=>true
 |.region _ ops draw,.reg ios _=>!draw&&ZdE P n ops ops.toList ios
 |.region _ ops draw,.regD ios _=>draw&&ZdE P n ops ops.toList (srtL ios)&&P.follows .mixedOrders&&Zvq ops ios
 |.region _ ops draw,.regF fs ios _=>draw&&ZdE P n ops ops.toList (srtL ios)&&P.follows .mixedOrders&&Zvq ops ios&&fs.all λt=>decide (t<n)||decide (1000000<=t)
 |.seq a b,.seq a' b'=>chkC P n a a'&&chkC P n b b'
 |.cond x a b,.cond x' a' b'=>ZeW x x'&&chkC P n a a'&&chkC P n b b'
 |.block id a,.block id' a'=>decide (id=id')&&chkC P n a a'
 |.loop a,.loop a'=>chkC P n a a'
 |.exit id,.exit id'=>decide (id=id')
 |.scope a,.scope a'=>chkC P n a a'
 |.label l,.label l'=>decide (l=l')
 |.goto l,.goto l'=>decide (l=l')
 |.ret,.ret=>true
 |c,.kp _ a=>chkC P n c a
 |c,.box a=>chkC P n c a
 |.region _ ops draw,.die t=>!draw&&ZxG P n t ops.toList
 |.region id ops draw,.pu _ a=>chkC P n (.region id ops draw) a
 |.block id b,.pu _ a=>chkC P n (.block id b) a
 |.rangeFunc g ps a b,.rangeF x ps' a' b'=>ZeW g x&&decide (ps.toList=ps')&&ps'.all (λt=>decide (t<n))&&chkC P n a a'&&chkC P n b b'
 |_,_=>false
def Zwl (t:Nat):List (Nat×AV)->List (Nat×AV)
 |[]=>[]
 |(u,v)::r=>if u=t then Zwl t r else(u,v)::Zwl t r
def Zlb (x:IX)(s:St):St:=match x with
 |.t n=>⟨Zwl n s.fr,s.bx,s.H⟩
 |.k _=>s
def Zcj (ks:List Nat)(s:St):St:=⟨Znr ks s.fr,ZtP ks s.bx,s.H⟩
def ZtS (t:Nat)(fr:List (Nat×AV))(x:Nat):get (Zwl t fr) x=if t=x then .any else get fr x:=by
 induction fr with
 |nil=>simp[Zwl,get]
 |cons p r ih=>
  obtain⟨u,v⟩:=p;simp only[Zwl];by_cases h:u=t
  ·subst h;simp only[Zaw,ih,get];by_cases e:u=x<;>simp[e]
  simp only[h,Zat,get,ih];by_cases e:u=x
  ·subst e;simp[Ne.symm h]
  simp[e]
def Ev (P:Program)(n:Nat)(c:Code)(s:St)(Q:Exit->St->Prop):Prop:=
 ∀k g a w,Rel k n g s a w->c.wpIn (FR k.rd) 0 P (λe a' w'=>∃s' g',Rel k n g' s' a' w'/\Q e s') a w
def EvI (P:Program)(n:Nat)(ic:IC)(s:St)(Q:Exit->St->Prop):Prop:=∀c,chkC P n c ic=true->Ev P n c s Q
def EvX (P:Program)(n:Nat)(ic:IC)(s:St)(Q:Exit->St->Prop):Prop:=∃e s',EvI P n ic s (λe1 s1=>e1=e/\s1=s')/\Q e s'
@[reducible] def Zk9 (next:St->Prop)(Q:Exit->St->Prop):Exit->St->Prop
 |.normal,s=>next s
 |e,s=>Q e s
@[reducible] def ZeY (id:Nat)(Q:Exit->St->Prop):Exit->St->Prop
 |.exit id',s=>if id'=id then Q .normal s else Q (.exit id') s
 |e,s=>Q e s
def Zvs (d:Nat):List (Nat×AV)->Bool
 |[]=>true
 |(u,v)::r=>(match v with
  |.loc t _=>decide (u=d)||decide (t≠d)
  |_=>true)&&Zvs d r
def Zt1 {d:Nat}{fr:List (Nat×AV)}(h:Zvs d fr=true):ZnE d fr:=by
 intro u o hu e;induction fr with
 |nil=>simp[get]at e
 |cons p r ih=>
  obtain⟨u',v⟩:=p;simp only[Zvs,Ze]at h;simp only[get]at e;split at e
  ·rename_i hq;subst e;have:=h.1;simp only[Zj,Zas]at this;rcases this with h1|h1
   ·omega
   exact h1 rfl
  exact ih h.2 e
def Zmb (fr:List (Nat×AV)):List IOp->Bool
 |[]=>true
 |o::os=>(match newD o.i with
  |some d=>Zvs d fr
  |none=>true)&&Zmb fr os
def ZrU (ops:List IOp)(fr:List (Nat×AV)):Prop:=Zmb fr ops=true
def Zo4 {ops:List IOp}{fr:List (Nat×AV)}(h:ZrU ops fr):∀o∈ops,∀d,newD o.i=some d->ZnE d fr:=by
 unfold ZrU at h;induction ops with
 |nil=>simp
 |cons o os ih=>
  simp only[Zmb,Ze]at h;intro o' h0 d hd;rcases List.mem_cons.1 h0 with rfl|h0
  ·have:=h.1;rw[hd]at this;exact Zt1 this
  exact ih h.2 o' h0 d hd
def Zro (s:St)(t:Nat):AV:=if t<1000000 then get s.fr t else .agg ((bget s.bx (t-1000000)).getD [])
def frzS:List Nat->St->Option St
 |[],s=>some s
 |t::ts,s=>(frzV s.H (Zro s t)).bind λ(x,H)=>frzS ts ⟨s.fr,s.bx,H⟩
def Zsa:List Nat->St->Option St
 |[],s=>some s
 |t::ts,s=>if t<1000000 then(frzV s.H (get s.fr t)).bind λ(x,H)=>Zsa ts ⟨put s.fr t x,s.bx,H⟩
  else match bget s.bx (t-1000000)with
   |some cs=>(frzC s.H cs).bind λ(xs,H)=>if ZaX xs=true then Zsa ts ⟨s.fr,bput s.bx (t-1000000) xs,H⟩else none
   |none=>none
@[reducible] def puQ (fs:List Nat)(Q:Exit->St->Prop):Exit->St->Prop
 |.normal,s=>∃s',Zsa fs s=some s'/\Q .normal s'
 |e,s=>Q e s
def vc (P:Program)(n:Nat):IC->(Exit->St->Prop)->St->Prop
 |.skip,Q,s=>Q .normal s
 |.reg ops keep,Q,s=>∃s',Zbn P ops s s'/\Q .normal (Zcj keep s')
 |.regD ops keep,Q,s=>ZrU ops s.fr/\∃s',Zbn P ops s s'/\Q .normal (Zcj keep s')
 |.regF fs ops keep,Q,s=>∃s0,frzS fs s=some s0/\ZrU ops s0.fr/\∃s',Zbn P ops s0 s'/\Q .normal (Zcj keep s')
 |.seq a b,Q,s=>vc P n a (Zk9 (vc P n b Q) Q) s
 |.cond x a b,Q,s=>match ev s.fr x with
  |.p (.bool t)=>if t=true then vc P n a Q (Zlb x s)else vc P n b Q (Zlb x s)
  |_=>False
 |.block id a,Q,s=>vc P n a (ZeY id Q) s
 |.loop a,Q,s=>EvX P n (.loop a) s Q
 |.exit id,Q,s=>Q (.exit id) s
 |.scope a,Q,s=>EvX P n (.scope a) s Q
 |.label _,Q,s=>Q .normal s
 |.goto l,Q,s=>Q (.goto l) s
 |.ret,Q,s=>Q .ret s
 |.kp ks a,Q,s=>vc P n a Q (Zcj ks s)
 |.pu fs a,Q,s=>vc P n a (puQ fs Q) s
 |.rangeF x ps a b,Q,s=>EvX P n (.rangeF x ps a b) s Q
 |.box a,Q,s=>EvX P n a s Q
 |.die t,Q,s=>Q (.panic (pvl t)) (Zcj [] s)
section
variable {P:Program} {n:Nat}
def Rel.drop {k:K0}{g:G}{s:St}{a:Act}{w:World}(h:Rel k n g s a w)(x:IX):Rel k n g (Zlb x s) a w:=by
 cases x with
 |k v=>exact h
 |t m=>
  exact {h with
   slots:=λt=>by
    simp only[Zlb,ZtS];split
    ·simp[VR]
    exact h.slots t
   tops:=λt=>by
    simp only[Zlb,ZtS];split
    ·rfl
    exact h.tops t}
def Zxt {k:K0}{g:G}{s:St}{a:Act}{w:World}(h:Rel k n g s a w)(t:Nat):top (Zro s t)=true/\∃v,VR (cx k g s.H w) (Zro s t) v:=by
 unfold Zro;split
 ·exact⟨h.tops t,_,h.slots t⟩
 cases hb:bget s.bx (t-1000000)with
 |none=>exact⟨rfl,.agg #[],by simp only[Option.getD_none];rw[VR];exact⟨[],rfl,by simp[VRL]⟩⟩
 |some cs=>
  obtain⟨b,_,h0,vs,_,hv⟩:=h.boxes _ cs hb;exact⟨Za1 (by simpa[Za7]using ZaY h0),.agg vs,by rw[VR];exact⟨vs.toList,by simp,hv⟩⟩
def Zrp {k:K0}{g:G}{a:Act}{w:World}:∀(ts:List Nat) {s s':St},Rel k n g s a w->frzS ts s=some s'->Rel k n g s' a w
 |[],s,s',h,e=>by
  simp only[frzS,Zan]at e;exact e▸h
 |t::ts,s,s',h,e=>by
  simp only[frzS]at e;cases h1:frzV s.H (Zro s t)with
  |none=>simp[h1]at e
  |some p=>
   obtain⟨x,H1⟩:=p;simp only[h1,Zak]at e;obtain⟨ht,v,hv⟩:=Zxt h t;obtain⟨r1,l1,v1,n1⟩:=Znt h h1 ht hv;exact Zrp ts r1 e
def Rel.reSlot {k:K0}{g:G}{s:St}{a:Act}{w:World}(h:Rel k n g s a w){t:Nat}{x:AV}(hv:VR (cx k g s.H w) x (a.tmps.getD t undef))(ht:top x=true):Rel k n g ⟨Eng.put s.fr t x,s.bx,s.H⟩ a w:=
 {h with
  slots:=λu=>by
   simp only[ZbF];split
   ·rename_i e;subst e;exact hv
   exact h.slots u
  tops:=λu=>by
   simp only[ZbF];split
   ·exact ht
   exact h.tops u}
def Rel.reBox {k:K0}{g:G}{s:St}{a:Act}{w:World}(h:Rel k n g s a w){t:Nat}{cs xs:List AV}(hb:bget s.bx t=some cs)(h0:ZaX xs=true)(hv:∃b vs,g.β t=some b/\(cx k g s.H w).blk b vs/\VRL (cx k g s.H w) xs vs.toList):
  Rel k n g ⟨s.fr,bput s.bx t xs,s.H⟩ a w:=
 {h with
  boxes:=λu ys e=>by
   simp only[Zc5]at e;by_cases he:t=u
   ·subst he;simp only[Zaw,Zan]at e;subst e;obtain⟨b,vs,h1,h2,h3⟩:=hv;exact⟨b,h1,h0,vs,h2,h3⟩
   rw[Zau he]at e;exact h.boxes u ys e
  boxed:=λu b e=>by
   obtain⟨⟨ys,hy⟩,h2⟩:=h.boxed u b e;refine⟨?_,h2⟩;simp only[Zc5];by_cases he:t=u
   ·exact⟨xs,by rw[Zav he]⟩
   exact⟨ys,by rw[Zau he];exact hy⟩}
def ZlW {k:K0}{g:G}{a:Act}{w:World}:∀(ts:List Nat) {s s':St},Rel k n g s a w->Zsa ts s=some s'->Rel k n g s' a w
 |[],s,s',h,e=>by
  simp only[Zsa,Zan]at e;exact e▸h
 |t::ts,s,s',h,e=>by
  simp only[Zsa]at e;split at e
  ·cases h1:frzV s.H (get s.fr t)with
   |none=>simp[h1]at e
   |some p=>
    obtain⟨x,H1⟩:=p;simp only[h1,Zak]at e;obtain⟨r1,l1,v1,n1⟩:=Znt h h1 (h.tops t) (h.slots t);exact ZlW ts (r1.reSlot v1 (Za1 n1)) e
  split at e
  ·rename_i cs hb;cases h1:frzC s.H cs with
   |none=>simp[h1]at e
   |some p=>
    obtain⟨xs,H1⟩:=p;simp only[h1,Zak]at e;split at e
    ·rename_i h3;obtain⟨b,h6,h4,vs0,h0,h2⟩:=h.boxes _ cs hb;have h5:=ZaY h4;obtain⟨r1,_,v1,_⟩:=Znv cs h h1 h5 h2;exact ZlW ts (r1.reBox (cs:=cs) hb h3 ⟨b,vs0,h6,h0,v1⟩) e
    cases e
  cases e
def EvI.mono {ic:IC}{s:St}{Q Q':Exit->St->Prop}(h:EvI P n ic s Q)(hq:∀e s,Q e s->Q' e s):EvI P n ic s Q':=
 λc hc k g a w hr=>wpIn_mono (h c hc k g a w hr) λe a' w' ⟨s',g',h1,h2⟩=>⟨s',g',h1,hq e s' h2⟩
def EvX.mono {ic:IC}{s:St}{Q Q':Exit->St->Prop}(h:EvX P n ic s Q)(hq:∀e s,Q e s->Q' e s):EvX P n ic s Q':=
 let ⟨e,s',h1,h2⟩:=h;⟨e,s',h1,hq e s' h2⟩
def EvX.toI {ic:IC}{s:St}{Q:Exit->St->Prop}(h:EvX P n ic s Q):EvI P n ic s Q:=by
 obtain⟨e,s',h1,h2⟩:=h;exact h1.mono λe1 s1 ⟨a,b⟩=>by subst a b;exact h2
def Zvp {a:Act}{d:Nat}(hd:d<a.tmps.size)(v:Value):(a.put (some d) v).eval (.tmp d)=v:=by
 simp[Act.put,Act.eval,Za,hd]
def ZxB {k:K0}{g:G}{s:St}{a:Act}{w:World}(h:Rel k n g s a w){t:TypeId}{id:Nat}{ops:Array Oper}(hc:ZxG P n t ops.toList=true){Q:Exit->St->Prop}(hQ:Q (.panic (pvl t)) (Zcj [] s)):
  (Code.region id ops false).wpIn (FR k.rd) 0 P (λe a' w'=>∃s' g',Rel k n g' s' a' w'/\Q e s') a w:=by
 refine wpIn_region ?_;unfold ZxG at hc;split at hc
 ·rename_i x y z hl;simp only[Ze,Option.isNone_iff_eq_none]at hc;obtain⟨⟨⟨⟨⟨⟨gx,gy⟩,gz⟩,hz⟩,h9⟩,hu⟩,hc⟩:=hc;split at hc
  ·rename_i t1 parts d1 t2 x1 d2 x2 ox dx oy dy oz;simp only[Ze,Zas]at hc;obtain⟨⟨⟨⟨⟨⟨rfl,hp⟩,rfl⟩,rfl⟩,rfl⟩,h1⟩,h2⟩:=hc;have h4:ops=#[x,y,z]:=by
    apply Array.ext';rw[hl]
   subst h4;have h0:parts=#[]:=by apply Array.ext';rw[hp]
   subst h0;obtain⟨u,h7,h5,_⟩:=Zs9 (P:=P) (c:=cx k g s.H w) (w:=w) (ps:=#[]) (parts:=[]) (xs:=[]) (out:=[]) (ρ:=a.eval) hz (by rfl) h9 (by rw[VRL];rfl) rfl;have h6:u=.agg #[]:=by
    rw[VR]at h5;obtain⟨us,e,hv⟩:=h5;rw[VRL]at hv;subst hv;exact e
   subst h6;have r1:Rel k n g ⟨put s.fr x1 .any,s.bx,s.H⟩ (a.put (some x1) (.agg #[])) w:=h.put h1 (by simp[VR]) rfl;have r2:Rel k n g ⟨put (put s.fr x1 .any) x2 .any,s.bx,s.H⟩ ((a.put (some x1) (.agg #[])).put (some x2) (.iface t2 (.agg #[]))) w:=r1.put h2 (by simp[VR]) rfl;show wpOpsIn (FR k.rd) 0 P #[x,y,z] _ [0,1,2] a w;rw[wpOpsIn_cons];unfold wpOpIn;simp only[List.getElem?_toArray,ZJ];rw[Zav (by simp[Region.wanted,gx])];refine Oper.wpIn_of_wp _ (by rw[ox];intro c e;cases e) ?_;unfold Oper.wp;have e1:(execOp a.eval x).run P w=.ok (.value (.agg #[])) w:=by
    simp only[execOp,ox,Sem.run_bind];rw[show(Instr.build t2 ((#[]:Array (Nat×Operand)).map λ(i,x)=>(i,a.eval x))).run P w=.ok (.agg #[]) w from h7];rfl
   rw[e1,Oper.upon_value,dx,wpOpsIn_cons];unfold wpOpIn;simp only[List.getElem?_toArray,ZI,ZJ];rw[Zav (by simp[Region.wanted,gy])];refine Oper.wpIn_of_wp _ (by rw[oy];intro c e;cases e) ?_;unfold Oper.wp;have e2:(execOp (a.put (some x1) (.agg #[])).eval y).run P w=.ok (.value (.iface t2 (.agg #[]))) w:=by
    simp only[execOp,oy,Sem.run_bind];rw[Zvp (by rw[h.tsz];exact h1)];split at hu
    ·rename_i fs h8;unfold Instr.makeInterface;simp only[Sem.run_bind,run_underlying h8,Result.andThen_ok,Sem.run_pure]
    cases hu
   rw[e2,Oper.upon_value,dy,wpOpsIn_cons];unfold wpOpIn;simp only[List.getElem?_toArray,ZI,ZJ];rw[Zav (by simp[Region.wanted,gz])];refine Oper.wpIn_of_wp _ (by rw[oz];intro c e;cases e) ?_;unfold Oper.wp;have e3:(execOp ((a.put (some x1) (.agg #[])).put (some x2) (.iface t2 (.agg #[]))).eval z).run P w=.halt (.panic (.iface t2 (.agg #[]))) w:=by
    simp only[execOp,oz,Sem.run_bind];rw[Zvp (by rw[r1.tsz];exact h2)];rfl
   rw[e3,Oper.upon_panic];obtain⟨g2,h3⟩:=r2.keepOnly [];refine⟨_,g2,h3,?_⟩;have ek:∀fr:List (Nat×AV),Znr [] fr=[]:=λfr=>by
    induction fr with
    |nil=>rfl
    |cons p r ih=>obtain⟨u,v⟩:=p;simp[Znr,ih]
   have:Zcj [] ⟨put (put s.fr x1 .any) x2 .any,s.bx,s.H⟩=Zcj [] s:=by
    unfold Zcj;rw[ek,ek]
   have ha:Q (.panic (pvl t2)) (Zcj [] ⟨put (put s.fr x1 .any) x2 .any,s.bx,s.H⟩):=by rw[this];exact hQ
   exact ha
  cases hc
 cases hc
def Zbp:∀(ic:IC) (Q:Exit->St->Prop) (s:St),vc P n ic Q s->EvI P n ic s Q
 |.skip,Q,s,h=>by
  intro c hc k g a w hr;cases c<;>simp only[chkC,Zg]at hc;exact wpIn_skip ⟨s,g,hr,h⟩
 |.reg ios keep,Q,s,h=>by
  intro c hc k g a w hr;cases c<;>simp only[chkC,Zg,Ze,Zh]at hc;rename_i id ops draw;obtain⟨rfl,hc⟩:=hc;simp only[vc]at h;obtain⟨s',hp,hq⟩:=h;exact Ztd hr hc hp _ λg' a' w' h1=>let ⟨g2,h2⟩:=h1.keepOnly keep;⟨_,g2,h2,hq⟩
 |.regD ios keep,Q,s,h=>by
  intro c hc k g a w hr;cases c<;>simp only[chkC,Zg,Ze]at hc;rename_i id ops draw;obtain⟨⟨⟨rfl,hc⟩,hm⟩,hd⟩:=hc;simp only[vc]at h;obtain⟨h5,s',hp,hq⟩:=h;exact Zrw hm hr hc hd (Zo4 h5) hp λg' t a' w' e h1=>let ⟨g2,h2⟩:=(h1.eqv e.symm).keepOnly keep;⟨_,g2,h2,hq⟩
 |.regF fs ios keep,Q,s,h=>by
  intro c hc k g a w hr;cases c<;>simp only[chkC,Zg,Ze,Zu,Zas]at hc;rename_i id ops draw;obtain⟨⟨⟨⟨rfl,hc⟩,hm⟩,hd⟩,hf⟩:=hc;simp only[vc]at h;obtain⟨s0,h0,h5,s',hp,hq⟩:=h;exact Zrw hm (Zrp fs hr h0) hc hd (Zo4 h5) hp λg' t a' w' e h1=>let ⟨g2,h2⟩:=(h1.eqv e.symm).keepOnly keep;⟨_,g2,h2,hq⟩
 |.seq x y,Q,s,h=>by
  intro c hc k g a w hr;cases c<;>simp only[chkC,Zg,Ze]at hc;rename_i c1 c2;simp only[vc]at h;refine wpIn_seq (wpIn_mono (Zbp x _ s h c1 hc.1 k g a w hr) ?_);rintro e a' w' ⟨s',g',h1,h2⟩;cases e with
  |normal=>exact Zbp y Q s' h2 c2 hc.2 k g' a' w' h1
  |_=>exact⟨s',g',h1,h2⟩
 |.cond x y z,Q,s,h=>by
  intro c hc k g a w hr;cases c<;>simp only[chkC,Zg,Ze]at hc;rename_i X c1 c2;simp only[vc]at h;split at h
  ·rename_i t hx;have hv:=Zcs hr hc.1.1;rw[hx]at hv;have ht:=ZnA hv;cases t with
   |true=>
    simp only[Zaw]at h;exact wpIn_cond_true ht (Zbp y Q _ h c1 hc.1.2 k g a w (hr.drop x))
   |false=>
    simp only[Zg,Zat]at h;exact wpIn_cond_false ht (Zbp z Q _ h c2 hc.2 k g a w (hr.drop x))
  exact h.elim
 |.block id x,Q,s,h=>by
  intro c hc k g a w hr;cases c<;>simp only[chkC,Zg,Ze,Zas]at hc;rename_i id' c1;obtain⟨rfl,hc⟩:=hc;simp only[vc]at h;refine wpIn_block (wpIn_mono (Zbp x _ s h c1 hc k g a w hr) ?_);rintro e a' w' ⟨s',g',h1,h2⟩;cases e with
  |exit j=>
   simp only[ZeY]at h2;simp only[Exit.inBlock];split
   ·rename_i e;rw[Zav e]at h2;exact⟨s',g',h1,h2⟩
   rename_i e;rw[Zau e]at h2;exact⟨s',g',h1,h2⟩
  |_=>exact⟨s',g',h1,h2⟩
 |.loop x,Q,s,h=>EvX.toI h
 |.rangeF ..,Q,s,h=>EvX.toI h
 |.box a,Q,s,h=>λc hc=>EvX.toI h c (by cases c<;>simpa only[chkC]using hc)
 |.die t,Q,s,h=>by
  intro c hc k g a w hr;cases c<;>simp only[chkC,Zg,Ze,Zh]at hc;rename_i id ops draw;obtain⟨rfl,hc⟩:=hc;exact ZxB hr hc h
 |.exit id,Q,s,h=>by
  intro c hc k g a w hr;cases c<;>simp only[chkC,Zg,Zas]at hc;subst hc;exact wpIn_exit ⟨s,g,hr,h⟩
 |.scope x,Q,s,h=>EvX.toI h
 |.label l,Q,s,h=>by
  intro c hc k g a w hr;cases c<;>simp only[chkC,Zg]at hc;exact wpIn_label ⟨s,g,hr,h⟩
 |.goto l,Q,s,h=>by
  intro c hc k g a w hr;cases c<;>simp only[chkC,Zg,Zas]at hc;subst hc;exact wpIn_goto ⟨s,g,hr,h⟩
 |.ret,Q,s,h=>by
  intro c hc k g a w hr;cases c<;>simp only[chkC,Zg]at hc;exact wpIn_ret ⟨s,g,hr,h⟩
 |.kp ks x,Q,s,h=>by
  intro c hc k g a w hr;have h6:chkC P n c x=true:=by cases c<;>simpa only[chkC]using hc
  obtain⟨g2,h2⟩:=hr.keepOnly ks;exact Zbp x Q _ h c h6 k g2 a w h2
 |.pu fs x,Q,s,h=>by
  intro c hc k g a w hr;have h6:chkC P n c x=true:=by cases c<;>simp only[chkC,Zg]at hc<;>exact hc
  refine wpIn_mono (Zbp x _ _ h c h6 k g a w hr) ?_;rintro e a' w' ⟨s',g',h1,h2⟩;cases e with
  |normal=>obtain⟨s2,h3,h4⟩:=h2;exact⟨s2,g',ZlW fs h1 h3,h4⟩
  |_=>exact⟨s',g',h1,h2⟩
def Zl6 {F:Fence}{m:Nat}{c:Code}{Q:Exit->Act->World->Prop}{α:Type}(R:α->Act->World->Prop)(μ:α->Nat)
  (round:∀x a w,R x a w->c.wpIn F m P (Exit.then (λa' w'=>∃y,R y a' w'/\μ y<μ x) Q) a w) (x:α) (a:Act) (w:World) (h:R x a w):(Code.loop c).wpIn F m P Q a w:=by
 intro b k cs h1 hb hr;have key:∀i x a w,μ x=i->R x a w->∃e a' w',Q e a' w'/\ArrivesIn (Machine.fenced P F) P (lone (b.atR a (.code c::.inLoop c::k)) cs w) b k cs e a' w':=by
  intro i;induction i using Nat.strongRecOn with
  |_ i ih=>
   intro x a w hm hI;obtain⟨e,a₁,w₁,hq,h0⟩:=round x a w hI b (.inLoop c::k) cs h1 hb hr;cases e with
   |normal=>
    obtain⟨y,hI₁,h2⟩:=hq;obtain⟨e₂,a₂,w₂,hq₂,harr₂⟩:=ih (μ y) (hm▸h2) y a₁ w₁ rfl hI₁;exact⟨e₂,a₂,w₂,hq₂,.of_steps (StepsIn.trans h0 (.one (fenced_calm hb hr rfl) stepR_inLoop)) harr₂⟩
   |exit id=>exact⟨_,a₁,w₁,hq,.pass (x:=.inLoop c) rfl (λ_ _=>.inl (by simp)) h0⟩
   |goto l=>exact⟨_,a₁,w₁,hq,.pass (x:=.inLoop c) rfl (λ_ _=>.inl (by simp)) h0⟩
   |ret=>exact⟨_,a₁,w₁,hq,.pass (x:=.inLoop c) rfl (λ_ _=>.inl (by simp)) h0⟩
   |panic ch=>exact⟨_,a₁,w₁,hq,.pass (x:=.inLoop c) rfl (λ_ _=>.inl (by simp)) h0⟩
   |outgrown=>exact⟨_,a₁,w₁,hq,.pass (x:=.inLoop c) rfl (λ_ _=>.inl (by simp)) h0⟩
 obtain⟨e,a',w',hq,h0⟩:=key _ x a w rfl h;exact⟨e,a',w',hq,.of_steps (.one (fenced_calm hb hr rfl) stepR_loop) h0⟩
def Zff:IC->Nat->Option IC
 |.seq a b,l=>match Zff a l with
  |some rest=>some (.seq rest b)
  |none=>Zff b l
 |.label l',l=>if l'==l then some .skip else none
 |.kp _ a,l=>Zff a l
 |.box a,l=>Zff a l
 |.pu _ _,_=>none
 |_,_=>none
def findI_sound':∀(ic:IC) (c:Code) (l:Nat),chkC P n c ic=true->(∀ir,Zff ic l=some ir->∃rest,findLabel c l=some rest/\chkC P n rest ir=true)/\(Zff ic l=none->findLabel c l=none)
 |.pu ..,c,l,h=>by cases c<;>simp_all[chkC,Zff,findLabel]
 |.kp ks a,c,l,h=>by
  have h':chkC P n c a=true:=by cases c<;>simpa only[chkC]using h
  simpa only[Zff]using findI_sound' a c l h'
 |.seq i1 i2,c,l,h=>by
  cases c<;>simp only[chkC,Zg,Ze]at h;rename_i c1 c2;obtain⟨h1,h2⟩:=findI_sound' i1 c1 l h.1;obtain⟨h3,h4⟩:=findI_sound' i2 c2 l h.2;simp only[Zff,findLabel];cases hf:Zff i1 l with
  |some r=>
   obtain⟨rest,e1,e2⟩:=h1 r hf;refine⟨λir e=>?_,λe=>by cases e⟩;simp only[Zan]at e;subst e;exact⟨.seq rest c2,by simp[e1],by simp[chkC,e2,h.2]⟩
  |none=>
   simp only[h2 hf];exact⟨h3,h4⟩
 |.label l'',c,l,h=>by
  cases c<;>simp only[chkC,Zg,Zas]at h;subst h;simp only[Zff,findLabel];split
  ·exact⟨λir e=>by simp only[Zan]at e;subst e;exact⟨.skip,rfl,rfl⟩,λe=>by cases e⟩
  exact⟨λir e=>(by cases e),λ_=>rfl⟩
 |.skip,c,l,h=>by cases c<;>simp_all[chkC,Zff,findLabel]
 |.reg ..,c,l,h=>by cases c<;>simp_all[chkC,Zff,findLabel]
 |.regD ..,c,l,h=>by cases c<;>simp_all[chkC,Zff,findLabel]
 |.regF ..,c,l,h=>by cases c<;>simp_all[chkC,Zff,findLabel]
 |.die _,c,l,h=>by cases c<;>simp_all[chkC,Zff,findLabel]
 |.cond ..,c,l,h=>by cases c<;>simp_all[chkC,Zff,findLabel]
 |.block ..,c,l,h=>by cases c<;>simp_all[chkC,Zff,findLabel]
 |.loop ..,c,l,h=>by cases c<;>simp_all[chkC,Zff,findLabel]
 |.exit ..,c,l,h=>by cases c<;>simp_all[chkC,Zff,findLabel]
 |.scope ..,c,l,h=>by cases c<;>simp_all[chkC,Zff,findLabel]
 |.goto ..,c,l,h=>by cases c<;>simp_all[chkC,Zff,findLabel]
 |.ret,c,l,h=>by cases c<;>simp_all[chkC,Zff,findLabel]
 |.rangeF ..,c,l,h=>by cases c<;>simp_all[chkC,Zff,findLabel]
 |.box a,c,l,h=>by
  have h':chkC P n c a=true:=by cases c<;>simpa only[chkC]using h
  simpa only[Zff]using findI_sound' a c l h'
def ZuM {c:Code}{ic:IC}{l:Nat}(h:chkC P n c ic=true):(∀ir,Zff ic l=some ir->∃rest,findLabel c l=some rest/\chkC P n rest ir=true)/\(Zff ic l=none->findLabel c l=none):=findI_sound' ic c l h
@[reducible] def Zsj (Q:Exit->St->Prop):Exit->St->Prop
 |.goto _,_=>False
 |e,s=>Q e s
def Zcu {b:Frame}{a:Act}{k:List Item}{cs:List Frame}{w:World}{c:Code}:step P (lone (b.atR a (.code (.scope c)::k)) cs w)=.next (lone (b.atR a (.code c::.inScope c::k)) cs w):=
 step_lone_go (by simp[stepG,stepG.exec,Frame.atR])
def Zi5 {b:Frame}{a:Act}{k:List Item}{cs:List Frame}{w:World}{c:Code}:step P (lone (b.atR a (.inScope c::k)) cs w)=.next (lone (b.atR a k) cs w):=
 step_lone_go (by simp[stepG,stepG.exec,Frame.atR])
def Zfm (id:Nat)(c:Code)(k:List Item):exitTo id (.inScope c::k)=exitTo id k:=by simp[exitTo]
def ZlL {F:Fence}{m:Nat}{c:Code}{Q:Exit->Act->World->Prop}{a:Act}{w:World}(h:c.wpIn F m P (λe a w=>(∀l,e≠.goto l)/\Q e a w) a w):(Code.scope c).wpIn F m P Q a w:=by
 intro b k cs h6 hb hr;obtain⟨e,a₁,w₁,⟨h7,hq⟩,h5⟩:=h b (.inScope c::k) cs h6 hb hr;have h0:(lone (b.atR a (.code (.scope c)::k)) cs w).fenced P F:=fenced_calm hb hr rfl;cases e with
 |normal=>exact⟨.normal,a₁,w₁,hq,.head h0 Zcu (StepsIn.trans h5 (.one (fenced_calm hb hr rfl) Zi5))⟩
 |exit id=>exact⟨.exit id,a₁,w₁,hq,λk' hk=>.head h0 Zcu (h5.1 k' (by rw[Zfm];exact hk)),λh1 h2=>let ⟨k₁,h3,h4⟩:=h5.2 h1 (by rw[Zfm];exact h2);⟨k₁,h3,.head h0 Zcu h4⟩⟩
 |goto l'=>exact absurd rfl (h7 l')
 |ret=>exact⟨_,a₁,w₁,hq,.of_steps (.one h0 Zcu) h5⟩
 |panic ch=>exact⟨_,a₁,w₁,hq,.of_steps (.one h0 Zcu) h5⟩
 |outgrown=>exact⟨_,a₁,w₁,hq,.of_steps (.one h0 Zcu) h5⟩
def EvI.scope0 {b:IC}{Q:Exit->St->Prop}{s:St}(h:vc P n b (Zsj Q) s):EvI P n (.scope b) s Q:=by
 intro c hc k g a w hr;cases c<;>simp only[chkC,Zg]at hc;rename_i c1;refine ZlL (wpIn_mono (Zbp b _ _ h c1 hc k g a w hr) ?_);rintro e a' w' ⟨s',g',h1,h2⟩;cases e with
 |goto l=>exact h2.elim
 |_=>exact⟨λ_ e=>(by cases e),s',g',h1,h2⟩
def Zql {F:Fence}{m:Nat}{c rest:Code}{Q:Exit->Act->World->Prop}{α:Type}(l:Nat)(R:α->Act->World->Prop)(μ:α->Nat)(hf:findLabel c l=some rest){a:Act}{w:World}
  (first:c.wpIn F m P (Exit.jump l (λa w=>∃x,R x a w) Q) a w)
  (pass:∀x a w,R x a w->rest.wpIn F m P (Exit.jump l (λa' w'=>∃y,R y a' w'/\μ y<μ x) Q) a w):(Code.scope c).wpIn F m P Q a w:=by
 intro b k cs h7 hb hr;have hg:gotoIn l (.inScope c::k)=some (.code rest::.inScope c::k):=by simp[gotoIn,hf]
 have key:∀i x a w,μ x=i->R x a w->∃e a' w',Q e a' w'/\ArrivesIn (Machine.fenced P F) P (lone (b.atR a (.code rest::.inScope c::k)) cs w) b k cs e a' w':=by
  intro i;induction i using Nat.strongRecOn with
  |_ i ih=>
   intro x a w hn hJ;obtain⟨e,a₁,w₁,hq,h5⟩:=pass x a w hJ b (.inScope c::k) cs h7 hb hr;cases e with
   |normal=>exact⟨.normal,a₁,w₁,hq,StepsIn.trans h5 (.one (fenced_calm hb hr rfl) Zi5)⟩
   |exit id=>exact⟨.exit id,a₁,w₁,hq,λk' hk=>h5.1 k' (by rw[Zfm];exact hk),λh1 h2=>h5.2 h1 (by rw[Zfm];exact h2)⟩
   |goto l'=>
    obtain⟨rfl,y,h6,h8⟩:=hq;obtain⟨e₂,a₂,w₂,hq₂,harr₂⟩:=ih _ (by omega) y a₁ w₁ rfl h6;exact⟨e₂,a₂,w₂,hq₂,.of_steps (h5.1 _ hg) harr₂⟩
   |ret=>exact⟨_,a₁,w₁,hq,h5⟩
   |panic ch=>exact⟨_,a₁,w₁,hq,h5⟩
   |outgrown=>exact⟨_,a₁,w₁,hq,h5⟩
 have h0:(lone (b.atR a (.code (.scope c)::k)) cs w).fenced P F:=fenced_calm hb hr rfl;obtain⟨e,a₁,w₁,hq,h5⟩:=first b (.inScope c::k) cs h7 hb hr
 cases e with
 |normal=>exact⟨.normal,a₁,w₁,hq,.head h0 Zcu (StepsIn.trans h5 (.one (fenced_calm hb hr rfl) Zi5))⟩
 |exit id=>exact⟨.exit id,a₁,w₁,hq,λk' hk=>.head h0 Zcu (h5.1 k' (by rw[Zfm];exact hk)),λh1 h2=>let ⟨k₁,h3,h4⟩:=h5.2 h1 (by rw[Zfm];exact h2);⟨k₁,h3,.head h0 Zcu h4⟩⟩
 |goto l'=>
  obtain⟨rfl,x,h6⟩:=hq;obtain⟨e₂,a₂,w₂,hq₂,harr₂⟩:=key _ x a₁ w₁ rfl h6;exact⟨e₂,a₂,w₂,hq₂,.of_steps (.head h0 Zcu (h5.1 _ hg)) harr₂⟩
 |ret=>exact⟨_,a₁,w₁,hq,.of_steps (.one h0 Zcu) h5⟩
 |panic ch=>exact⟨_,a₁,w₁,hq,.of_steps (.one h0 Zcu) h5⟩
 |outgrown=>exact⟨_,a₁,w₁,hq,.of_steps (.one h0 Zcu) h5⟩
@[reducible] def ZyR (l:Nat)(J:St->Prop)(Q:Exit->St->Prop):Exit->St->Prop
 |.goto l',s=>l'=l/\J s
 |e,s=>Q e s
end
end Go.Eng

namespace Go.Eng
open Go
def Zj1 (P:Program):List ResultVar->List RV->Bool
 |[],[]=>true
 |.tmp t::r,.tmp t'::r'=>decide (t=t')&&Zj1 P r r'
 |.cell t ty::r,.cell t' m isA::r'=>decide (t=t')&&ZdA P ty m&&ZsF P ty isA&&Zj1 P r r'
 |_,_=>false
def chkF (P:Program)(f:Nat)(F:IFn):Bool:=match P.funcs[f]? with
 |some fn=>(match fn.body with
  | some c=>chkC P fn.ntmps c F.body&&Zj1 P fn.results.toList F.res&&decide (F.nargs<=fn.ntmps)&&decide (fn.ntmps=F.nt) && !(fn.name == "runtime.NumGoroutine")
  |none=>false)
 |none=>false
@[reducible] def endQ (R:St->Prop):Exit->St->Prop
 |.normal,s|.ret,s=>R s
 |_,_=>False
def resF (tmps:Array Value):ResultVar->Sem Value
 |.tmp t=>pure (tmps.getD t undef)
 |.cell a t=>do loadVar t (←asAddr (tmps.getD a undef))
def Zna (fn:Func)(tmps:Array Value):results fn tmps=(do let vs←fn.results.mapM (resF tmps);pure (if h:vs.size=1 then vs[0]else .tuple vs)):=rfl
section
variable {P:Program} {k:K0} {n:Nat} {g:G} {s:St} {a:Act} {w:World}
def Zns:∀(args:List AV) (i t:Nat),get (ZhI args i) t=if i<=t then(args[t-i]?).getD .any else .any
 |[],i,t=>by simp[ZhI,get]
 |v::vs,i,t=>by
  simp only[ZhI,get];by_cases h:i=t
  ·subst h;simp
  rw[Zau h,Zns vs (i+1) t];by_cases h1:i<=t
  ·rw[Zav (by omega),Zav h1,show t-i=(t-(i+1))+1 by omega,ZI]
  rw[Zau (by omega),Zau h1]
def Zp5 {ok0:Addr->Prop}{ρ:List Nat}{H:List HO}{args:List AV}{vs:List Value}(hr:HR (k0 ok0 ρ H w) ρ H w)(hv:VRL (cx (k0 ok0 ρ H w) ⟨ρ,noB⟩ H w) args vs)(h1:noLocL args=true)(hn:args.length<=n):
  Rel (k0 ok0 ρ H w) n ⟨ρ,noB⟩ ⟨ZhI args 0,[],H⟩ {tmps:=vs.toArray++Array.replicate (n-vs.toArray.size) undef,defers:=[]} w:=
 have hl:=hv.length
 {defers:=⟨[],[],rfl,List.nodup_nil,λD h=>(by cases h)⟩
  rnd:=λl h=>(by cases h)
  tsz:=by simp;omega
  slots:=λt=>by
   simp only[Zns,Nat.zero_le,Zaw,Nat.sub_zero];cases ht:args[t]? with
   |none=>simp[VR]
   |some x=>
    have h2:=(List.getElem?_eq_some_iff.1 ht).1;have h0:t<vs.length:=by omega
    have:(vs.toArray++Array.replicate (n-vs.toArray.size) undef).getD t undef=vs[t]:=by
     rw[Za,Array.getElem?_append_left (by simpa using h0)];simp[h0]
    rw[this];exact(Zew.1 hv).2 t x _ ht (ZL h0)
  tops:=λt=>by
   simp only[Zns,Nat.zero_le,Zaw,Nat.sub_zero];cases ht:args[t]? with
   |none=>rfl
   |some x=>exact Za1 (ZcA.1 h1 x (List.mem_of_getElem? ht))
  boxes:=λt cs e=>by simp[bget]at e
  boxed:=λt b e=>by cases e
  heap:=hr.heap
  len:=hr.len
  inj:=hr.inj
  binj:=λt u b e=>by cases e
  apart:=λt i b e=>by cases e
  own:=hr.own
  keep:=hr.keep
  hist:=ZbA.refl _}
def Zkq (h:Rel k n g s a w):∀{rs:List ResultVar} {is:List RV} {xs:List AV},Zj1 P rs is=true->rawL s is=some xs→
  ∃us:List Value,(rs.mapM (m:=Sem) (resF a.tmps)).run P w=.ok us w/\VRL (cx k g s.H w) xs us
 |[],[],xs,_,hx=>by
  simp only[rawL,Zan]at hx;subst hx;exact⟨[],rfl,by rw[VRL]⟩
 |.tmp t::rs,.tmp t'::is,xs,hc,hx=>by
  simp only[Zj1,Ze,Zas]at hc;obtain⟨rfl,hc⟩:=hc;simp only[rawL,rawV,Zak]at hx;cases hr:rawL s is with
  |none=>simp[hr]at hx
  |some ys=>
   simp only[hr,Zam,Zan]at hx;subst hx;obtain⟨us,h1,h2⟩:=Zkq h hc hr;refine⟨a.tmps.getD t undef::us,?_,by rw[VRL];exact⟨_,_,rfl,h.slots t,h2⟩⟩;rw[List.mapM_cons];simp only[Sem.run_bind,resF,Sem.run_pure,Result.andThen_ok,h1]
 |.cell p ty::rs,.cell p' m isA::is,xs,hc,hx=>by
  simp only[Zj1,Ze,Zas]at hc;obtain⟨⟨⟨rfl,h6⟩,h7⟩,hc⟩:=hc;simp only[rawL,rawV]at hx;cases h4:rd s.bx s.H m (get s.fr p)with
  |none=>simp[h4]at hx
  |some cs=>
   simp only[h4,Zak]at hx;cases h3:mk isA cs with
   |none=>simp[h3]at hx
   |some r=>
    simp only[h3,Zak]at hx;cases hr:rawL s is with
    |none=>simp[hr]at hx
    |some ys=>
     simp only[hr,Zam,Zan]at hx;subst hx;obtain⟨us,h1,h2⟩:=Zkq h hc hr;obtain⟨A,vs,e,v1,v2,v3,v4⟩:=Zu7 h h4 (h.slots p);have h5:isA=false->m=1:=λe=>by
      have:=Zvd h3 e;rw[←v2,v1.length];exact this
     have h0:=Zo6 (P:=P) (w:=w) h6 h7 v2 h5 v4;refine⟨_::us,?_,by rw[VRL];exact⟨_,_,rfl,ZyK h3 v1,h2⟩⟩;have hf:(resF a.tmps (.cell p ty)).run P w=.ok (if isA then .agg vs.toArray else vs.getD 0 undef) w:=by
      simp only[resF,Sem.run_bind,e,asAddr,Sem.run_pure,Result.andThen_ok,h0]
     rw[List.mapM_cons];simp only[Sem.run_bind,hf,Sem.run_pure,Result.andThen_ok,h1]
 |[],_::_,_,hc,_=>by simp[Zj1]at hc
 |.tmp _::_,[],_,hc,_=>by simp[Zj1]at hc
 |.cell _ _::_,[],_,hc,_=>by simp[Zj1]at hc
 |.tmp _::_,.cell .. ::_,_,hc,_=>by simp[Zj1]at hc
 |.cell _ _::_,.tmp _::_,_,hc,_=>by simp[Zj1]at hc
def ZrK {c:Cx}{xs:List AV}{us:List Value}(h:VRL c xs us):VR c (ZcZ xs) (if h:us.toArray.size=1 then us.toArray[0]else .tuple us.toArray):=by
 unfold ZcZ;split
 ·obtain⟨v,rfl,h'⟩:=ZfH h;simpa using h'
 rename_i h0;have hl:=h.length;rw[dif_neg]
 ·rw[VR];exact⟨us,rfl,h⟩
 intro e;simp only[List.size_toArray]at e;rw[hl]at e
 match xs,e with
 |[v],_=>exact h0 v rfl
def Zum (h:Rel k n g s a w){fn:Func}{is:List RV}{xs:List AV}(hc:Zj1 P fn.results.toList is=true)(hx:rawL s is=some xs):
  ∃v,(results fn a.tmps).run P w=.ok v w/\VR (cx k g s.H w) (ZcZ xs) v:=by
 obtain⟨us,h1,h2⟩:=Zkq (P:=P) h hc hx;refine⟨_,?_,ZrK h2⟩;rw[Zna];have hm:(fn.results.mapM (m:=Sem) (resF a.tmps)).run P w=.ok us.toArray w:=by
  rw[←Array.toArray_toList (xs:=fn.results),List.mapM_toArray,Sem.run_map];rw[h1];rfl
 simp only[Sem.run_bind,hm,Result.andThen_ok,Sem.run_pure]
def Rel.noBoxes (h:Rel k n g s a w):ZbA (cx k g s.H w) (cx k ⟨g.ρ,noB⟩ s.H w):=
 {stay:=λa u ho hc=>⟨hc,ho.1,λt e=>(by cases e),ho.2.2⟩
  arr:=λid sz ver frz rows e=>⟨ver,frz,rows,e,Nat.le_refl _,λ_=>⟨Nat.le_refl _,rfl,λb vs _ hb=>⟨vs,hb,rfl⟩⟩⟩
  cells:=λid cs e=>⟨⟨cs,e⟩,rfl⟩
  lp:=λ_ _ _ st e=>⟨⟨st,e⟩,rfl⟩}
def Rel.toHR (h:Rel k n g s a w):HR k g.ρ s.H w:=
 {heap:=λid o e=>let ⟨b,hb,hr⟩:=h.heap id o e;⟨b,hb,hr.later h.noBoxes λ_ hb=>hb⟩
  len:=h.len
  inj:=h.inj
  own:=h.own
  keep:=h.keep}
structure Off (w w':World) (D:Nat):Prop where
 os:w'.os=w.os
 tape:w'.tape=w.tape
 output:w'.output=w.output
 size:w'.heap.size=w.heap.size
 block:∀i,i≠D->w'.heap[i]?=w.heap[i]?
 no:∀vs e f,w.heap[D]?≠some (.cells vs e f)
theorem Off.put {w:World}{D:Nat}(o:Obj)(h:∀vs e f,w.heap[D]?≠some (.cells vs e f)):Off w (w.putObj D o) D:=
 ⟨rfl,rfl,rfl,World.putObj_size,λi hi=>World.putObj_heap_other hi,h⟩
def Off.cell {w w':World}{D:Nat}(u:Off w w' D){a:Addr}{x:Value}(hc:w.cell? a=some x):w'.cell? a=some x:=by
 rw[World.cell?_of_block (u.block a.block (λe=>?_))];exact hc;subst e;unfold World.cell? at hc;split at hc
 ·rename_i c e f h;exact u.no c e f h
 cases hc
theorem Off.blk {H H':List HO}{g g':G}{w w':World}{D:Nat}(u:Off w w' D){b:Nat}{vs:Array Value}(hb:(cx k g H w).blk b vs):(cx k g' H' w').blk b vs:=by
 obtain⟨e,hb⟩:=hb;exact⟨e,(u.block b (λe'=>by subst e';exact u.no _ _ _ hb)).trans hb⟩
def Keep.off {D0:Nat->Prop}{w0 w w':World}{b:Nat}(h:Keep D0 w0 w)(u:Off w w' b)(hb:w0.heap.size<=b∨D0 b):Keep D0 w0 w':=
 ⟨u.os.trans h.os,u.tape.trans h.tape,u.output.trans h.output,by rw[u.size];exact h.size,λi hi hD=>by
  rw[u.block i (λe=>by subst e;rcases hb with hb|hb;omega;exact hD hb)];exact h.block i hi hD⟩
def Zxg {w':World}{D:Nat}(u:Off w w' D)(g:G)(H:List HO):ZbA (cx k g H w) (cx k g H w'):=
 {stay:=λa x ho hc=>⟨u.cell hc,ho⟩
  arr:=λid sz ver frz rows e=>⟨ver,frz,rows,e,Nat.le_refl _,λ_=>⟨Nat.le_refl _,rfl,λb vs _ hb=>⟨vs,u.blk hb,rfl⟩⟩⟩
  cells:=λid cs e=>⟨⟨cs,e⟩,rfl⟩
  lp:=λ_ _ _ st e=>⟨⟨st,e⟩,rfl⟩}
def Rel.close1 (h:Rel k n g s a w){D:Nat}{ms ms2:List Nat}(hd:a.defers=(D::ms).map (λD=>{target:=.collected D,args:=#[]})++(k.tl++ms2.map (λD=>{target:=.collected D,args:=#[]})))(hn:(D::ms++ms2).Nodup)
  (hm:∀D'∈D::ms++ms2,k.w0.heap.size<=D'/\w.heap[D']?=some (.deferred (some []))):
  (Instr.takeDeferred D).run P w=.ok [] (w.putObj D (.deferred none))/\Rel k n g s {a with defers:=ms.map (λD=>{target:=.collected D,args:=#[]})++(k.tl++ms2.map (λD=>{target:=.collected D,args:=#[]}))} (w.putObj D (.deferred none))∧
   ∀D'∈ms++ms2,k.w0.heap.size<=D'/\(w.putObj D (.deferred none)).heap[D']?=some (.deferred (some [])):=by
 obtain⟨h3,hD⟩:=hm D (by simp);have u:Off w (w.putObj D (.deferred none)) D:=.put _ (λvs e f h=>by rw[hD]at h;cases h);have hl:=Zxg (k:=k) u g s.H;have h0:∀b,b≠D->∀o,w.heap[b]?=some o->(w.putObj D (.deferred none)).heap[b]?=some o:=λb hb o ho=>(u.block b hb).trans ho
 rw[Zz]at hn;have h2:∀D'∈ms++ms2,k.w0.heap.size<=D'/\(w.putObj D (.deferred none)).heap[D']?=some (.deferred (some [])):=λD' h1=>
  ⟨(hm D' (by rw[Zz];exact List.mem_cons_of_mem _ h1)).1,h0 D' (λe=>by subst e;exact(List.nodup_cons.1 hn).1 h1) _ (hm D' (by rw[Zz];exact List.mem_cons_of_mem _ h1)).2⟩
 refine⟨run_takeDeferred hD,?_,h2⟩;exact
  {defers:=⟨ms,ms2,rfl,(List.nodup_cons.1 hn).2,h2⟩
   rnd:=λl hl=>let ⟨r,hr⟩:=h.rnd l hl;⟨r,h0 l (λe=>by subst e;rw[hD]at hr;cases hr) _ hr⟩
   tsz:=h.tsz
   slots:=λt=>ZbP hl (λ_ _ e=>e) (h.tops t) (h.slots t)
   tops:=h.tops
   boxes:=λt cs e=>let ⟨b,hb,hr⟩:=h.boxes t cs e;⟨b,hb,hr.later hl (h0 b (λe=>by
    subst e;obtain⟨_,vs,⟨et,hr⟩,_⟩:=hr;rw[show w.heap[b]?=_ from hr]at hD;cases hD))⟩
   boxed:=h.boxed
   heap:=λid o e=>let ⟨b,hb,hr⟩:=h.heap id o e;⟨b,hb,hr.later hl (h0 b (λe=>by subst e;exact h.notDeferred hb hD))⟩
   len:=h.len
   inj:=h.inj
   binj:=h.binj
   apart:=h.apart
   own:=h.own
   keep:=h.keep.off u (.inl h3)
   hist:=h.hist.trans hl}
def Rel.leavesT {fn:Func}{R:Ending->World->Prop}{u:FrameMode}(hu:u≠.run){ms2:List Nat}:∀(ms:List Nat) {a:Act} {w:World},Rel k n g s a w->a.defers=ms.map (λD=>{target:=.collected D,args:=#[]})++(k.tl++ms2.map (λD=>{target:=.collected D,args:=#[]}))->(ms++ms2).Nodup→
  (∀D'∈ms++ms2,k.w0.heap.size<=D'/\w.heap[D']?=some (.deferred (some [])))→
  (∀w',Rel k n g s {a with defers:=k.tl++ms2.map (λD=>{target:=.collected D,args:=#[]})} w'->(∀D'∈ms2,k.w0.heap.size<=D'/\w'.heap[D']?=some (.deferred (some [])))->LeavesInM (FR none) 0 P fn a.tmps R (k.tl++ms2.map (λD=>{target:=.collected D,args:=#[]})) u w')->LeavesInM (FR none) 0 P fn a.tmps R a.defers u w
 |[],a,w,h,hd,hn,hm,hR=>by
  simp only[Z4,Z7]at hd;rw[hd];have:a={a with defers:=k.tl++ms2.map (λD=>{target:=.collected D,args:=#[]})}:=by cases a;simp only at hd;simp[hd]
  exact hR w (this▸h) (by simpa using hm)
 |D::ms,a,w,h,hd,hn,hm,hR=>by
  obtain⟨h1,h2,h3⟩:=h.close1 (P:=P) hd hn hm;have:=Rel.leavesT (fn:=fn) (R:=R) hu ms h2 rfl (by rw[Zz]at hn;exact(List.nodup_cons.1 hn).2) h3 (λw' h'=>hR w' h');rw[hd,Z3,Zz];exact⟨hu,.inl ⟨D,_,rfl,h1,this⟩⟩
def Rel.leavesU {fn:Func}{R:Ending->World->Prop}{u:FrameMode}(hu:u≠.run)(h:Rel k n g s a w)(hR:∀w',Rel k n g s {a with defers:=[]} w'->LeavesInM (FR none) 0 P fn a.tmps R [] u w')(h0:k.tl=[]:=by rfl):
  LeavesInM (FR none) 0 P fn a.tmps R a.defers u w:=by
 obtain⟨ms,ms2,e,hn,hm⟩:=h.defers;refine Rel.leavesT (ms2:=[]) hu (ms++ms2) h (by rw[e,h0];simp) (by simpa using hn) (by simpa using hm) λw' h' _=>?_
 rw[h0]at h'⊢;exact hR w' h'
def Rel.leavesAll {fn:Func}{R:Ending->World->Prop}(h:Rel k n g s a w)(hR:∀w',Rel k n g s {a with defers:=[]} w'->∃v,(results fn a.tmps).run P w'=.ok v w'/\R (.returned v) w')(h0:k.tl=[]:=by rfl):
  LeavesInM (FR none) 0 P fn a.tmps R a.defers .returning w:=h.leavesU (by simp) (λw' h'=>hR w' h') h0
def ZsG {f:Nat}{F:IFn}(hk:chkF P f F=true){args:List AV}{H H':List HO}{r:AV}(hl:args.length=F.nargs)(h6:noLocL args=true)(hr:Za7 r=true)
  (h:EvI P F.nt F.body ⟨ZhI args 0,[],H⟩ (endQ λs'=>∃xs,rawL s' F.res=some xs/\ZcZ xs=r/\s'.H=H')):Zcg P f args H r H':=by
 unfold chkF at hk;split at hk
 ·rename_i fn hf;split at hk
  ·rename_i c hb;simp only[Ze,Zas,Zh]at hk;obtain⟨⟨⟨⟨hc,h3⟩,h8⟩,h5⟩,h0⟩:=hk;refine⟨⟨fn,hf,by rw[hb];rfl,h0⟩,hr,λok0 ρ w vs h7 hv=>?_⟩;have h4:=Zp5 (n:=fn.ntmps) h7 hv h6 (by omega);refine ZsC (r:=none) (m:=0) (callsIn_of_wp_marks hf hb trivial (wpIn_mono (h c (by rw[←h5];exact hc) _ _ _ _ (by rw[←h5];exact h4)) ?_));rintro e a' w' ⟨s',g',h1,h2⟩;have key:(∃xs,rawL s' F.res=some xs/\ZcZ xs=r/\s'.H=H')->LeavesInM (FR none) 0 P fn a'.tmps (λe w'=>∃v' ρ',e=.returned v'/\HR (k0 ok0 ρ H w) ρ' H' w'/\VR (cx (k0 ok0 ρ H w) ⟨ρ',noB⟩ H' w') r v'∧
     ZbA (cx (k0 ok0 ρ H w) ⟨ρ,noB⟩ H w) (cx (k0 ok0 ρ H w) ⟨ρ',noB⟩ H' w')) a'.defers .returning w':=by
    rintro⟨xs,x1,rfl,rfl⟩;refine h1.leavesAll λw2 h2=>?_
    obtain⟨v,v1,v2⟩:=Zum h2 h3 x1;exact⟨v,v1,v,g'.ρ,rfl,h2.toHR,VR.later h2.noBoxes _ _ hr v2,h2.hist.trans h2.noBoxes⟩
   cases e with
   |normal=>exact key h2
   |ret=>exact key h2
   |_=>exact h2.elim
  cases hk
 cases hk
def Zpy {ok0:Addr->Prop}{w0:World}(h:Rel (k0 ok0 [] [] w0) n g s a w){x r:AV}{v:Value}(hp:Zsb s.H x=some r)(hv:VR (cx (k0 ok0 [] [] w0) g s.H w) x v):
  VR (cx (k0 ok0 [] [] w0) ⟨[],noB⟩ [] w) r v/\ZkC r=true:=by
 have h2:Stay (okOf (k0 ok0 [] [] w0) s.H g) (okOf (k0 ok0 [] [] w0) [] ⟨[],noB⟩) w w:=λa u ho hc=>⟨hc,ho.1,λt e=>(by cases e),λid e=>by simp at e⟩
 unfold Zsb at hp;split at hp
 ·simp only[Zan]at hp;subst hp;exact⟨VR.weak1 (ZmO h2 rfl hv),rfl⟩
 ·simp only[Zan]at hp;subst hp;exact⟨ZmO h2 rfl hv,rfl⟩
 ·rename_i sz id ver off len;split at hp
  ·rename_i sz' ver' frz rows hH;split at hp
   ·rename_i h0;obtain⟨rfl,rfl⟩:=h0;cases hs:sub off len rows with
    |none=>simp[hs]at hp
    |some r0=>
     simp only[hs,Zam,Zan]at hp;subst hp;refine⟨?_,rfl⟩;obtain⟨h1,hl,h3,_⟩:=Zk1 (x:=.osl sz' id ver' off len) (x':=.p (.sl sz' false r0)) (H':=s.H.set id (.arr sz' ver' true rows)) h (by simp[frz1,hH,hs]) hv;exact ZmO (c:=cx (k0 ok0 [] [] w0) g (s.H.set id (.arr sz' ver' true rows)) w) (c':=cx (k0 ok0 [] [] w0) ⟨[],noB⟩ [] w) (λa u ho hc=>⟨hc,ho.1,λt e=>(by cases e),λid e=>by simp at e⟩) rfl h3
   cases hp
  cases hp
 cases hp
def Zpx {ok0:Addr->Prop}{w0:World}(h:Rel (k0 ok0 [] [] w0) n g s a w):∀{xs rs:List AV} {vs:List Value},Zos s.H xs=some rs->VRL (cx (k0 ok0 [] [] w0) g s.H w) xs vs→
  VRL (cx (k0 ok0 [] [] w0) ⟨[],noB⟩ [] w) rs vs/\ZkB rs=true
 |[],rs,vs,hp,hv=>by
  simp only[Zos,Zan]at hp;subst hp;rw[VRL]at hv⊢;exact⟨hv,rfl⟩
 |x::xs,rs,vs,hp,hv=>by
  simp only[Zos]at hp;cases h1:Zsb s.H x with
  |none=>simp[h1]at hp
  |some y=>
   simp only[h1,Zak]at hp;cases h2:Zos s.H xs with
   |none=>simp[h2]at hp
   |some ys=>
    simp only[h2,Zam,Zan]at hp;subst hp;rw[VRL]at hv;obtain⟨u,us,rfl,v1,v2⟩:=hv;obtain⟨a1,a2⟩:=Zpy h h1 v1;obtain⟨b1,b2⟩:=Zpx h h2 v2;exact⟨by rw[VRL];exact⟨u,us,rfl,a1,b1⟩,by simp[ZkB,a2,b2]⟩
def Zuv {ok0:Addr->Prop}{w0:World}(h:Rel (k0 ok0 [] [] w0) n g s a w){x r:AV}{v:Value}(hp:Zmr s.H x=some r)(hv:VR (cx (k0 ok0 [] [] w0) g s.H w) x v):
  VR (cx (k0 ok0 [] [] w0) ⟨[],noB⟩ [] w) r v/\ZkD r=true:=by
 unfold Zmr at hp;split at hp
 ·rename_i cs;cases h1:Zos s.H cs with
  |none=>simp[h1]at hp
  |some rs=>
   simp only[h1,Zam,Zan]at hp;subst hp;rw[VR]at hv;obtain⟨vs,rfl,hv⟩:=hv;obtain⟨a1,a2⟩:=Zpx h h1 hv;exact⟨by rw[VR];exact⟨vs,rfl,a1⟩,by simpa[ZkD]using a2⟩
 obtain⟨a1,a2⟩:=Zpy h hp hv;refine⟨a1,?_⟩;cases r<;>simp_all[ZkD,ZkC]
def Zym {is:List RV}{rs:List AV}(h:resL s is=some rs):∃xs,rawL s is=some xs/\xs.length=rs.length/\∀(j:Nat) x r,xs[j]?=some x->rs[j]?=some r->Zmr s.H x=some r:=by
 induction is generalizing rs with
 |nil=>simp only[resL,Zan]at h;subst h;exact⟨[],rfl,rfl,by simp⟩
 |cons i is ih=>
  simp only[resL]at h;cases h1:resV s i with
  |none=>simp[h1]at h
  |some y=>
   simp only[h1,Zak]at h;cases h2:resL s is with
   |none=>simp[h2]at h
   |some ys=>
    simp only[h2,Zam,Zan]at h;subst h;obtain⟨xs,a1,a2,a3⟩:=ih h2;have:∃x,rawV s i=some x/\Zmr s.H x=some y:=by
     cases i with
     |tmp t=>exact⟨get s.fr t,rfl,h1⟩
     |cell t m b=>
      simp only[resV]at h1;cases h3:(rd s.bx s.H m (get s.fr t)).bind (mk b)with
      |none=>simp[h3]at h1
      |some x=>exact⟨x,h3,by simpa[h3]using h1⟩
    obtain⟨x,x1,x2⟩:=this;refine⟨x::xs,by simp[rawL,x1,a1],by simp[a2],λj x' r' hx hr=>?_⟩;cases j with
    |zero=>simp at hx hr;subst hx hr;exact x2
    |succ j=>exact a3 j x' r' (by simpa using hx) (by simpa using hr)
def Zyu {f:Nat}{F:IFn}(hk:chkF P f F=true){args:List AV}{r:AV}(hl:args.length=F.nargs)(ha:Zit args=true)
  (h:EvI P F.nt F.body ⟨ZhI args 0,[],[]⟩ (endQ λs'=>∃xs,resL s' F.res=some xs/\ZcZ xs=r)) (h9:Zip r=true):Zld P f args r:=by
 refine⟨h9,ha,?_⟩;unfold chkF at hk;split at hk
 ·rename_i fn hf;split at hk
  ·rename_i c hb;simp only[Ze,Zas,Zh]at hk;obtain⟨⟨⟨⟨hc,h7⟩,hy⟩,he⟩,h6⟩:=hk;have hn:Za7 r=true:=by
    cases r with
    |tup vs=>simpa[Za7]using Zgi (by simpa[Zip]using h9)
    |_=>exact Zrf (by simpa[Zip]using h9)
   refine⟨⟨fn,hf,by rw[hb];rfl,h6⟩,hn,λok0 ρ w vs hh hv=>?_⟩;have hρ:ρ=[]:=List.eq_nil_of_length_eq_zero hh.len;subst hρ;have h8:=Zp5 (n:=fn.ntmps) hh hv (Zgi ha) (by omega);refine ZsC (r:=none) (m:=0) (callsIn_of_wp_marks hf hb trivial (wpIn_mono (h c (by rw[←he];exact hc) _ _ _ _ (by rw[←he];exact h8)) ?_));rintro e a' w' ⟨s',g',h1,h2⟩;have key:(∃xs,resL s' F.res=some xs/\ZcZ xs=r)->LeavesInM (FR none) 0 P fn a'.tmps (λe w'=>∃v' ρ',e=.returned v'/\HR (k0 ok0 [] [] w) ρ' [] w'/\VR (cx (k0 ok0 [] [] w) ⟨ρ',noB⟩ [] w') r v'∧
     ZbA (cx (k0 ok0 [] [] w) ⟨[],noB⟩ [] w) (cx (k0 ok0 [] [] w) ⟨ρ',noB⟩ [] w')) a'.defers .returning w':=by
    rintro⟨rs,x1,rfl⟩;obtain⟨xs,y1,y2,y3⟩:=Zym x1;refine h1.leavesAll λw2 h0=>?_
    have hq:∀i,i<w.heap.size->w2.heap[i]?=w.heap[i]?:=λi hi=>h0.keep.block i hi (λ⟨j,hj⟩=>by simp at hj)
    have hg:Grow w w2:=⟨h0.keep.os,h0.keep.tape,h0.keep.output,h0.keep.size,hq⟩;obtain⟨us,h3,h4⟩:=Zkq (P:=P) h0 h7 y1;have h5:VRL (cx (k0 ok0 [] [] w) ⟨[],noB⟩ [] w2) rs us:=by
     rw[Zew]at h4⊢;refine⟨by omega,λj r u hr hu=>?_⟩;have ht:j<xs.length:=by rw[y2];exact(List.getElem?_eq_some_iff.1 hr).1
     have hx:=ZL ht;exact(Zuv h0 (y3 j _ r hx hr) (h4.2 j _ u hx hu)).1
    refine⟨_,?_,_,[],rfl,?_,ZrK h5,Zfl hg []⟩
    ·rw[Zna];have hm:(fn.results.mapM (m:=Sem) (resF a'.tmps)).run P w2=.ok us.toArray w2:=by
      rw[←Array.toArray_toList (xs:=fn.results),List.mapM_toArray,Sem.run_map,h3];rfl
     simp only[Sem.run_bind,hm,Result.andThen_ok,Sem.run_pure]
    exact
     {heap:=λid o e=>by simp at e
      len:=rfl
      inj:=λi j b e=>by simp at e
      own:=λi b e=>by simp at e
      keep:=h0.keep}
   cases e with
   |normal=>exact key h2
   |ret=>exact key h2
   |_=>exact h2.elim
  cases hk
 cases hk
end
end Go.Eng

namespace Go.Eng
open Go
abbrev Zuf:=Nat->List AV->List HO->Option (AV×List HO)
def ZrT (call:Zuf)(i:Ins)(s:St):Option St:=
 match i with
 |.call d f xs=>(frzL s.H (xs.map (ev s.fr))).bind λ(args,H1)=>(call f args H1).map λ(r,H2)=>⟨putO s.fr d r,s.bx,H2⟩
 |.callP d f xs=>if Zit (weakVs (xs.map (ev s.fr)))then(call f (weakVs (xs.map (ev s.fr))) []).bind λ(r,H2)=>if H2.isEmpty&&Zip r then some ⟨put s.fr d r,s.bx,s.H⟩else none else none
 |.callV d fx xs=>match ev s.fr fx with
  |.fn f first cap=>(frzL s.H (first++xs.map (ev s.fr)++cap)).bind λ(args,H1)=>(call f args H1).map λ(r,H2)=>⟨putO s.fr d r,s.bx,H2⟩
  |_=>none
 |i=>Zbb i s
def opF (call:Zuf)(o:IOp)(s:St):Option St:=
 match o.g with
 |none=>if bnOK o s.fr=true then ZrT call o.i s else none
 |some (t,want)=>match get s.fr t with
  |.p (.bool b)=>if b=want then(if bnOK o s.fr=true then ZrT call o.i s else none)else some ⟨putO s.fr (dstI o.i) (.nl .unit),s.bx,s.H⟩
  |.nl .unit=>some ⟨putO s.fr (dstI o.i) (.nl .unit),s.bx,s.H⟩
  |_=>none
def opsF (call:Zuf):List IOp->St->Option St
 |[],s=>some s
 |o::os,s=>(opF call o s).bind (opsF call os)
section
variable {P:Program} {n N:Nat}
def ZoO (P:Program)(call:Zuf):Prop:=∀f args H r H',call f args H=some (r,H')->Zcg P f args H r H'
def Zo3 {call:Zuf}(hc:ZoO P call){i:Ins}{s s':St}(h:ZrT call i s=some s'):ZaS P i s s':=by
 cases i with
 |call d f xs=>
  simp only[ZrT]at h;cases h1:frzL s.H (xs.map (ev s.fr))with
  |none=>simp[h1]at h
  |some p=>
   obtain⟨args,H1⟩:=p;simp only[h1,Zak]at h;cases h2:call f args H1 with
   |none=>simp[h2]at h
   |some q=>
    obtain⟨r,H2⟩:=q;simp only[h2,Zam,Zan]at h;exact⟨args,H1,r,H2,.frz h1,hc _ _ _ _ _ h2,h.symm⟩
 |callP d f xs=>
  simp only[ZrT]at h;split at h
  ·rename_i hp;cases h2:call f (weakVs (xs.map (ev s.fr))) []with
   |none=>simp[h2]at h
   |some q=>
    obtain⟨r,H2⟩:=q;simp only[h2,Zak]at h;split at h
    ·rename_i h3;simp only[Ze,List.isEmpty_iff]at h3;obtain⟨rfl,h4⟩:=h3;simp only[Zan]at h;exact⟨r,⟨h4,hp,hc _ _ _ _ _ h2⟩,h.symm⟩
    cases h
  cases h
 |callV d fx xs=>
  simp only[ZrT]at h;split at h
  ·rename_i f first cap h0
   cases h1:frzL s.H (first++xs.map (ev s.fr)++cap)with
   |none=>rw[h1]at h;cases h
   |some p=>
    obtain⟨args,H1⟩:=p;simp only[h1,Zak]at h;cases h2:call f args H1 with
    |none=>simp[h2]at h
    |some q=>
     obtain⟨r,H2⟩:=q;simp only[h2,Zam,Zan]at h;exact⟨f,first,cap,args,H1,r,H2,h0,.frz h1,hc _ _ _ _ _ h2,h.symm⟩
  cases h
 |callY d fx xs=>simp[ZrT,Zbb]at h
 |callQ d f xs=>simp[ZrT,Zbb]at h
 |sp d q xs=>simp[ZrT,Zbb]at h
 |_=>exact h
def Zw4 {call:Zuf}(hc:ZoO P call){o:IOp}{s s':St}(h:opF call o s=some s'):AOp P o s s':=by
 unfold opF at h;unfold AOp;split at h
 ·rename_i hg;rw[hg];split at h
  ·rename_i hb;exact⟨hb,Zo3 hc h⟩
  cases h
 rename_i t want hg;rw[hg];simp only;split at h
 ·rename_i b h0;rw[h0];simp only;split at h
  ·rename_i hb;rw[Zav hb];split at h
   ·rename_i h1;exact⟨h1,Zo3 hc h⟩
   cases h
  rename_i hb;rw[Zau hb];simp only[Zan]at h;exact h.symm
 ·rename_i h0;rw[h0];simp only[Zan]at h;exact h.symm
 cases h
def Zrd {call:Zuf}(hc:ZoO P call):∀{os:List IOp} {s s':St},opsF call os s=some s'->Zbn P os s s'
 |[],s,s',h=>by simp only[opsF,Zan]at h;exact h.symm
 |o::os,s,s',h=>by
  simp only[opsF]at h;cases h1:opF call o s with
  |none=>simp[h1]at h
  |some s1=>simp only[h1,Zak]at h;exact⟨s1,Zw4 hc h1,Zrd hc h⟩
def EvI.loopR {b:IC}{Q:Exit->St->Prop}{α:Type}(R:α->St->Prop)(μ:α->Nat)
  (round:∀x s,R x s->EvI P n b s (Zk9 (λs'=>∃y,R y s'/\μ y<μ x) Q)) (x:α) (s:St) (h:R x s):EvI P n (.loop b) s Q:=by
 intro c hc k g a w hr;cases c<;>simp only[chkC,Zg]at hc;rename_i c1;refine Zl6 (R:=λx a w=>∃s,R x s/\∃g,Rel k n g s a w) μ (λx a w h=>?_) x a w ⟨s,h,g,hr⟩;obtain⟨s,hx,g,hr⟩:=h;refine wpIn_mono (round x s hx c1 hc k g a w hr) ?_;rintro e a' w' ⟨s',g',h1,h2⟩;cases e with
 |normal=>
  obtain⟨y,hy,h0⟩:=h2;exact⟨y,⟨s',hy,g',h1⟩,h0⟩
 |_=>exact⟨s',g',h1,h2⟩
end
end Go.Eng

namespace Go.Eng
open Go Go.RowKit Go.WideShapes Go.ChangeShapes
def Zld.run {P:Program}{f:Nat}{args:List AV}{r:AV}(h:Zld P f args r)(ok0:Addr->Prop)(w:World)(vs:List Value)
  (hv:VRL (cx (k0 ok0 [] [] w) ⟨[],noB⟩ [] w) args vs):
  Calls P f vs.toArray w λe w'=>∃v,e=.returned v/\Below w.heap.size w w'/\VR (cx (k0 ok0 [] [] w) ⟨[],noB⟩ [] w') r v:=by
 obtain⟨_,_,hc⟩:=h;have h0:HR (k0 ok0 [] [] w) [] [] w:=
  {heap:=λid o e=>by simp at e
   len:=rfl
   inj:=λi j b e=>by simp at e
   own:=λi b e=>by simp at e
   keep:=Keep.refl _ _}
 refine(hc.2.2 ok0 [] w vs h0 hv).mono ?_;rintro e w' ⟨v,ρ',rfl,h1,h2,_⟩;have hρ:ρ'=[]:=List.eq_nil_of_length_eq_zero h1.len;subst hρ;refine⟨v,rfl,⟨h1.keep.os,h1.keep.tape,h1.keep.output,h1.keep.size,λk hk=>h1.keep.block k hk (λ⟨id,e⟩=>by simp at e)⟩,h2⟩
def Zld.run_bool {P:Program}{f:Nat}{args:List AV}{b:Bool}(h:Zld P f args (.p (.bool b)))(ok0:Addr->Prop)(w:World)(vs:List Value)
  (hv:VRL (cx (k0 ok0 [] [] w) ⟨[],noB⟩ [] w) args vs):
  Calls P f vs.toArray w λe w'=>e=.returned (.bool b)/\Below w.heap.size w w':=by
 refine(h.run ok0 w vs hv).mono ?_;rintro e w' ⟨v,rfl,hb,hv⟩;exact⟨by rw[VR,PR]at hv;rw[hv],hb⟩
def post_of_below {H:Type}{enc:TypeId×Value->H}{P:Program}{f:Func}{s:ChangeSpec}{apart fresh h0 again:Bool}{W W':World}{args:Array Value}{v:Value}{ds gs:List (DataW H)}{before pa pv:List MemPlace}
  (hW:DataW.Whole enc P f.params.toList s.vars apart W args.toList ds gs before)
  (h3:∀(b:Nat) (sp:Nat->Bool) (hd:Bool),DataW.TrodAll enc P W' b sp hd f.resultTypes.toList (v.resultList f.resultTypes.size) (s.fn H (ds++gs)).results [])
  (h2:∀sp:Nat->Bool,(∀p∈before,sp p.block=true)->DataW.TrodAll enc P W' 0 sp true f.params.toList args.toList (s.fn H (ds++gs)).args pa)
  (h1:∀sp:Nat->Bool,(∀p∈before,sp p.block=true)->DataW.TrodVars enc P W' sp s.vars (s.fn H (ds++gs)).vars pv)
  (h4:before=pa++pv) (hb:Below W.heap.size W W')
  (h7:∀(j:Nat) (t:TypeId) (r:Value),f.resultTypes[j]?=some t->(v.resultList f.resultTypes.size)[j]?=some r->Value.okWide P W' .any 0 t r):
  s.post enc P f apart fresh h0 again W args v W':=by
 have h5:∀p∈before,p.block<W.heap.size:=λp hp=>hW.lt p hp
 have hold:∀p∈before,(λb=>decide (b<W.heap.size)) p.block=true:=λp hp=>by simpa using h5 p hp
 refine⟨ds,gs,before,[],pa,pv,hW,h3 _ _ _,h2 _ hold,h1 _ hold,World.keptBut_mono (λp hp=>⟨hp,?_⟩) (hb.frame (· ∈before)),λ_=>?_⟩
 ·rw[h4,List.mem_append]at hp;exact Or.inr hp
 obtain⟨_,_,_,_,_,hz,hn⟩:=hW;refine⟨h7,_,_,([]++pa)++pv,⟨[]++pa,pv,trodAll_append (h2 _ (λ_ _=>rfl)) (h3 _ _ _),h1 _ (λ_ _=>rfl),rfl,?_,?_⟩,?_⟩
 ·intro b off hp;have h6:MemPlace.cell b off∈before:=by rw[h4];simpa using hp
  rw[hb.frozen (h5 _ h6)];exact hz b off h6
 ·intro ha;have:=hn ha;rw[h4]at this;simpa using this
 intro p hp _;rw[h4];simpa using hp
end Go.Eng

