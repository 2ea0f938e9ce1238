/- Part of the proof. -/
import Derived.Test.YtddgnfnfojoljaaProofChecksE10
import Derived.ScopeJumps
import Derived.RangeFuncLeaves
import Derived.Below
import Derived.Carry
import Derived.ChangeSame
set_option linter.all false
namespace Go.Eng
open Go
structure Eqv (s t:St):Prop where
 fr:∀ x,get s.fr x=get t.fr x
 bx:∀ x,bget s.bx x=bget t.bx x
 H:s.H=t.H
theorem Eqv.refl (s:St):Eqv s s:=⟨λ_=>rfl,λ_=>rfl,rfl⟩
theorem Eqv.symm {s t:St}(h:Eqv s t):Eqv t s:=⟨λx=>(h.fr x).symm,λx=>(h.bx x).symm,h.H.symm⟩
theorem Eqv.trans {s t u:St}(h:Eqv s t)(h':Eqv t u):Eqv s u:=⟨λx=>(h.fr x).trans (h'.fr x),λx=>(h.bx x).trans (h'.bx x),h.H.trans h'.H⟩
theorem Rel.eqv {k:K0}{n:Nat}{g:G}{s t:St}{a:Act}{w:World}(h:Rel k n g s a w)(e:Eqv s t):Rel k n g t a w:=by
 obtain ⟨fr,bx,H⟩:=s
 obtain ⟨fr',bx',H'⟩:=t
 obtain ⟨e1,e2,e3⟩:=e
 simp only at e1 e2 e3
 subst e3
 exact { h with
  slots:=λx=>by rw [← e1];exact h.slots x
  tops:=λx=>by rw [← e1];exact h.tops x
  boxes:=λt cs e=>h.boxes t cs (by rw [e2];exact e)
  boxed:=λt b e=>let ⟨⟨cs,hc⟩,hb⟩:=h.boxed t b e; ⟨⟨cs,by rw [← e2];exact hc⟩,hb⟩ }
def ixT:IX->List Nat
 | .t n=>[n]
 | .k _=>[]
def ixK:IX->Bool
 | .t _=>true
 | .k v=>ZaF v
def Zcu:Ins->List IX
 | .val _ _ xs=>xs
 | .load _ x _ _=>[x]
 | .loadL _ x _ _=>[x]
 | .loadH _ x _ _=>[x]
 | .loadI _ x _ _=>[x]
 | .appN _ x y _ _=>[x,y]
 | .store x y _=>[x,y]
 | .storeH x y _=>[x,y]
 | .newL .. => []
 | .boxL _ x=>[x]
 | .newH .. => []
 | .boxH _ x=>[x]
 | .mkSl _ x y _ _=>[x,y]
 | .app _ x y _ _=>[x,y]
 | .litSl _ _ xs=>xs
 | .litP _ _ xs=>xs
 | .mkC .. => []
 | .call _ _ xs=>xs
 | .callP _ _ xs=>xs
 | .callQ _ _ xs=>xs
 | .callV _ x xs=>x::xs
 | .callY _ x xs=>x::xs
 | .sp _ _ xs=>xs
def ZaZ (i:Ins):List Nat:=(Zcu i).flatMap ixT
def Zbz (o:IOp):List Nat:=(match o.g with
 | some (t,_)=>[t]
 | none=>[])++ZaZ o.i
def Zax:Ins->Nat
 | .val .. | .callP .. | .litP .. | .mkC .. | .loadI .. => 0
 | .load .. | .callQ .. => 1
 | .loadL .. => 4
 | .newL .. | .boxL .. => 3
 | .store .. => 2
 | .newH .. | .boxH .. | .litSl .. | .mkSl .. | .appN .. => 6
 | .loadH .. => 7
 | _=>5
def Znv (a b:Nat):Bool:=match a,b with
 | 0,0|0,1|1,0|1,1|0,2|2,0=>true
 | 3,0|3,1|3,2|0,3|1,3|2,3|3,3=>true
 | 4,0|0,4|4,1|1,4|4,4|4,5|5,4|0,5|5,0|3,4|4,3|3,5|5,3=>true
 | 6,0|0,6|1,6|6,4|4,6|6,3|3,6=>true
 | 7,0|0,7|7,1|1,7|7,7|3,7|7,3|7,4|4,7|7,6=>true
 | _,_=>false
def ZlK (x y:IOp):Bool:=((Zax x.i==2&&Zax y.i==4)||(Zax x.i==4&&Zax y.i==2))&&(match x.bn,y.bn with
 | some a,some b=>decide (a≠b)
 | _,_=>false)
def Znz (x y:IOp):Bool:=(Zax x.i==2&&x.bn.isSome&&Zax y.i==7)||(Zax x.i==7&&Zax y.i==2&&y.bn.isSome)
def ZeI (k:Nat):Prop:=k=0∨k=1∨k=4∨k=7
def Zi6 (d:Option Nat)(l:List Nat):Bool:=match d with
 | some d => !l.elem d
 | none=>true
def ZmH (x y:IOp):Bool :=
 (Znv (Zax x.i) (Zax y.i)||ZlK x y||Znz x y)&&Zi6 (dstI x.i) (Zbz y)&&Zi6 (dstI y.i) (Zbz x)&&(match dstI x.i,dstI y.i with
  | some d,some e=>decide (d≠e)
  | _,_=>true)
def ZgO (d:Nat)(fr:List (Nat×AV)):Prop:=∀ u o,u≠d->get fr u≠.loc d o
def ZeZ (fr:List (Nat×AV))(l:List Nat)(q:Nat):Prop:=∃ x∈l,∃ o,get fr x=.loc q o
def ZdH (bx:List (Nat×List AV)):Option (Nat×List AV)->List (Nat×List AV)
 | none=>bx
 | some (q,b)=>bput bx q b
structure Zy5 (P:Program) (o:IOp) (s s':St) (v:AV) (bw:Option (Nat×List AV)) (H':List HO):Prop where
 out:s'=⟨putO s.fr (dstI o.i) v,ZdH s.bx bw,H'⟩
 again:∀ t:St,(∀ x∈Zbz o,get t.fr x=get s.fr x)->(∀ q,ZeZ s.fr (Zbz o) q->bget t.bx q=bget s.bx q)->t.H=s.H->AOp P o t ⟨putO t.fr (dstI o.i) v,ZdH t.bx bw,H'⟩
 quiet:ZeI (Zax o.i)->bw=none/\H'=s.H
 boxed:Zax o.i=5∨Zax o.i=6->bw=none
 more6:Zax o.i=6->∃ e,H'=s.H++e
 heap7:Zax o.i=7->∀ t:St,(∀ x∈Zbz o,get t.fr x=get s.fr x)->t.H=s.H->AOp P o t ⟨putO t.fr (dstI o.i) v,t.bx,t.H⟩
 grow1:Zax o.i=1∨Zax o.i=7->∀ (t:St) (e:List HO),(∀ x∈Zbz o,get t.fr x=get s.fr x)->(∀ q,ZeZ s.fr (Zbz o) q->bget t.bx q=bget s.bx q)->t.H=s.H++e->AOp P o t ⟨putO t.fr (dstI o.i) v,t.bx,t.H⟩
 bnW:Zax o.i=2->∀ b,o.bn=some b->H'=s.H/\∀ q,q≠b->bget (ZdH s.bx bw) q=bget s.bx q
 bnR:Zax o.i=4->∀ b,o.bn=some b->∀ t:St,(∀ x∈Zbz o,get t.fr x=get s.fr x)->bget t.bx b=bget s.bx b->AOp P o t ⟨putO t.fr (dstI o.i) v,t.bx,t.H⟩
 local4:Zax o.i=4->∀ t:St,(∀ x∈Zbz o,get t.fr x=get s.fr x)->(∀ q,ZeZ s.fr (Zbz o) q->bget t.bx q=bget s.bx q)->AOp P o t ⟨putO t.fr (dstI o.i) v,t.bx,t.H⟩
 blind:Zax o.i=0->∀ t:St,(∀ x∈Zbz o,get t.fr x=get s.fr x)->AOp P o t ⟨putO t.fr (dstI o.i) v,t.bx,t.H⟩
 named:∀ q b,bw=some (q,b)->ZeZ s.fr (Zbz o) q
 src:∀ d off,v=.loc d off->ZeZ s.fr (Zbz o) d
theorem Zbx {fr fr':List (Nat×AV)}{x:IX}(h:∀ t∈ixT x,get fr' t=get fr t):ev fr' x=ev fr x:=by
 cases x with
 | t n=>exact h n (by simp [ixT])
 | k v=>rfl
theorem Zdx {fr fr':List (Nat×AV)}{xs:List IX}(h:∀ t∈xs.flatMap ixT,get fr' t=get fr t):xs.map (ev fr')=xs.map (ev fr):=by
 apply List.map_congr_left
 intro x hx
 exact Zbx λt ht=>h t (List.mem_flatMap.2 ⟨x,hx,ht⟩)
theorem Zn0 {bx:List (Nat×List AV)}{H:List HO}{cs:List AV}{x:AV}{m:Mem}(hx:ZkS x=false)(h:wrt bx H cs x=some m):m.bx=bx/\∀ bx',wrt bx' H cs x=some ⟨bx',m.H⟩:=by
 cases x with
 | loc t o=>simp [ZkS] at hx
 | ptr id off =>
  simp only [wrt] at h ⊢
  split at h
  ·rename_i b hb
   cases hs:Zbm off cs b with
   | none=>simp [hs] at h
   | some b' =>
    simp only [hs,ZR,ZS] at h
    subst h
    exact ⟨rfl,λbx'=>by simp⟩
  cases h
 | optr sz id ver i off =>
  simp only [wrt] at h ⊢
  split at h
  ·rename_i sz' ver' rows hb
   split at h
   ·rename_i hc
    simp only [hc,and_self,ZZ]
    cases hr:rows[i]? with
    | none=>simp [hr] at h
    | some r =>
     simp only [hr,ZQ] at h ⊢
     cases hu:unP cs with
     | none=>simp [hu] at h
     | some ps =>
      simp only [hu,ZQ] at h ⊢
      cases hs:Zbm off ps r with
      | none=>simp [hs] at h
      | some r' =>
       simp only [hs,ZR,ZS] at h ⊢
       subst h
       exact ⟨rfl,λbx'=>rfl⟩
   cases h
  cases h
 | _=>simp [wrt] at h
theorem Zom {fr:List (Nat×AV)}{x:IX}(hk:ixK x=true){d o:Nat}(h:ev fr x=.loc d o):∃ t∈ixT x,get fr t=.loc d o:=by
 cases x with
 | t n=>exact ⟨n,by simp [ixT],h⟩
 | k v=>simp only [ev] at h;subst h;simp [ixK,ZaF] at hk
theorem Zjj {o:Nat}{x:AV}{d off:Nat}(h:Zg7 o x=some (.loc d off)):∃ o',x=.loc d o':=by
 unfold Zg7 at h
 split at h<;>simp_all
theorem ZoE {b:Bool}{cs:List AV}{d off:Nat}(h:mk b cs=some (.loc d off)) : .loc d off∈cs:=by
 unfold mk at h
 split at h
 ·simp at h
 split at h
 ·simp only [ZS] at h;simp [h]
 cases h
theorem Zm2 {α:Type}{off n:Nat}{l r:List α}(h:sub off n l=some r){x:α}(hx:x∈r):x∈l:=by
 obtain ⟨_,rfl⟩:=ZeH h
 exact List.mem_of_mem_drop (List.mem_of_mem_take hx)
theorem Zmr {sz:Nat}{lo hi mx:Bool}{x:AV}{vs:List AV}{d off:Nat}(h:Zee sz lo hi mx x vs=some (.loc d off)):False:=by
 unfold Zee at h
 split at h
 ·cases h1:Zc1 lo 0 vs with
  | none=>simp [h1] at h
  | some p =>
   simp only [h1,ZQ] at h
   rename_i rows
   cases h2:Zc1 hi rows.length p.2 with
   | none=>simp [h2] at h
   | some q =>
    simp only [h2,ZQ] at h
    cases h3:Zc1 mx q.1 q.2 with
    | none=>simp [h3] at h
    | some r =>
     simp only [h3,ZQ] at h
     split at h<;>simp at h
 ·cases h1:Zc1 lo 0 vs with
  | none=>simp [h1] at h
  | some p =>
   simp only [h1,ZQ] at h
   rename_i len
   cases h2:Zc1 hi len p.2 with
   | none=>simp [h2] at h
   | some q =>
    simp only [h2,ZQ] at h
    split at h
    ·simp at h
    split at h<;>simp at h
 cases h
def ZrP:AV->Prop
 | .p _ | .osl .. => True
 | .loc .. => True
 | _=>False
theorem sliceV_form' {sz:Nat}{lo hi mx:Bool}{x:AV}{vs:List AV}{r:AV}(h:Zee sz lo hi mx x vs=some r):ZrP r:=by
 unfold Zee at h
 split at h
 ·cases h1:Zc1 lo 0 vs with
  | none=>simp [h1] at h
  | some p =>
   simp only [h1,ZQ] at h
   rename_i rows
   cases h2:Zc1 hi rows.length p.2 with
   | none=>simp [h2] at h
   | some q =>
    simp only [h2,ZQ] at h
    cases h3:Zc1 mx q.1 q.2 with
    | none=>simp [h3] at h
    | some r =>
     simp only [h3,ZQ] at h
     split at h<;>simp at h
     subst h;trivial
 ·cases h1:Zc1 lo 0 vs with
  | none=>simp [h1] at h
  | some p =>
   simp only [h1,ZQ] at h
   rename_i len
   cases h2:Zc1 hi len p.2 with
   | none=>simp [h2] at h
   | some q =>
    simp only [h2,ZQ] at h
    split at h
    ·simp at h
     subst h;trivial
    split at h<;>simp at h
    subst h;trivial
 cases h
theorem Zln {sz:Nat}{lo hi mx:Bool}{x:AV}{vs:List AV}{r:AV}(h:Zee sz lo hi mx x vs=some r):ZrP r:=sliceV_form' h
theorem ZmZ {v:VI}{xs:List AV}{d off:Nat}(h:ZaA v xs=some (.loc d off))(htop:∀ x∈xs,top x=true):∃ o',AV.loc d o'∈xs:=by
 have hag:∀ cs:List AV,AV.agg cs∈xs->AV.loc d off∈cs->False:=λcs h1 h2=>by
  have:=htop _ h1
  have h3:noLocL cs=true:=by simpa [top,ZaF] using this
  have:=Za9.1 h3 _ h2
  simp [ZaF] at this
 have htu:∀ cs:List AV,AV.tup cs∈xs->AV.loc d off∈cs->False:=λcs h1 h2=>by
  have:=htop _ h1
  have h3:noLocL cs=true:=by simpa [top,ZaF] using this
  have:=Za9.1 h3 _ h2
  simp [ZaF] at this
 cases v with
 | mov=>simp only [ZaA] at h;split at h<;>simp_all
 | bin op =>
  simp only [ZaA] at h
  split at h
  ·split at h
   ·rename_i k a k' b _;cases hb:binI op k a b<;>simp [hb] at h
   cases h
  cases h
 | sh op =>
  simp only [ZaA] at h
  split at h
  ·rename_i k a k' b;cases hb:shI op k a b<;>simp [hb] at h
  cases h
 | eqB neg=>simp only [ZaA] at h;split at h<;>simp_all
 | eqS neg m =>
  simp only [ZaA] at h
  split at h
  ·rename_i a b;cases hb:Zbu m a b<;>simp [hb] at h
  cases h
 | not=>simp only [ZaA] at h;split at h<;>simp_all
 | neg=>simp only [ZaA] at h;split at h<;>simp_all
 | conv k=>simp only [ZaA] at h;split at h<;>simp_all
 | pick =>
  simp only [ZaA] at h
  split at h
  ·rename_i c a b
   simp only [ZS] at h
   cases c
   ·simp at h;subst h;exact ⟨off,by simp⟩
   simp at h;subst h;exact ⟨off,by simp⟩
  cases h
 | faddr o =>
  simp only [ZaA] at h
  split at h
  ·obtain ⟨o',rfl⟩:=Zjj h;exact ⟨o',by simp⟩
  cases h
 | iaddr m sz =>
  simp only [ZaA] at h
  split at h
  ·split at h
   ·obtain ⟨o',rfl⟩:=Zjj h;exact ⟨o',by simp⟩
   cases h
  cases h
 | iaddrS sz =>
  simp only [ZaA] at h
  split at h
  ·split at h<;>simp at h
  ·split at h<;>simp at h
  ·split at h<;>simp at h
  cases h
 | idx m sz b =>
  simp only [ZaA] at h
  split at h
  ·rename_i cs k i
   split at h
   ·cases hs:sub (i.toNat*sz) sz cs with
    | none=>simp [hs] at h
    | some r =>
     simp only [hs,ZQ] at h
     exact (hag cs (by simp) (Zm2 hs (ZoE h))).elim
   cases h
  cases h
 | fld o m b =>
  simp only [ZaA] at h
  split at h
  ·rename_i cs
   cases hs:sub o m cs with
   | none=>simp [hs] at h
   | some r =>
    simp only [hs,ZQ] at h
    exact (hag cs (by simp) (Zm2 hs (ZoE h))).elim
  cases h
 | build z ps=>simp only [ZaA] at h;cases hf:Zbw z ps xs<;>simp [hf] at h
 | len=>simp only [ZaA] at h;split at h<;>simp_all
 | lenA m=>simp [ZaA] at h
 | ext i =>
  simp only [ZaA] at h
  split at h
  ·rename_i vs
   exact (htu vs (by simp) (List.mem_of_getElem? h)).elim
  cases h
 | mkfn f m=>simp only [ZaA] at h;split at h<;>simp at h
 | min=>simp only [ZaA,minI] at h;split at h<;>simp at h
 | max=>simp only [ZaA,maxI] at h;split at h<;>simp at h
 | slice sz lo hi mx =>
  simp only [ZaA] at h
  split at h
  ·exact (Zmr h).elim
  cases h
 | nilChk =>
  simp only [ZaA] at h
  split at h<;>simp_all
 | isNil neg=>simp only [ZaA] at h;split at h<;>simp at h
def viK:VI->Bool
 | .build z _=>Zan z
 | _=>true
def insK (i:Ins):Bool:=(Zcu i).all ixK&&(match i with
 | .val _ v _=>viK v
 | _=>true)
theorem Zg2:∀ {ps:List (Nat×Nat)} {cs xs out:List AV},Zbw cs ps xs=some out->Zan cs=true->Zan out=true
 | [],cs,xs,out,h,hok=>by
  cases xs with
  | nil=>simp only [Zbw,ZS] at h;subst h;exact hok
  | cons=>simp [Zbw] at h
 | (off,n)::ps,cs,xs,out,h,hok=>by
  cases xs with
  | nil=>simp [Zbw] at h
  | cons v vs =>
   simp only [Zbw] at h
   split at h
   ·rename_i hcond
    cases hs:Zbm off (cellsOf v) cs with
    | none=>simp [hs] at h
    | some cs' =>
     simp only [hs,ZQ] at h
     exact Zg2 h (ZcS hs hcond.2 hok)
   cases h
theorem ZmX {v:VI}{xs:List AV}{r:AV}(hv:viK v=true)(h:ZaA v xs=some r)(ht:∀ x∈xs,top x=true):top r=true:=by
 have hag:∀ cs:List AV,AV.agg cs∈xs->noLocL cs=true:=λcs h1=>by simpa [top,ZaF] using ht _ h1
 have htu:∀ cs:List AV,AV.tup cs∈xs->noLocL cs=true:=λcs h1=>by simpa [top,ZaF] using ht _ h1
 cases v with
 | mov=>simp only [ZaA] at h;split at h<;>simp_all
 | bin op =>
  simp only [ZaA] at h
  split at h
  ·split at h
   ·rename_i k a k' b _;cases hb:binI op k a b<;>simp [hb] at h;subst h;rfl
   cases h
  cases h
 | sh op =>
  simp only [ZaA] at h
  split at h
  ·rename_i k a k' b;cases hb:shI op k a b<;>simp [hb] at h;subst h;rfl
  cases h
 | eqB neg=>simp only [ZaA] at h;split at h<;>simp at h;subst h;rfl
 | eqS neg m =>
  simp only [ZaA] at h
  split at h
  ·rename_i a b;cases hb:Zbu m a b<;>simp [hb] at h;subst h;rfl
  cases h
 | not=>simp only [ZaA] at h;split at h<;>simp at h;subst h;rfl
 | neg=>simp only [ZaA] at h;split at h<;>simp at h;subst h;rfl
 | conv k=>simp only [ZaA] at h;split at h<;>simp at h;subst h;rfl
 | pick =>
  simp only [ZaA] at h
  split at h
  ·rename_i c a b
   simp only [ZS] at h
   subst h
   cases c<;>exact ht _ (by simp)
  cases h
 | faddr o =>
  simp only [ZaA] at h
  split at h
  ·exact Zfx h
  cases h
 | iaddr m sz =>
  simp only [ZaA] at h
  split at h
  ·split at h
   ·exact Zfx h
   cases h
  cases h
 | iaddrS sz =>
  simp only [ZaA] at h
  split at h
  ·split at h<;>simp at h;subst h;rfl
  ·split at h<;>simp at h;subst h;rfl
  ·split at h<;>simp at h;subst h;rfl
  cases h
 | idx m sz b =>
  simp only [ZaA] at h
  split at h
  ·rename_i cs k i
   split at h
   ·cases hs:sub (i.toNat*sz) sz cs with
    | none=>simp [hs] at h
    | some r' =>
     simp only [hs,ZQ] at h
     exact Zao (Zgc h (ZdW (hag cs (by simp)) hs))
   cases h
  cases h
 | fld o m b =>
  simp only [ZaA] at h
  split at h
  ·rename_i cs
   cases hs:sub o m cs with
   | none=>simp [hs] at h
   | some r' =>
    simp only [hs,ZQ] at h
    exact Zao (Zgc h (ZdW (hag cs (by simp)) hs))
  cases h
 | build z ps =>
  simp only [ZaA] at h
  cases hf:Zbw z ps xs with
  | none=>simp [hf] at h
  | some out =>
   simp only [hf,ZR,ZS] at h
   subst h
   simpa [top,ZaF] using Zar (Zg2 hf (by simpa [viK] using hv))
 | len=>simp only [ZaA] at h;split at h<;>simp at h<;>(subst h;rfl)
 | lenA m=>simp [ZaA] at h;subst h;rfl
 | ext i =>
  simp only [ZaA] at h
  split at h
  ·rename_i vs
   exact Zao (Za9.1 (htu vs (by simp)) r (List.mem_of_getElem? h))
  cases h
 | mkfn f m =>
  simp only [ZaA] at h
  split at h
  ·rename_i hn
   simp only [ZS] at h
   subst h
   simp only [top,ZaF,Ze]
   rw [Za9] at hn
   exact ⟨Za9.2 λx hx=>hn x (List.mem_of_mem_take hx),Za9.2 λx hx=>hn x (List.mem_of_mem_drop hx)⟩
  cases h
 | min=>simp only [ZaA,minI] at h;split at h<;>simp at h<;>(subst h;rfl)
 | max=>simp only [ZaA,maxI] at h;split at h<;>simp at h<;>(subst h;rfl)
 | slice sz lo hi mx =>
  simp only [ZaA] at h
  split at h
  ·cases r with
   | loc t o=>rfl
   | p x=>rfl
   | osl=>rfl
   | _=>exact (Zln h).elim
  cases h
 | nilChk =>
  simp only [ZaA] at h
  split at h<;>simp at h<;>(subst h;first|rfl|exact ht _ (by simp))
 | isNil neg=>simp only [ZaA] at h;split at h<;>simp at h<;>(subst h;rfl)
section
variable {P:Program}
def Tops (fr:List (Nat×AV)):Prop:=∀ t,top (get fr t)=true
theorem ZrR {fr:List (Nat×AV)}(h:Tops fr){x:IX}(hk:ixK x=true):top (ev fr x)=true:=by
 cases x with
 | t n=>exact h n
 | k v=>exact Zao (x:=v) hk
theorem Zfs {fr:List (Nat×AV)}{i:Ins}(hk:(Zcu i).all ixK=true){x:IX}(hx:x∈Zcu i){d o:Nat}(h:ev fr x=.loc d o):ZeZ fr (ZaZ i) d:=by
 obtain ⟨t,h1,h2⟩:=Zom (List.all_eq_true.1 hk x hx) h
 exact ⟨t,List.mem_flatMap.2 ⟨x,hx,h1⟩,o,h2⟩
theorem Zlr {bx bx':List (Nat×List AV)}{H:List HO}{n:Nat}{x:AV}(h:∀ t o,x=.loc t o->bget bx' t=bget bx t):rd bx' H n x=rd bx H n x:=by
 cases x with
 | loc t o=>simp only [rd,h t o rfl]
 | _=>rfl
theorem ZnZ {bx:List (Nat×List AV)}{H:List HO}{cs:List AV}{x:AV}{m:Mem}(h:wrt bx H cs x=some m) :
  ∃ bw,m.bx=ZdH bx bw/\(∀ q b,bw=some (q,b)->∃ o,x=.loc q o)/\∀ bx',(∀ t o,x=.loc t o->bget bx' t=bget bx t)->wrt bx' H cs x=some ⟨ZdH bx' bw,m.H⟩:=by
 unfold wrt at h
 split at h
 ·rename_i t off
  cases hb:bget bx t with
  | none=>simp [hb] at h
  | some b =>
   simp only [hb,ZQ] at h
   cases hs:Zbm off cs b with
   | none=>simp [hs] at h
   | some b' =>
    simp only [hs,ZR,ZS] at h
    subst h
    refine ⟨some (t,b'),rfl,λq b e=>?_,λbx' hb'=>?_⟩
    ·simp only [ZS,ZT] at e;exact ⟨off,by rw [e.1]⟩
    simp only [wrt,hb' t off rfl,hb,ZQ,hs,ZR];rfl
 ·rename_i id off
  split at h
  ·rename_i b hH
   cases hs:Zbm off cs b with
   | none=>simp [hs] at h
   | some b' =>
    simp only [hs,ZR,ZS] at h
    subst h
    exact ⟨none,rfl,λq b e=>(by cases e),λbx' _=>by simp only [wrt,hH,hs,ZR];rfl⟩
  cases h
 ·rename_i sz id ver i off
  split at h
  ·rename_i sz' ver' rows hH
   split at h
   ·rename_i hcond
    cases hi:rows[i]? with
    | none=>simp [hi] at h
    | some r =>
     simp only [hi,ZQ] at h
     cases hu:unP cs with
     | none=>simp [hu] at h
     | some ps =>
      simp only [hu,ZQ] at h
      cases hs:Zbm off ps r with
      | none=>simp [hs] at h
      | some r' =>
       simp only [hs,ZR,ZS] at h
       subst h
       refine ⟨none,rfl,λq b e=>(by cases e),λbx' _=>?_⟩
       simp only [wrt,hH,hcond,and_self,ZZ,hi,ZQ,hu,hs,ZR];rfl
   cases h
  cases h
 cases h
theorem Zkh {i:Ins}{s s':St}(h:Zap P i s s')(hk:Zax i≠3)(hKi:insK i=true)(hT:Tops s.fr) :
  ∃ v bw H',s'=⟨putO s.fr (dstI i) v,ZdH s.bx bw,H'⟩ ∧
   (∀ t:St,(∀ x∈ZaZ i,get t.fr x=get s.fr x)->(∀ q,ZeZ s.fr (ZaZ i) q->bget t.bx q=bget s.bx q)->t.H=s.H->Zap P i t ⟨putO t.fr (dstI i) v,ZdH t.bx bw,H'⟩) ∧
   (ZeI (Zax i)->bw=none/\H'=s.H)/\(Zax i=5∨Zax i=6->bw=none) ∧
   (Zax i=4->∀ t:St,(∀ x∈ZaZ i,get t.fr x=get s.fr x)->(∀ q,ZeZ s.fr (ZaZ i) q->bget t.bx q=bget s.bx q)->Zap P i t ⟨putO t.fr (dstI i) v,t.bx,t.H⟩) ∧
   (Zax i=0->∀ t:St,(∀ x∈ZaZ i,get t.fr x=get s.fr x)->Zap P i t ⟨putO t.fr (dstI i) v,t.bx,t.H⟩) ∧
   (∀ q b,bw=some (q,b)->ZeZ s.fr (ZaZ i) q) ∧
   (∀ d off,v=.loc d off->ZeZ s.fr (ZaZ i) d)/\top v=true:=by
 have hK:(Zcu i).all ixK=true:=by simp only [insK,Ze] at hKi;exact hKi.1
 cases i with
 | val d v xs =>
  simp only [Zap,ZaG] at h
  cases hv:ZaA v (xs.map (ev s.fr)) with
  | none=>simp [hv] at h
  | some r =>
   simp only [hv,ZR,ZS] at h
   subst h
   have key:∀ t:St,(∀ x∈ZaZ (.val d v xs),get t.fr x=get s.fr x)->Zap P (.val d v xs) t ⟨put t.fr d r,t.bx,t.H⟩:=λt ht=>by
    simp only [Zap,ZaG]
    rw [Zdx (xs:=xs) ht,hv]
    rfl
   have htops:∀ x∈xs.map (ev s.fr),top x=true:=λx hx=>by
    obtain ⟨y,hy,rfl⟩:=List.mem_map.1 hx
    exact ZrR hT (List.all_eq_true.1 hK y hy)
   refine ⟨r,none,s.H,rfl,λt ht _ e2=>(by have:=key t ht;rw [e2] at this;exact this),λ_=>⟨rfl,rfl⟩,λ_=>rfl,λh=>(by simp [Zax] at h),λ_=>key,λq b e=>(by cases e),λdd off e=>?_,ZmX (by simp only [insK,Ze] at hKi;exact hKi.2) hv htops⟩
   subst e
   obtain ⟨o',ho⟩:=ZmZ hv htops
   obtain ⟨y,hy,hy2⟩:=List.mem_map.1 ho
   exact Zfs (i:=.val d v xs) hK hy hy2
 | litP d sz xs =>
  simp only [Zap,ZaG] at h
  cases hv:ZhI sz (xs.map (ev s.fr)) with
  | none=>simp [hv] at h
  | some r =>
   simp only [hv,ZR,ZS] at h
   subst h
   have key:∀ t:St,(∀ x∈ZaZ (.litP d sz xs),get t.fr x=get s.fr x)->Zap P (.litP d sz xs) t ⟨put t.fr d (.p (.sl sz true r)),t.bx,t.H⟩:=λt ht=>by
    simp only [Zap,ZaG]
    rw [Zdx (xs:=xs) ht,hv]
    rfl
   exact ⟨_,none,s.H,rfl,λt ht _ e2=>(by have:=key t ht;rw [e2] at this;exact this),λ_=>⟨rfl,rfl⟩,λ_=>rfl,λh=>(by simp [Zax] at h),λ_=>key,λq b e=>(by cases e),λdd off e=>(by cases e),rfl⟩
 | mkC d m zero bytes =>
  simp only [Zap,ZaG] at h
  split at h
  ·rename_i hv
   simp only [ZS] at h
   subst h
   have key:∀ t:St,(∀ x∈ZaZ (.mkC d m zero bytes),get t.fr x=get s.fr x)->Zap P (.mkC d m zero bytes) t ⟨put t.fr d (.p (.sl zero.length false (List.replicate m zero))),t.bx,t.H⟩:=λt ht=>by
    simp only [Zap,ZaG]
    rw [ZY hv]
   exact ⟨_,none,s.H,rfl,λt ht _ e2=>(by have:=key t ht;rw [e2] at this;exact this),λ_=>⟨rfl,rfl⟩,λ_=>rfl,λh=>(by simp [Zax] at h),λ_=>key,λq b e=>(by cases e),λdd off e=>(by cases e),rfl⟩
  cases h
 | callP d f xs =>
  simp only [Zap] at h
  obtain ⟨r,h2,rfl⟩:=h
  have key:∀ t:St,(∀ x∈ZaZ (.callP d f xs),get t.fr x=get s.fr x)->Zap P (.callP d f xs) t ⟨put t.fr d r,t.bx,t.H⟩:=λt ht=>by
   simp only [Zap]
   rw [Zdx (xs:=xs) ht]
   exact ⟨r,h2,rfl⟩
  have hno:=h2.2.2.2.1
  exact ⟨r,none,s.H,rfl,λt ht _ e2=>(by have:=key t ht;rw [e2] at this;exact this),λ_=>⟨rfl,rfl⟩,λ_=>rfl,λh=>(by simp [Zax] at h),λ_=>key,λq b e=>(by cases e),λdd off e=>(by subst e;simp [ZaF] at hno),Zao hno⟩
 | callQ d f xs =>
  simp only [Zap] at h
  obtain ⟨args,r,h1,h2,rfl⟩:=h
  have hno:=h2.2.2.2.1
  refine ⟨r,none,s.H,rfl,λt ht _ e2=>?_,λ_=>⟨rfl,rfl⟩,λ_=>rfl,λh=>(by simp [Zax] at h),λh=>(by simp [Zax] at h),λq b e=>(by cases e),λdd off e=>(by subst e;simp [ZaF] at hno),Zao hno⟩
  simp only [Zap]
  rw [Zdx (xs:=xs) ht,e2]
  exact ⟨args,r,h1,h2,rfl⟩
 | load d x m b =>
  simp only [Zap,ZaG] at h
  cases hr:rd s.bx s.H m (ev s.fr x) with
  | none=>simp [hr] at h
  | some cs =>
   simp only [hr,ZQ] at h
   split at h
   rotate_left
   ·cases h
   rename_i hok
   cases hmk:mk b cs with
   | none=>simp [hmk] at h
   | some r =>
    simp only [hmk,ZR,ZS] at h
    subst h
    have hno:ZaF r=true:=Zgc hmk (Zar hok)
    refine ⟨r,none,s.H,rfl,λt ht hb e2=>?_,λ_=>⟨rfl,rfl⟩,λ_=>rfl,λh=>(by simp [Zax] at h),λh=>(by simp [Zax] at h),λq b e=>(by cases e),λdd off e=>(by subst e;simp [ZaF] at hno),Zao hno⟩
    simp only [Zap,ZaG]
    rw [Zbx (x:=x) (λq hq=>ht q (by simp [ZaZ,Zcu,hq])),e2,Zlr (λq o e=>hb q (Zfs (i:=.load d x m b) hK (by simp [Zcu]) e)),hr]
    simp only [ZQ,hok,ZZ,hmk,ZR]
    rfl
 | loadI d x m b =>
  simp only [Zap,ZaG] at h
  split at h
  rotate_left
  ·cases h
  rename_i sz rows i off hx
  cases hr:rd [] [] m (.ppt sz rows i off) with
  | none=>simp [hr] at h
  | some cs =>
   simp only [hr,ZQ] at h
   split at h
   rotate_left
   ·cases h
   rename_i hok
   cases hmk:mk b cs with
   | none=>simp [hmk] at h
   | some r =>
    simp only [hmk,ZR,ZS] at h
    subst h
    have hno:ZaF r=true:=Zgc hmk (Zar hok)
    have key:∀ t:St,(∀ z∈ZaZ (.loadI d x m b),get t.fr z=get s.fr z)->Zap P (.loadI d x m b) t ⟨put t.fr d r,t.bx,t.H⟩:=λt ht=>by
     simp only [Zap,ZaG]
     rw [Zbx (x:=x) (λq hq=>ht q (by simp [ZaZ,Zcu,hq])),hx]
     simp only [hr,ZQ,hok,ZZ,hmk,ZR]
    exact ⟨r,none,s.H,rfl,λt ht _ e2=>(by have:=key t ht;rw [e2] at this;exact this),λ_=>⟨rfl,rfl⟩,λ_=>rfl,λh=>(by simp [Zax] at h),λ_=>key,λq b e=>(by cases e),λdd off e=>(by subst e;simp [ZaF] at hno),Zao hno⟩
 | loadH d x m b =>
  simp only [Zap,ZaG] at h
  split at h
  ·cases h
  rename_i hl
  cases hr:rd [] s.H m (ev s.fr x) with
  | none=>simp [hr] at h
  | some cs =>
   simp only [hr,ZQ] at h
   split at h
   rotate_left
   ·cases h
   rename_i hok
   cases hmk:mk b cs with
   | none=>simp [hmk] at h
   | some r =>
    simp only [hmk,ZR,ZS] at h
    subst h
    have hno:ZaF r=true:=Zgc hmk (Zar hok)
    refine ⟨r,none,s.H,rfl,λt ht hb e2=>?_,λ_=>⟨rfl,rfl⟩,λ_=>rfl,λh=>(by simp [Zax] at h),λh=>(by simp [Zax] at h),λq b e=>(by cases e),λdd off e=>(by subst e;simp [ZaF] at hno),Zao hno⟩
    simp only [Zap,ZaG]
    rw [Zbx (x:=x) (λq hq=>ht q (by simp [ZaZ,Zcu,hq])),ZX hl,e2,hr]
    simp only [ZQ,hok,ZZ,hmk,ZR]
    rfl
 | appN d x y z b =>
  simp only [Zap,ZaG] at h
  split at h
  rotate_left
  ·cases h
  rename_i a0 b0 hx
  by_cases hsr:Zg9 (ev s.fr y)=true
  case neg=>rw [ZX hsr] at h;cases h
  rw [ZY hsr] at h
  cases hr:Zdl s.H z (ev s.fr y) with
  | none=>simp [hr] at h
  | some new =>
   simp only [hr,ZQ] at h
   cases ha:appV s.H z b (.p (.sl a0 true b0)) new with
   | none=>simp [ha] at h
   | some p =>
    obtain ⟨v,H2⟩:=p
    simp only [ha,ZR,ZS] at h
    subst h
    have hno:ZaF v=true:=by
     unfold appV at ha
     simp only at ha
     split at ha
     ·split at ha
      ·simp only [ZS,ZT] at ha
       rw [← ha.1];rfl
      simp only [ZS,ZT] at ha
      rw [← ha.1];rfl
     cases ha
    refine ⟨v,none,H2,rfl,λt ht _ e2=>?_,λh=>(by simp [Zax,ZeI] at h),λ_=>rfl,λh=>(by simp [Zax] at h),λh=>(by simp [Zax] at h),λq b e=>(by cases e),λdd off e=>(by subst e;simp [ZaF] at hno),Zao hno⟩
    simp only [Zap,ZaG]
    rw [Zbx (x:=y) (λq hq=>ht q (by simp [ZaZ,Zcu,hq])),Zbx (x:=x) (λq hq=>ht q (by simp [ZaZ,Zcu,hq])),e2,hx]
    simp only [hsr,ZZ,hr,ZQ,ha,ZR]
    rfl
 | loadL d x m b =>
  simp only [Zap,ZaG] at h
  split at h
  ·rename_i tt off hev
   cases hr:rd s.bx [] m (.loc tt off) with
   | none=>simp [hr] at h
   | some cs =>
    simp only [hr,ZQ] at h
    split at h
    rotate_left
    ·cases h
    rename_i hok
    cases hmk:mk b cs with
    | none=>simp [hmk] at h
    | some r =>
     simp only [hmk,ZR,ZS] at h
     subst h
     have hno:ZaF r=true:=Zgc hmk (Zar hok)
     have key:∀ t:St,(∀ z∈ZaZ (.loadL d x m b),get t.fr z=get s.fr z)->(∀ q,ZeZ s.fr (ZaZ (.loadL d x m b)) q->bget t.bx q=bget s.bx q)->Zap P (.loadL d x m b) t ⟨put t.fr d r,t.bx,t.H⟩:=λt ht hb=>by
      simp only [Zap,ZaG]
      rw [Zbx (x:=x) (λq hq=>ht q (by simp [ZaZ,Zcu,hq])),hev]
      simp only
      rw [Zlr (bx:=s.bx) (λq o e=>hb q (Zfs (i:=.loadL d x m b) hK (x:=x) (by simp [Zcu]) (by rw [hev,e]))),hr]
      simp only [ZQ,hok,ZZ,hmk,ZR]
     exact ⟨r,none,s.H,rfl,λt ht hb e2=>(by have:=key t ht hb;rw [e2] at this;exact this),λ_=>⟨rfl,rfl⟩,λh=>(by simp [Zax] at h),λ_=>key,λh=>(by simp [Zax] at h),λq b e=>(by cases e),λdd off e=>(by subst e;simp [ZaF] at hno),Zao hno⟩
  cases h
 | store x y m =>
  simp only [Zap,ZaG] at h
  split at h
  ·rename_i hcond
   cases hw:wrt s.bx s.H (cellsOf (ev s.fr y)) (ev s.fr x) with
   | none=>simp [hw] at h
   | some mm =>
    simp only [hw,ZR,ZS] at h
    subst h
    obtain ⟨bw,w1,w2,w3⟩:=ZnZ hw
    refine ⟨.any,bw,mm.H,by rw [w1];rfl,λt ht hb e2=>?_,λh=>(by simp [Zax,ZeI] at h),λh=>(by simp [Zax] at h),λh=>(by simp [Zax] at h),λh=>(by simp [Zax] at h),λq b e=>?_,λdd off e=>(by cases e),rfl⟩
    ·simp only [Zap,ZaG]
     rw [Zbx (x:=y) (λq hq=>ht q (by simp [ZaZ,Zcu,hq])),Zbx (x:=x) (λq hq=>ht q (by simp [ZaZ,Zcu,hq])),ZY hcond,e2,w3 t.bx (λq o e=>hb q (Zfs (i:=.store x y m) hK (by simp [Zcu]) e))]
     rfl
    obtain ⟨o,ho⟩:=w2 q b e
    exact Zfs (i:=.store x y m) hK (by simp [Zcu]) ho
  cases h
 | storeH x y m =>
  simp only [Zap,ZaG] at h
  split at h
  ·rename_i hcond
   cases hw:wrt s.bx s.H (cellsOf (ev s.fr y)) (ev s.fr x) with
   | none=>simp [hw] at h
   | some mm =>
    simp only [hw,ZR,ZS] at h
    subst h
    obtain ⟨w1,w2⟩:=Zn0 hcond.1 hw
    refine ⟨.any,none,mm.H,by rw [w1];rfl,λt ht hb e2=>?_,λh=>(by simp [Zax,ZeI] at h),λ_=>rfl,λh=>(by simp [Zax] at h),λh=>(by simp [Zax] at h),λq b e=>(by cases e),λdd off e=>(by cases e),rfl⟩
    simp only [Zap,ZaG]
    rw [Zbx (x:=y) (λq hq=>ht q (by simp [ZaZ,Zcu,hq])),Zbx (x:=x) (λq hq=>ht q (by simp [ZaZ,Zcu,hq])),ZY hcond,e2,w2 t.bx]
    rfl
  cases h
 | newL=>simp [Zax] at hk
 | boxL=>simp [Zax] at hk
 | newH d z =>
  simp only [Zap,ZaG,ZS] at h
  subst h
  refine ⟨_,none,_,rfl,λt ht _ e2=>?_,λh=>(by simp [Zax,ZeI] at h),λ_=>rfl,λh=>(by simp [Zax] at h),λh=>(by simp [Zax] at h),λq b e=>(by cases e),λdd off e=>(by cases e),rfl⟩
  simp only [Zap,ZaG,e2]
  rfl
 | boxH d x =>
  simp only [Zap,ZaG] at h
  split at h
  ·rename_i hcond
   simp only [ZS] at h
   subst h
   refine ⟨_,none,_,rfl,λt ht _ e2=>?_,λh=>(by simp [Zax,ZeI] at h),λ_=>rfl,λh=>(by simp [Zax] at h),λh=>(by simp [Zax] at h),λq b e=>(by cases e),λdd off e=>(by cases e),rfl⟩
   simp only [Zap,ZaG]
   rw [Zbx (x:=x) (λq hq=>ht q (by simp [ZaZ,Zcu,hq])),ZY hcond,e2]
   rfl
  cases h
 | mkSl d x y z b =>
  simp only [Zap,ZaG] at h
  split at h
  ·rename_i m c hx hy
   split at h
   ·rename_i hcond
    simp only [ZS] at h
    subst h
    refine ⟨_,none,_,rfl,λt ht _ e2=>?_,λh=>(by simp [Zax,ZeI] at h),λ_=>rfl,λh=>(by simp [Zax] at h),λh=>(by simp [Zax] at h),λq b e=>(by cases e),λdd off e=>(by cases e),rfl⟩
    simp only [Zap,ZaG]
    rw [Zbx (x:=y) (λq hq=>ht q (by simp [ZaZ,Zcu,hq])),Zbx (x:=x) (λq hq=>ht q (by simp [ZaZ,Zcu,hq])),hx,hy]
    simp only [hcond,and_self,ZZ,e2]
    rfl
   cases h
  cases h
 | app d x y z b =>
  simp only [Zap,ZaG] at h
  by_cases hsr:Zg9 (ev s.fr y)=true
  case neg=>rw [ZX hsr] at h;cases h
  rw [ZY hsr] at h
  cases hr:Zdl s.H z (ev s.fr y) with
  | none=>simp [hr] at h
  | some new =>
   simp only [hr,ZQ] at h
   cases ha:appV s.H z b (ev s.fr x) new with
   | none=>simp [ha] at h
   | some p =>
    obtain ⟨v,H2⟩:=p
    simp only [ha,ZR,ZS] at h
    subst h
    have hno:ZaF v=true:=by
     unfold appV at ha
     split at ha
     ·split at ha
      ·split at ha
       ·rename_i hev _ _
        simp only [ZS,ZT] at ha
        rw [← ha.1,hev];rfl
       simp only [ZS,ZT] at ha
       rw [← ha.1];rfl
      cases ha
     ·split at ha
      ·split at ha
       ·simp only [ZS,ZT] at ha
        rw [← ha.1];rfl
       cases ha
      cases ha
     cases ha
    refine ⟨v,none,H2,rfl,λt ht _ e2=>?_,λh=>(by simp [Zax,ZeI] at h),λ_=>rfl,λh=>(by simp [Zax] at h),λh=>(by simp [Zax] at h),λq b e=>(by cases e),λdd off e=>(by subst e;simp [ZaF] at hno),Zao hno⟩
    simp only [Zap,ZaG]
    rw [Zbx (x:=y) (λq hq=>ht q (by simp [ZaZ,Zcu,hq])),Zbx (x:=x) (λq hq=>ht q (by simp [ZaZ,Zcu,hq])),e2,hr]
    simp only [hsr,ZZ,ZQ,ha,ZR]
    rfl
 | litSl d sz xs =>
  simp only [Zap,ZaG] at h
  cases hv:ZhI sz (xs.map (ev s.fr)) with
  | none=>simp [hv] at h
  | some r =>
   simp only [hv,ZR,ZS] at h
   subst h
   refine ⟨_,none,_,rfl,λt ht _ e2=>?_,λh=>(by simp [Zax,ZeI] at h),λ_=>rfl,λh=>(by simp [Zax] at h),λh=>(by simp [Zax] at h),λq b e=>(by cases e),λdd off e=>(by cases e),rfl⟩
   simp only [Zap,ZaG]
   rw [Zdx (xs:=xs) ht,hv,e2]
   rfl
 | call d f xs =>
  simp only [Zap] at h
  obtain ⟨args,H1,r,H2,h1,h2,rfl⟩:=h
  have hno:=h2.2.1
  refine ⟨r,none,H2,rfl,λt ht _ e2=>?_,λh=>(by simp [Zax,ZeI] at h),λ_=>rfl,λh=>(by simp [Zax] at h),λh=>(by simp [Zax] at h),λq b e=>(by cases e),λdd off e=>(by subst e;simp [ZaF] at hno),Zao hno⟩
  simp only [Zap]
  rw [Zdx (xs:=xs) ht,e2]
  exact ⟨args,H1,r,H2,h1,h2,rfl⟩
 | callV d fx xs =>
  simp only [Zap] at h
  obtain ⟨f,first,cap,args,H1,r,H2,h0,h1,h2,rfl⟩:=h
  have hno:=h2.2.1
  refine ⟨r,none,H2,rfl,λt ht _ e2=>?_,λh=>(by simp [Zax,ZeI] at h),λ_=>rfl,λh=>(by simp [Zax] at h),λh=>(by simp [Zax] at h),λq b e=>(by cases e),λdd off e=>(by subst e;simp [ZaF] at hno),Zao hno⟩
  simp only [Zap]
  rw [Zbx (x:=fx) (λq hq=>ht q (by simp [ZaZ,Zcu,hq])),Zdx (xs:=xs) (λq hq=>ht q (by simp only [ZaZ,Zcu,List.flatMap_cons,List.mem_append];exact .inr hq)),e2]
  exact ⟨f,first,cap,args,H1,r,H2,h0,h1,h2,rfl⟩
 | sp d q xs =>
  simp only [Zap] at h
  obtain ⟨v,H2,h1,rfl⟩:=h
  have hno:=h1.1
  refine ⟨v,none,H2,rfl,λt ht _ e2=>?_,λh=>(by simp [Zax,ZeI] at h),λ_=>rfl,λh=>(by simp [Zax] at h),λh=>(by simp [Zax] at h),λq b e=>(by cases e),λdd off e=>(by subst e;simp [ZaF] at hno),Zao hno⟩
  simp only [Zap]
  rw [Zdx (xs:=xs) ht,e2]
  exact ⟨v,H2,h1,rfl⟩
 | callY d fx xs =>
  simp only [Zap] at h
  obtain ⟨id,args,H1,b,H2,h0,h1,h2,rfl⟩:=h
  have hno:ZaF (.p (.bool b))=true:=rfl
  refine ⟨.p (.bool b),none,H2,rfl,λt ht _ e2=>?_,λh=>(by simp [Zax,ZeI] at h),λ_=>rfl,λh=>(by simp [Zax] at h),λh=>(by simp [Zax] at h),λq b e=>(by cases e),λdd off e=>(by cases e),Zao hno⟩
  simp only [Zap]
  rw [Zbx (x:=fx) (λq hq=>ht q (by simp [ZaZ,Zcu,hq])),Zdx (xs:=xs) (λq hq=>ht q (by simp only [ZaZ,Zcu,List.flatMap_cons,List.mem_append];exact .inr hq)),e2]
  exact ⟨id,args,H1,b,H2,h0,h1,h2,rfl⟩
def ioK (o:IOp):Bool:=insK o.i
theorem ZeZ.mono {fr:List (Nat×AV)}{l l':List Nat}(h:∀ x∈l,x∈l'){q:Nat}(hn:ZeZ fr l q):ZeZ fr l' q:=by
 obtain ⟨x,h1,h2⟩:=hn
 exact ⟨x,h x h1,h2⟩
theorem Ziw {o:IOp}{fr fr':List (Nat×AV)}(h:∀ x∈ZaZ o.i,get fr' x=get fr x):bnOK o fr'=bnOK o fr:=by
 unfold bnOK
 cases o.bn with
 | none=>rfl
 | some b =>
  simp only
  cases hx:adrI o.i with
  | none=>rfl
  | some x =>
   simp only
   rw [Zbx (x:=x) (λq hq=>h q ?_)]
   unfold adrI at hx
   unfold ZaZ
   split at hx<;>simp_all [Zcu]
theorem Zpc {i:Ins}{s s':St}(h:Zap P i s s')(hk:Zax i=6):∃ e,s'.H=s.H++e:=by
 cases i with
 | newH d z=>simp only [Zap,ZaG,ZS] at h;subst h;exact ⟨_,rfl⟩
 | boxH d x =>
  simp only [Zap,ZaG] at h
  split at h
  ·simp only [ZS] at h;subst h;exact ⟨_,rfl⟩
  cases h
 | litSl d sz xs =>
  simp only [Zap,ZaG] at h
  cases hv:ZhI sz (xs.map (ev s.fr)) with
  | none=>simp [hv] at h
  | some r=>simp only [hv,ZR,ZS] at h;subst h;exact ⟨_,rfl⟩
 | mkSl d x y z b =>
  simp only [Zap,ZaG] at h
  split at h
  ·split at h
   ·simp only [ZS] at h;subst h;exact ⟨_,rfl⟩
   cases h
  cases h
 | appN d x y z b =>
  simp only [Zap,ZaG] at h
  split at h
  rotate_left
  ·cases h
  rename_i a0 b0 hx
  by_cases hsr:Zg9 (ev s.fr y)=true
  case neg=>rw [ZX hsr] at h;cases h
  rw [ZY hsr] at h
  cases hr:Zdl s.H z (ev s.fr y) with
  | none=>simp [hr] at h
  | some new =>
   simp only [hr,ZQ] at h
   cases ha:appV s.H z b (.p (.sl a0 true b0)) new with
   | none=>simp [ha] at h
   | some p =>
    obtain ⟨v,H2⟩:=p
    simp only [ha,ZR,ZS] at h
    subst h
    unfold appV at ha
    simp only at ha
    split at ha
    ·split at ha
     ·simp only [ZS,ZT] at ha;exact ⟨[],by rw [← ha.2];simp⟩
     simp only [ZS,ZT] at ha;exact ⟨_,by rw [← ha.2]⟩
    cases ha
 | _=>simp [Zax] at hk
theorem Znf {bx:List (Nat×List AV)}{H e:List HO}{n:Nat}{x:AV}{cs:List AV}(h:rd bx H n x=some cs):rd bx (H++e) n x=some cs:=by
 have key:∀ (id:Nat) o,H[id]?=some o->(H++e)[id]?=some o:=λid o ho=>by rw [Zr (List.getElem?_eq_some_iff.1 ho).1];exact ho
 unfold rd at h ⊢
 split at h
 ·exact h
 ·rename_i id off
  cases hH:H[id]? with
  | none=>simp [hH] at h
  | some o=>rw [hH] at h;simp only [key id o hH];exact h
 ·rename_i sz id ver i off
  cases hH:H[id]? with
  | none=>simp [hH] at h
  | some o=>rw [hH] at h;simp only [key id o hH];exact h
 ·exact h
 cases h
theorem ZhS {fr:List (Nat×AV)}{d:Nat}{a b:AV}(h:put fr d a=put fr d b):a=b:=by
 have h1:get (put fr d a) d=get (put fr d b) d:=by rw [h]
 rw [ZaV,ZaV,ZY rfl,ZY rfl] at h1
 exact h1
theorem ZkP {i:Ins}{s s':St}(h:Zap P i s s')(hk:Zax i=7){v:AV}(hs:s'=⟨putO s.fr (dstI i) v,s.bx,s.H⟩)(t:St)(ht:∀ x∈ZaZ i,get t.fr x=get s.fr x)(hH:t.H=s.H) :
  Zap P i t ⟨putO t.fr (dstI i) v,t.bx,t.H⟩:=by
 cases i with
 | loadH d x m b =>
  simp only [Zap,ZaG] at h
  split at h
  ·cases h
  rename_i hl
  cases hr:rd [] s.H m (ev s.fr x) with
  | none=>simp [hr] at h
  | some cs =>
   simp only [hr,ZQ] at h
   split at h
   rotate_left
   ·cases h
   rename_i hok
   cases hmk:mk b cs with
   | none=>simp [hmk] at h
   | some r =>
    simp only [hmk,ZR,ZS] at h
    subst hs
    simp only [dstI,putO,St.mk.injEq,ZU] at h
    obtain rfl:=ZhS h
    simp only [Zap,ZaG,dstI,putO]
    rw [Zbx (x:=x) (λq hq=>ht q (by simp [ZaZ,Zcu,hq])),ZX hl,hH,hr]
    simp only [ZQ,hok,ZZ,hmk,ZR]
 | _=>simp [Zax] at hk
theorem ZkQ {i:Ins}{s s':St}(h:Zap P i s s')(hk:Zax i=1∨Zax i=7)(hKi:insK i=true){v:AV}(hs:s'=⟨putO s.fr (dstI i) v,s.bx,s.H⟩)(t:St)(e:List HO)(ht:∀ x∈ZaZ i,get t.fr x=get s.fr x)(hb:∀ q,ZeZ s.fr (ZaZ i) q->bget t.bx q=bget s.bx q)(hH:t.H=s.H++e) :
  Zap P i t ⟨putO t.fr (dstI i) v,t.bx,t.H⟩:=by
 have hK:(Zcu i).all ixK=true:=by simp only [insK,Ze] at hKi;exact hKi.1
 cases i with
 | load d x m b =>
  simp only [Zap,ZaG] at h
  cases hr:rd s.bx s.H m (ev s.fr x) with
  | none=>simp [hr] at h
  | some cs =>
   simp only [hr,ZQ] at h
   split at h
   rotate_left
   ·cases h
   rename_i hok
   cases hmk:mk b cs with
   | none=>simp [hmk] at h
   | some r =>
    simp only [hmk,ZR,ZS] at h
    subst hs
    simp only [dstI,putO,St.mk.injEq,ZU] at h
    obtain rfl:=ZhS h
    simp only [Zap,ZaG,dstI,putO]
    rw [Zbx (x:=x) (λq hq=>ht q (by simp [ZaZ,Zcu,hq])),Zlr (λq o e=>hb q (Zfs (i:=.load d x m b) hK (by simp [Zcu]) e)),hH,Znf hr]
    simp only [ZQ,hok,ZZ,hmk,ZR]
 | loadH d x m b =>
  simp only [Zap,ZaG] at h
  split at h
  ·cases h
  rename_i hl
  cases hr:rd [] s.H m (ev s.fr x) with
  | none=>simp [hr] at h
  | some cs =>
   simp only [hr,ZQ] at h
   split at h
   rotate_left
   ·cases h
   rename_i hok
   cases hmk:mk b cs with
   | none=>simp [hmk] at h
   | some r =>
    simp only [hmk,ZR,ZS] at h
    subst hs
    simp only [dstI,putO,St.mk.injEq,ZU] at h
    obtain rfl:=ZhS h
    simp only [Zap,ZaG,dstI,putO]
    rw [Zbx (x:=x) (λq hq=>ht q (by simp [ZaZ,Zcu,hq])),ZX hl,hH,Znf hr]
    simp only [ZQ,hok,ZZ,hmk,ZR]
 | callQ d f xs =>
  simp only [Zap] at h
  obtain ⟨args,r,h1,h2,e1⟩:=h
  subst hs
  simp only [dstI,putO,St.mk.injEq,ZU] at e1
  obtain rfl:=ZhS e1
  simp only [Zap,dstI,putO]
  rw [Zdx (xs:=xs) ht,hH]
  exact ⟨args,_,h1.grow,h2,rfl⟩
 | _=>simp [Zax] at hk
theorem Zhw {o:IOp}{fr:List (Nat×AV)}{b:Nat}(h:bnOK o fr=true)(hb:o.bn=some b):∃ x off,adrI o.i=some x/\ev fr x=.loc b off:=by
 unfold bnOK at h
 rw [hb] at h
 simp only at h
 split at h
 ·rename_i x hx
  split at h
  ·rename_i t off he
   have:=eq_of_beq h
   subst this
   exact ⟨x,off,hx,he⟩
  cases h
 cases h
theorem Zkg {i:Ins}{s s':St}(h:Zap P i s s')(hk:Zax i=2){x:IX}{b off:Nat}(hx:adrI i=some x)(he:ev s.fr x=.loc b off):s'.H=s.H/\∀ q,q≠b->bget s'.bx q=bget s.bx q:=by
 cases i with
 | store x' y m =>
  simp only [adrI,ZS] at hx
  subst hx
  simp only [Zap,ZaG] at h
  split at h
  ·cases hw:wrt s.bx s.H (cellsOf (ev s.fr y)) (ev s.fr x') with
   | none=>simp [hw] at h
   | some mm =>
    simp only [hw,ZR,ZS] at h
    subst h
    rw [he] at hw
    simp only [wrt] at hw
    cases hg:bget s.bx b with
    | none=>simp [hg] at hw
    | some c =>
     simp only [hg,ZQ] at hw
     cases hsp:Zbm off (cellsOf (ev s.fr y)) c with
     | none=>simp [hsp] at hw
     | some c' =>
      simp only [hsp,ZR,ZS] at hw
      subst hw
      exact ⟨rfl,λq hq=>by simp only [ZbE];rw [ZX (Ne.symm hq)]⟩
  cases h
 | _=>simp [Zax] at hk
theorem Zl7 {i:Ins}{s s':St}(h:Zap P i s s')(hk:Zax i=4){v:AV}(hs:s'=⟨putO s.fr (dstI i) v,s.bx,s.H⟩){x:IX}{b off:Nat}(hx:adrI i=some x)(he:ev s.fr x=.loc b off)(t:St)(ht:∀ x∈ZaZ i,get t.fr x=get s.fr x)(hb:bget t.bx b=bget s.bx b) :
  Zap P i t ⟨putO t.fr (dstI i) v,t.bx,t.H⟩:=by
 cases i with
 | loadL d x' m bb =>
  simp only [adrI,ZS] at hx
  subst hx
  simp only [Zap,ZaG,he] at h
  cases hr:rd s.bx [] m (.loc b off) with
  | none=>simp [hr] at h
  | some cs =>
   simp only [hr,ZQ] at h
   split at h
   rotate_left
   ·cases h
   rename_i hok
   cases hmk:mk bb cs with
   | none=>simp [hmk] at h
   | some r =>
    simp only [hmk,ZR,ZS] at h
    subst hs
    simp only [dstI,putO,St.mk.injEq,ZU] at h
    obtain rfl:=ZhS h
    have hr':rd t.bx [] m (.loc b off)=some cs:=by simp only [rd] at hr ⊢;rw [hb];exact hr
    simp only [Zap,ZaG,dstI,putO]
    rw [Zbx (x:=x') (λq hq=>ht q (by simp [ZaZ,Zcu,hq])),he]
    simp only [hr',ZQ,hok,ZZ,hmk,ZR]
 | _=>simp [Zax] at hk
theorem ZfS {o:IOp}{s s':St}(h:AOp P o s s')(hk:Zax o.i≠3)(hK:ioK o=true)(hT:Tops s.fr):∃ v bw H',Zy5 P o s s' v bw H'/\top v=true:=by
 have hro:∀ x,x∈ZaZ o.i->x∈Zbz o:=λx hx=>by simp [Zbz,hx]
 unfold AOp at h
 split at h
 ·rename_i hg
  obtain ⟨hbn,h⟩:=h
  obtain ⟨v,bw,H',h1,h2,h3,h3b,h3c,h4,h5,h6,h7⟩:=Zkh h hk hK hT
  have hbs:∀ t:St,(∀ x∈Zbz o,get t.fr x=get s.fr x)->bnOK o t.fr=true:=λt ht=>by rw [Ziw (λx hx=>ht x (hro x hx))];exact hbn
  have hquiet:ZeI (Zax o.i)->s'=⟨putO s.fr (dstI o.i) v,s.bx,s.H⟩:=λhst=>by obtain ⟨rfl,rfl⟩:=h3 hst;exact h1
  refine ⟨v,bw,H',⟨h1,λt ht hb e2=>?_,h3,h3b,λhz=>?_,λhz t ht e2=>?_,λhz t e ht hb e2=>?_,λhz b hb=>?_,λhz b hb t ht e=>?_,λhz t ht hb=>?_,λhz t ht=>?_,λq b e=>(h5 q b e).mono hro,λd off e=>(h6 d off e).mono hro⟩,h7⟩
  ·unfold AOp;rw [hg];exact ⟨hbs t ht,h2 t (λx hx=>ht x (hro x hx)) (λq hq=>hb q (hq.mono hro)) e2⟩
  ·obtain ⟨e,he⟩:=Zpc h hz;exact ⟨e,by rw [h1] at he;exact he⟩
  ·unfold AOp;rw [hg];exact ⟨hbs t ht,ZkP h hz (hquiet (.inr (.inr (.inr hz)))) t (λx hx=>ht x (hro x hx)) e2⟩
  ·unfold AOp;rw [hg];exact ⟨hbs t ht,ZkQ h hz hK (hquiet (hz.elim (λh=>.inr (.inl h)) (λh=>.inr (.inr (.inr h))))) t e (λx hx=>ht x (hro x hx)) (λq hq=>hb q (hq.mono hro)) e2⟩
  ·obtain ⟨x,off,hx,he⟩:=Zhw hbn hb
   have:=Zkg h hz hx he
   rw [h1] at this
   exact this
  ·obtain ⟨x,off,hx,he⟩:=Zhw hbn hb
   unfold AOp;rw [hg];exact ⟨hbs t ht,Zl7 h hz (hquiet (.inr (.inr (.inl hz)))) hx he t (λx hx=>ht x (hro x hx)) e⟩
  ·unfold AOp;rw [hg];exact ⟨hbs t ht,h3c hz t (λx hx=>ht x (hro x hx)) (λq hq=>hb q (hq.mono hro))⟩
  unfold AOp;rw [hg];exact ⟨hbs t ht,h4 hz t (λx hx=>ht x (hro x hx))⟩
 rename_i tg want hg
 have hrg:tg∈Zbz o:=by simp [Zbz,hg]
 split at h
 ·rename_i b hget
  split at h
  ·rename_i hb
   obtain ⟨hbn,h⟩:=h
   obtain ⟨v,bw,H',h1,h2,h3,h3b,h3c,h4,h5,h6,h7⟩:=Zkh h hk hK hT
   have hbs:∀ t:St,(∀ x∈Zbz o,get t.fr x=get s.fr x)->bnOK o t.fr=true:=λt ht=>by rw [Ziw (λx hx=>ht x (hro x hx))];exact hbn
   have hquiet:ZeI (Zax o.i)->s'=⟨putO s.fr (dstI o.i) v,s.bx,s.H⟩:=λhst=>by obtain ⟨rfl,rfl⟩:=h3 hst;exact h1
   refine ⟨v,bw,H',⟨h1,λt ht hb' e2=>?_,h3,h3b,λhz=>?_,λhz t ht e2=>?_,λhz t e ht hb' e2=>?_,λhz b' hb'=>?_,λhz b' hb' t ht e=>?_,λhz t ht hb'=>?_,λhz t ht=>?_,λq b e=>(h5 q b e).mono hro,λd off e=>(h6 d off e).mono hro⟩,h7⟩
   ·unfold AOp;rw [hg];simp only;rw [ht tg hrg,hget];simp only;rw [ZY hb];exact ⟨hbs t ht,h2 t (λx hx=>ht x (hro x hx)) (λq hq=>hb' q (hq.mono hro)) e2⟩
   ·obtain ⟨e,he⟩:=Zpc h hz;exact ⟨e,by rw [h1] at he;exact he⟩
   ·unfold AOp;rw [hg];simp only;rw [ht tg hrg,hget];simp only;rw [ZY hb];exact ⟨hbs t ht,ZkP h hz (hquiet (.inr (.inr (.inr hz)))) t (λx hx=>ht x (hro x hx)) e2⟩
   ·unfold AOp;rw [hg];simp only;rw [ht tg hrg,hget];simp only;rw [ZY hb];exact ⟨hbs t ht,ZkQ h hz hK (hquiet (hz.elim (λh=>.inr (.inl h)) (λh=>.inr (.inr (.inr h))))) t e (λx hx=>ht x (hro x hx)) (λq hq=>hb' q (hq.mono hro)) e2⟩
   ·obtain ⟨x,off,hx,he⟩:=Zhw hbn hb'
    have:=Zkg h hz hx he
    rw [h1] at this
    exact this
   ·obtain ⟨x,off,hx,he⟩:=Zhw hbn hb'
    unfold AOp;rw [hg];simp only;rw [ht tg hrg,hget];simp only;rw [ZY hb];exact ⟨hbs t ht,Zl7 h hz (hquiet (.inr (.inr (.inl hz)))) hx he t (λx hx=>ht x (hro x hx)) e⟩
   ·unfold AOp;rw [hg];simp only;rw [ht tg hrg,hget];simp only;rw [ZY hb];exact ⟨hbs t ht,h3c hz t (λx hx=>ht x (hro x hx)) (λq hq=>hb' q (hq.mono hro))⟩
   unfold AOp;rw [hg];simp only;rw [ht tg hrg,hget];simp only;rw [ZY hb];exact ⟨hbs t ht,h4 hz t (λx hx=>ht x (hro x hx))⟩
  rename_i hb
  subst h
  refine ⟨.nl .unit,none,s.H,⟨rfl,λt ht _ e2=>?_,λ_=>⟨rfl,rfl⟩,λ_=>rfl,λ_=>⟨[],by simp⟩,λhz t ht _=>?_,λhz t e ht _ e2=>?_,λ_ _ _=>⟨rfl,λ_ _=>rfl⟩,λhz b' hb' t ht _=>?_,λhz t ht _=>?_,λhz t ht=>?_,λq b e=>(by cases e),λd off e=>(by cases e)⟩,rfl⟩
  ·unfold AOp;rw [hg];simp only;rw [ht tg hrg,hget];simp only;rw [ZX hb,e2];rfl
  ·unfold AOp;rw [hg];simp only;rw [ht tg hrg,hget];simp only;rw [ZX hb];trivial
  ·unfold AOp;rw [hg];simp only;rw [ht tg hrg,hget];simp only;rw [ZX hb];trivial
  ·unfold AOp;rw [hg];simp only;rw [ht tg hrg,hget];simp only;rw [ZX hb];trivial
  ·unfold AOp;rw [hg];simp only;rw [ht tg hrg,hget];simp only;rw [ZX hb];trivial
  unfold AOp;rw [hg];simp only;rw [ht tg hrg,hget];simp only;rw [ZX hb];trivial
 ·rename_i hget
  subst h
  refine ⟨.nl .unit,none,s.H,⟨rfl,λt ht _ e2=>?_,λ_=>⟨rfl,rfl⟩,λ_=>rfl,λ_=>⟨[],by simp⟩,λhz t ht _=>?_,λhz t e ht _ e2=>?_,λ_ _ _=>⟨rfl,λ_ _=>rfl⟩,λhz b' hb' t ht _=>?_,λhz t ht _=>?_,λhz t ht=>?_,λq b e=>(by cases e),λd off e=>(by cases e)⟩,rfl⟩
  ·unfold AOp;rw [hg];simp only;rw [ht tg hrg,hget];simp only;rw [e2];rfl
  ·unfold AOp;rw [hg];simp only;rw [ht tg hrg,hget];trivial
  ·unfold AOp;rw [hg];simp only;rw [ht tg hrg,hget];trivial
  ·unfold AOp;rw [hg];simp only;rw [ht tg hrg,hget];trivial
  ·unfold AOp;rw [hg];simp only;rw [ht tg hrg,hget];trivial
  unfold AOp;rw [hg];simp only;rw [ht tg hrg,hget];trivial
 exact h.elim
def newD:Ins->Option Nat
 | .newL d _ | .boxL d _=>some d
 | _=>none
theorem Zfr {o:IOp}{s s':St}(hg:o.g=none){d:Nat}(hd:newD o.i=some d)(h:AOp P o s s') :
  dstI o.i=some d/\∃ cs,s'=⟨put (ZdJ d s.fr) d (.loc d 0),bput s.bx d cs,s.H⟩ ∧
   ∀ t:St,(∀ x∈Zbz o,get t.fr x=get s.fr x)->AOp P o t ⟨put (ZdJ d t.fr) d (.loc d 0),bput t.bx d cs,t.H⟩:=by
 unfold AOp at h
 rw [hg] at h
 obtain ⟨hbn,h⟩:=h
 have hbs:∀ t:St,(∀ x∈Zbz o,get t.fr x=get s.fr x)->bnOK o t.fr=true:=λt ht=>by rw [Ziw (λx hx=>ht x (by simp [Zbz,hx]))];exact hbn
 obtain ⟨g,i,pre,bn⟩:=o
 simp only at hg h hd
 subst hg
 cases i<;>simp only [newD,ZS,reduceCtorEq] at hd
 ·rename_i d' z
  subst hd
  simp only [Zap,ZaG,ZS] at h
  exact ⟨rfl,z,h.symm,λt ht=>⟨hbs t ht,rfl⟩⟩
 rename_i d' x
 subst hd
 simp only [Zap,ZaG] at h
 split at h
 ·rename_i hcond
  simp only [ZS] at h
  refine ⟨rfl,_,h.symm,λt ht=>?_⟩
  have e:ev t.fr x=ev s.fr x:=Zbx λq hq=>ht q (by simp [Zbz,ZaZ,Zcu,hq])
  refine ⟨hbs t ht,?_⟩
  show Zap P (.boxL d' x) t _
  simp only [Zap,ZaG,e,ZY hcond]
 cases h
theorem Zog {i:Ins}{d:Nat}(h:newD i=some d):dstI i=some d:=by
 cases i<;>simp_all [newD,dstI]
theorem Zi3 {i:Ins}(h:Zax i=3):∃ d,newD i=some d:=by
 cases i<;>simp_all [Zax,newD]
theorem Zcy {d:Nat}{fr:List (Nat×AV)}(h:ZgO d fr){u:Nat}(hu:u≠d):get (ZdJ d fr) u=get fr u:=by
 rw [Zcz]
 split
 ·rename_i t' o e
  split
  ·rename_i ht;subst ht;exact absurd e (h u o hu)
  exact e.symm
 rfl
theorem Zhu {fr:List (Nat×AV)}{d:Option Nat}{v:AV}{l:List Nat}(h:Zi6 d l=true):∀ x∈l,get (putO fr d v) x=get fr x:=by
 intro x hx
 cases d with
 | none=>rfl
 | some d =>
  simp only [putO,ZaV]
  rw [ZX]
  rintro rfl
  simp only [Zi6,Zg,List.elem_eq_mem,decide_eq_false_iff_not] at h
  exact h hx
theorem Zcc {fr:List (Nat×AV)}{d e:Option Nat}{v u:AV}(h:(match d,e with|some d,some e=>decide (d≠e)|_,_=>true)=true)(x:Nat) :
  get (putO (putO fr d v) e u) x=get (putO (putO fr e u) d v) x:=by
 cases d with
 | none=>rfl
 | some d =>
  cases e with
  | none=>rfl
  | some e =>
   simp only [ZV] at h
   simp only [putO,ZaV]
   by_cases h1:e=x<;>by_cases h2:d=x
   ·exact absurd (h2.trans h1.symm) h
   ·simp [h1,h2]
   ·simp [h1,h2]
   simp [h1,h2]
theorem ZmP {bx bx':List (Nat×List AV)}{bw:Option (Nat×List AV)}(h:∀ x,bget bx x=bget bx' x)(x:Nat):bget (ZdH bx bw) x=bget (ZdH bx' bw) x:=by
 cases bw with
 | none=>exact h x
 | some p=>obtain ⟨q,b⟩:=p;simp only [ZdH,ZbE,h x]
theorem ZiA {bx:List (Nat×List AV)}{bw:Option (Nat×List AV)}{d:Nat}{cs:List AV}(h:∀ q b,bw=some (q,b)->q≠d)(x:Nat):bget (ZdH (bput bx d cs) bw) x=bget (bput (ZdH bx bw) d cs) x:=by
 cases bw with
 | none=>rfl
 | some p =>
  obtain ⟨q,b⟩:=p
  have:=h q b rfl
  simp only [ZdH,ZbE]
  by_cases h1:q=x<;>by_cases h2:d=x
  ·exact absurd (h1.trans h2.symm) this
  ·simp [h1,h2]
  ·simp [h1,h2]
  simp [h1,h2]
theorem Zeo {d:Nat}{l:List Nat}(h:Zi6 (some d) l=true):d ∉ l:=by
 simpa [Zi6] using h
theorem ZjX {fr:List (Nat×AV)}{l:List Nat}{d q:Nat}(hc:ZgO d fr)(hd:d ∉ l)(h:ZeZ fr l q):q≠d:=by
 rintro rfl
 obtain ⟨x,h1,o,h2⟩:=h
 exact hc x o (λe=>hd (e ▸ h1)) h2
theorem Zii {fr:List (Nat×AV)}{e:Option Nat}{v:AV}{u:Nat}(h:e≠some u):get (putO fr e v) u=get fr u:=by
 cases e with
 | none=>rfl
 | some e=>simp only [putO,ZaV];rw [ZX (λh'=>h (by rw [h']))]
theorem Tops.putO {fr:List (Nat×AV)}(h:Tops fr){e:Option Nat}{v:AV}(hv:top v=true):Tops (putO fr e v):=by
 intro t
 cases e with
 | none=>exact h t
 | some e =>
  simp only [Eng.putO,ZaV]
  split
  ·exact hv
  exact h t
theorem Tops.new {fr:List (Nat×AV)}(h:Tops fr)(d:Nat):Tops (put (ZdJ d fr) d (.loc d 0)):=by
 intro t
 simp only [ZaV,Zcz]
 split
 ·rfl
 have ht:=h t
 generalize get fr t=x at ht
 cases x with
 | loc t' o=>simp only;split<;>rfl
 | _=>simpa using ht
theorem AOp.tops {o:IOp}{s s':St}(h:AOp P o s s')(hg:Zax o.i=3->o.g=none)(hK:ioK o=true)(hT:Tops s.fr):Tops s'.fr:=by
 by_cases hk:Zax o.i=3
 ·obtain ⟨d,hd⟩:=Zi3 hk
  obtain ⟨_,cs,e,_⟩:=Zfr (hg hk) hd h
  rw [e]
  exact hT.new d
 obtain ⟨v,bw,H',sh,hv⟩:=ZfS h hk hK hT
 rw [sh.out]
 exact hT.putO hv
theorem swap {x y:IOp}(hi:ZmH x y=true)(hgx:Zax x.i=3->x.g=none)(hgy:Zax y.i=3->y.g=none)(hKx:ioK x=true)(hKy:ioK y=true){s s1 s2:St}(hT:Tops s.fr)
  (hcx:∀ d,newD x.i=some d->ZgO d s.fr) (hcy:∀ d,newD y.i=some d->ZgO d s.fr)
  (h1:AOp P x s s1) (h2:AOp P y s1 s2):∃ t1 t2,AOp P y s t1/\AOp P x t1 t2/\Eqv t2 s2:=by
 have hT1:Tops s1.fr:=h1.tops hgx hKx hT
 simp only [ZmH,Ze] at hi
 obtain ⟨⟨⟨hk,hf1⟩,hf2⟩,hd⟩:=hi
 by_cases hx3:Zax x.i=3
 ·obtain ⟨d,hnd⟩:=Zi3 hx3
  have hcl:=hcx d hnd
  obtain ⟨hdx,cs,e1,again1⟩:=Zfr (hgx hx3) hnd h1
  rw [hdx] at hf1 hd
  have hdy:=Zeo hf1
  by_cases hky:Zax y.i=3
  ·obtain ⟨e,hne⟩:=Zi3 hky
   have hcle:=hcy e hne
   obtain ⟨hdy',cs',e2,again2⟩:=Zfr (hgy hky) hne h2
   rw [hdy'] at hf2 hd
   have hex:=Zeo hf2
   simp only [ZV] at hd
   subst e1 e2
   have a1:=again2 s (λq hq=>by
    have hnq:d≠q:=λe=>hdy (e ▸ hq)
    simp only [ZaV]
    rw [ZX hnq,Zcy hcl (Ne.symm hnq)])
   have a2:=again1 ⟨put (ZdJ e s.fr) e (.loc e 0),bput s.bx e cs',s.H⟩ (λq hq=>by
    have hnq:e≠q:=λh=>hex (h ▸ hq)
    simp only [ZaV]
    rw [ZX hnq,Zcy hcle (Ne.symm hnq)])
   refine ⟨_,_,a1,a2,λq=>?_,λq=>?_,rfl⟩
   ·have hget:∀ (a b:Nat),a≠b->ZgO a s.fr->ZgO b s.fr->∀ q,get (put (ZdJ a (put (ZdJ b s.fr) b (.loc b 0))) a (.loc a 0)) q=if q=a then .loc a 0 else if q=b then .loc b 0 else get s.fr q:=by
     intro a b hab ha hb q
     simp only [ZaV]
     by_cases h1:a=q
     ·subst h1;simp
     rw [ZX h1,ZX (Ne.symm h1),Zcz]
     simp only [ZaV]
     by_cases h2:b=q
     ·subst h2;simp [Ne.symm hab]
     simp only [ZX h2,ZX (Ne.symm h2)]
     rw [Zcy hb (Ne.symm h2)]
     split
     ·rename_i t' o ht
      split
      ·rename_i e;subst e;exact absurd ht (ha q o (Ne.symm h1))
      exact ht.symm
     rfl
    show get (put (ZdJ d (put (ZdJ e s.fr) e (.loc e 0))) d (.loc d 0)) q=get (put (ZdJ e (put (ZdJ d s.fr) d (.loc d 0))) e (.loc e 0)) q
    rw [hget d e hd hcl hcle,hget e d (Ne.symm hd) hcle hcl]
    by_cases h1:q=d
    ·subst h1;simp [hd]
    simp [h1]
   show bget (bput (bput s.bx e cs') d cs) q=bget (bput (bput s.bx d cs) e cs') q
   simp only [ZbE]
   by_cases h1:d=q
   ·subst h1;simp [Ne.symm hd]
   simp [h1]
  obtain ⟨v,bw,H',sy,_⟩:=ZfS h2 hky hKy hT1
  subst e1
  have hreads:∀ q∈Zbz y,get s.fr q=get (put (ZdJ d s.fr) d (.loc d 0)) q:=λq hq=>by
   have hne:d≠q:=λe=>hdy (e ▸ hq)
   rw [ZaV,ZX hne,Zcy hcl (Ne.symm hne)]
  have hnames:∀ q,ZeZ (put (ZdJ d s.fr) d (.loc d 0)) (Zbz y) q->q≠d:=λq ⟨x,hx,o,ho⟩=>by
   rw [← hreads x hx] at ho
   exact ZjX hcl hdy ⟨x,hx,o,ho⟩
  have a1:=sy.again s hreads (λq hq=>by simp only [ZbE];rw [ZX (Ne.symm (hnames q hq))]) rfl
  refine ⟨_,_,a1,again1 ⟨putO s.fr (dstI y.i) v,ZdH s.bx bw,H'⟩ (λq hq=>Zhu hf2 q hq),?_⟩
  rw [sy.out]
  have hv:∀ off,v≠.loc d off:=λoff e=>absurd rfl (hnames d (sy.src d off e))
  have hne:dstI y.i≠some d:=by
   intro e;rw [e] at hd;simp at hd
  refine ⟨λq=>?_,λq=>(ZiA (λq b e=>hnames q (sy.named q b e)) q).symm,rfl⟩
  simp only [ZaV]
  by_cases hq:d=q
  ·subst hq
   rw [ZY rfl,Zii hne,ZaV,ZY rfl]
  rw [ZX hq]
  cases hdy':dstI y.i with
  | none =>
   simp only [putO]
   rw [ZaV,ZX hq]
  | some e =>
   simp only [putO]
   rw [Zcz,ZaV,ZaV,ZaV]
   by_cases he:e=q
   ·simp only [he,ZZ]
    cases v with
    | loc t' o =>
     simp only
     rw [ZX (λe=>hv o (by rw [e]))]
    | _=>rfl
   simp only [he,ZW,ZX hq]
   rw [Zcz]
 by_cases hy3:Zax y.i=3
 ·obtain ⟨d,hnd⟩:=Zi3 hy3
  have hcl:=hcy d hnd
  obtain ⟨v,bw,H',sx,_⟩:=ZfS h1 hx3 hKx hT
  obtain ⟨hdy,cs,e2,again2⟩:=Zfr (hgy hy3) hnd h2
  rw [hdy] at hf2 hd
  have hdx:=Zeo hf2
  have e1:=sx.out
  subst e1
  subst e2
  have a1:=again2 s (λq hq=>(Zhu hf1 q hq).symm)
  have hreads:∀ q∈Zbz x,get (put (ZdJ d s.fr) d (.loc d 0)) q=get s.fr q:=λq hq=>by
   have hne:d≠q:=λe=>hdx (e ▸ hq)
   rw [ZaV,ZX hne,Zcy hcl (Ne.symm hne)]
  have hnames:∀ q,ZeZ s.fr (Zbz x) q->q≠d:=λq hq=>ZjX hcl hdx hq
  have a2:=sx.again ⟨put (ZdJ d s.fr) d (.loc d 0),bput s.bx d cs,s.H⟩ hreads (λq hq=>by simp only [ZbE];rw [ZX (Ne.symm (hnames q hq))]) rfl
  refine ⟨_,_,a1,a2,?_⟩
  have hv:∀ off,v≠.loc d off:=λoff e=>absurd rfl (hnames d (sx.src d off e))
  have hne:dstI x.i≠some d:=by
   intro e;rw [e] at hd;simp at hd
  refine ⟨λq=>?_,λq=>ZiA (λq b e=>hnames q (sx.named q b e)) q,rfl⟩
  simp only [ZaV]
  by_cases hq:d=q
  ·subst hq
   rw [ZY rfl,Zii hne,ZaV,ZY rfl]
  rw [ZX hq]
  cases hdx':dstI x.i with
  | none =>
   simp only [putO]
   rw [ZaV,ZX hq]
  | some e =>
   simp only [putO]
   rw [Zcz,ZaV,ZaV,ZaV]
   by_cases he:e=q
   ·simp only [he,ZZ]
    cases v with
    | loc t' o =>
     simp only
     rw [ZX (λe=>hv o (by rw [e]))]
    | _=>rfl
   simp only [he,ZW,ZX hq]
   rw [Zcz]
 obtain ⟨v,bw,H',sx,hvt⟩:=ZfS h1 hx3 hKx hT
 have e1:=sx.out
 subst e1
 obtain ⟨u,bw',H'',sy,_⟩:=ZfS h2 hy3 hKy hT1
 have e2:=sy.out
 subst e2
 have hsy:∀ q∈Zbz y,get s.fr q=get (putO s.fr (dstI x.i) v) q:=λq hq=>(Zhu hf1 q hq).symm
 have hsx:∀ (q:Nat),q∈Zbz x->get (putO s.fr (dstI y.i) u) q=get s.fr q:=λq hq=>Zhu hf2 q hq
 by_cases hx0:Zax x.i=0
 ·obtain ⟨rfl,rfl⟩:=sx.quiet (.inl hx0)
  refine ⟨_,_,sy.again s hsy (λq _=>rfl) rfl,sx.blind hx0 ⟨putO s.fr (dstI y.i) u,ZdH s.bx bw',H''⟩ hsx,?_⟩
  exact ⟨λq=>(Zcc hd q).symm,λ_=>rfl,rfl⟩
 by_cases hy0:Zax y.i=0
 ·obtain ⟨rfl,rfl⟩:=sy.quiet (.inl hy0)
  refine ⟨_,_,sy.blind hy0 s hsy,sx.again ⟨putO s.fr (dstI y.i) u,s.bx,s.H⟩ hsx (λ_ _=>rfl) rfl,?_⟩
  exact ⟨λq=>(Zcc hd q).symm,λ_=>rfl,rfl⟩
 have hcases:((ZeI (Zax x.i)/\ZeI (Zax y.i))∨(Zax x.i=4/\Zax y.i=5)∨(Zax x.i=5/\Zax y.i=4))∨((Zax x.i=4/\Zax y.i=6)∨(Zax x.i=6/\Zax y.i=4))∨((Zax x.i=1∨Zax x.i=7)/\Zax y.i=6)∨ZlK x y=true∨Znz x y=true:=by
  simp only [Zh] at hk
  rcases hk with (hk|hk)|hk
  ·unfold Znv at hk
   split at hk<;>simp_all [ZeI]
  ·exact .inr (.inr (.inr (.inl hk)))
  exact .inr (.inr (.inr (.inr hk)))
 rcases hcases with (⟨hx1,hy1⟩|⟨hx4,hy5⟩|⟨hx5,hy4⟩)|(⟨hx4,hy5⟩|⟨hx5,hy4⟩)|⟨hx1,hy6⟩|hbx|hhp
 ·obtain ⟨rfl,rfl⟩:=sx.quiet hx1
  obtain ⟨rfl,rfl⟩:=sy.quiet hy1
  refine ⟨_,_,sy.again s hsy (λq _=>rfl) rfl,sx.again ⟨putO s.fr (dstI y.i) u,s.bx,s.H⟩ hsx (λ_ _=>rfl) rfl,?_⟩
  exact ⟨λq=>(Zcc hd q).symm,λ_=>rfl,rfl⟩
 ·obtain ⟨rfl,rfl⟩:=sx.quiet (.inr (.inr (.inl hx4)))
  have hb:=sy.boxed (.inl hy5)
  subst hb
  refine ⟨_,_,sy.again s hsy (λq _=>rfl) rfl,sx.local4 hx4 ⟨putO s.fr (dstI y.i) u,s.bx,H''⟩ hsx (λ_ _=>rfl),?_⟩
  exact ⟨λq=>(Zcc hd q).symm,λ_=>rfl,rfl⟩
 ·have hb:=sx.boxed (.inl hx5)
  subst hb
  obtain ⟨rfl,rfl⟩:=sy.quiet (.inr (.inr (.inl hy4)))
  refine ⟨_,_,sy.local4 hy4 s hsy (λ_ _=>rfl),sx.again ⟨putO s.fr (dstI y.i) u,s.bx,s.H⟩ hsx (λ_ _=>rfl) rfl,?_⟩
  exact ⟨λq=>(Zcc hd q).symm,λ_=>rfl,rfl⟩
 ·obtain ⟨rfl,rfl⟩:=sx.quiet (.inr (.inr (.inl hx4)))
  have hb:=sy.boxed (.inr hy5)
  subst hb
  refine ⟨_,_,sy.again s hsy (λq _=>rfl) rfl,sx.local4 hx4 ⟨putO s.fr (dstI y.i) u,s.bx,H''⟩ hsx (λ_ _=>rfl),?_⟩
  exact ⟨λq=>(Zcc hd q).symm,λ_=>rfl,rfl⟩
 ·have hb:=sx.boxed (.inr hx5)
  subst hb
  obtain ⟨rfl,rfl⟩:=sy.quiet (.inr (.inr (.inl hy4)))
  refine ⟨_,_,sy.local4 hy4 s hsy (λ_ _=>rfl),sx.again ⟨putO s.fr (dstI y.i) u,s.bx,s.H⟩ hsx (λ_ _=>rfl) rfl,?_⟩
  exact ⟨λq=>(Zcc hd q).symm,λ_=>rfl,rfl⟩
 ·obtain ⟨rfl,rfl⟩:=sx.quiet (hx1.elim (λh=>.inr (.inl h)) (λh=>.inr (.inr (.inr h))))
  have hb:=sy.boxed (.inr hy6)
  subst hb
  obtain ⟨e,he⟩:=sy.more6 hy6
  refine ⟨_,_,sy.again s hsy (λq _=>rfl) rfl,sx.grow1 hx1 ⟨putO s.fr (dstI y.i) u,s.bx,H''⟩ e hsx (λ_ _=>rfl) he,?_⟩
  exact ⟨λq=>(Zcc hd q).symm,λ_=>rfl,rfl⟩
 ·simp only [ZlK,Ze,Zh,beq_iff_eq] at hbx
  obtain ⟨hkk,hbb⟩:=hbx
  split at hbb
  ·rename_i a b ha hb
   have hne:a≠b:=of_decide_eq_true hbb
   rcases hkk with ⟨hx2,hy4⟩|⟨hx4,hy2⟩
   ·obtain ⟨rfl,hw⟩:=sx.bnW hx2 a ha
    obtain ⟨rfl,rfl⟩:=sy.quiet (.inr (.inr (.inl hy4)))
    refine ⟨_,_,sy.bnR hy4 b hb s hsy (hw b (Ne.symm hne)).symm,sx.again ⟨putO s.fr (dstI y.i) u,s.bx,s.H⟩ hsx (λ_ _=>rfl) rfl,?_⟩
    exact ⟨λq=>(Zcc hd q).symm,λ_=>rfl,rfl⟩
   obtain ⟨rfl,rfl⟩:=sx.quiet (.inr (.inr (.inl hx4)))
   obtain ⟨rfl,hw⟩:=sy.bnW hy2 b hb
   refine ⟨_,_,sy.again s hsy (λq _=>rfl) rfl,sx.bnR hx4 a ha ⟨putO s.fr (dstI y.i) u,ZdH s.bx bw',s.H⟩ hsx (hw a hne),?_⟩
   exact ⟨λq=>(Zcc hd q).symm,λ_=>rfl,rfl⟩
  cases hbb
 simp only [Znz,Ze,Zh,beq_iff_eq] at hhp
 rcases hhp with ⟨⟨hx2,hbn⟩,hy7⟩|⟨⟨hx7,hy2⟩,hbn⟩
 ·obtain ⟨b,hb⟩:=Option.isSome_iff_exists.1 hbn
  obtain ⟨rfl,_⟩:=sx.bnW hx2 b hb
  obtain ⟨rfl,rfl⟩:=sy.quiet (.inr (.inr (.inr hy7)))
  refine ⟨_,_,sy.heap7 hy7 s hsy rfl,sx.again ⟨putO s.fr (dstI y.i) u,s.bx,s.H⟩ hsx (λ_ _=>rfl) rfl,?_⟩
  exact ⟨λq=>(Zcc hd q).symm,λ_=>rfl,rfl⟩
 obtain ⟨b,hb⟩:=Option.isSome_iff_exists.1 hbn
 obtain ⟨rfl,rfl⟩:=sx.quiet (.inr (.inr (.inr hx7)))
 obtain ⟨rfl,_⟩:=sy.bnW hy2 b hb
 refine ⟨_,_,sy.again s hsy (λq _=>rfl) rfl,sx.heap7 hx7 ⟨putO s.fr (dstI y.i) u,ZdH s.bx bw',s.H⟩ hsx rfl,?_⟩
 exact ⟨λq=>(Zcc hd q).symm,λ_=>rfl,rfl⟩
theorem AOp.eqv {o:IOp}{s s' t:St}(h:AOp P o s s')(hg:Zax o.i=3->o.g=none)(hK:ioK o=true)(hT:Tops s.fr)(e:Eqv s t):∃ t',AOp P o t t'/\Eqv s' t':=by
 by_cases hk:Zax o.i=3
 ·obtain ⟨d,hd⟩:=Zi3 hk
  obtain ⟨_,cs,e1,again⟩:=Zfr (hg hk) hd h
  refine ⟨_,again t (λx _=>(e.fr x).symm),?_⟩
  rw [e1]
  refine ⟨λx=>?_,λx=>?_,e.H⟩
  ·simp only [ZaV,Zcz,e.fr x]
  simp only [ZbE,e.bx x]
 obtain ⟨v,bw,H',sh,_⟩:=ZfS h hk hK hT
 refine ⟨_,sh.again t (λx _=>(e.fr x).symm) (λq _=>(e.bx q).symm) e.H.symm,?_⟩
 rw [sh.out]
 refine ⟨λx=>?_,ZmP e.bx,rfl⟩
 cases dstI o.i with
 | none=>exact e.fr x
 | some d=>simp only [putO,ZaV,e.fr x]
def ZeY (P:Program)(ios:List IOp):List Nat->St->St->Prop
 | [],s,s'=>s'=s
 | i::l,s,s'=>∃ o s1,ios[i]?=some o/\AOp P o s s1/\ZeY P ios l s1 s'
def calm (ios:List IOp):Bool:=ios.all λo=>(decide (Zax o.i≠3)||decide (o.g=none))&&ioK o
theorem Zhv {ios:List IOp}(hc:calm ios=true){i:Nat}{o:IOp}(h:ios[i]?=some o):(Zax o.i=3->o.g=none)/\ioK o=true:=by
 have:=List.all_eq_true.1 hc o (List.mem_of_getElem? h)
 simp only [Ze,Zh,ZV] at this
 exact ⟨λe=>this.1.resolve_left (λh=>h e),this.2⟩
theorem ZeY.eqv {ios:List IOp}(hc:calm ios=true):∀ (l:List Nat) {s s' t:St},ZeY P ios l s s'->Tops s.fr->Eqv s t->∃ t',ZeY P ios l t t'/\Eqv s' t'
 | [],s,s',t,h,_,e=>by simp only [ZeY] at h;subst h;exact ⟨t,rfl,e⟩
 | i::l,s,s',t,h,hT,e=>by
  simp only [ZeY] at h
  obtain ⟨o,s1,h0,h1,h2⟩:=h
  obtain ⟨hg,hK⟩:=Zhv hc h0
  obtain ⟨t1,h3,e1⟩:=h1.eqv hg hK hT e
  obtain ⟨t',h4,e2⟩:=ZeY.eqv hc l h2 (h1.tops hg hK hT) e1
  exact ⟨t',⟨o,t1,h0,h3,h4⟩,e2⟩
def Cl (ios:List IOp)(l:List Nat)(s:St):Prop:=∀ m∈l,∀ om d,ios[m]?=some om->newD om.i=some d->ZgO d s.fr
theorem AOp.clear {o:IOp}{s s':St}(h:AOp P o s s')(hg:Zax o.i=3->o.g=none)(hK:ioK o=true)(hT:Tops s.fr){d:Nat}(hc:ZgO d s.fr)(hr:d ∉ Zbz o)(hn:newD o.i≠some d):ZgO d s'.fr:=by
 by_cases hk:Zax o.i=3
 ·obtain ⟨d',hd'⟩:=Zi3 hk
  obtain ⟨_,cs,e1,_⟩:=Zfr (hg hk) hd' h
  rw [e1]
  intro u off hu e
  simp only [ZaV] at e
  split at e
  ·simp only [AV.loc.injEq] at e;exact hn (by rw [hd',e.1])
  rw [Zcz] at e
  split at e
  ·rename_i t' o' e'
   split at e
   ·cases e
   simp only [AV.loc.injEq] at e;exact hc u o' hu (by rw [e',e.1])
  exact hc u off hu e
 obtain ⟨v,bw,H',sh,_⟩:=ZfS h hk hK hT
 rw [sh.out]
 intro u off hu e
 cases hd:dstI o.i with
 | none=>rw [hd] at e;exact hc u off hu e
 | some q =>
  rw [hd] at e
  simp only [putO,ZaV] at e
  split at e
  ·exact absurd rfl (ZjX hc hr (sh.src d off e))
  exact hc u off hu e
def bef:Option (List Nat)->Nat->Nat->Bool
 | none,a,b=>decide (a<b)
 | some o,a,b=>decide (o.idxOf a<o.idxOf b)
theorem Zjg {ord:Option (List Nat)}{a b:Nat}(h:bef ord a b=true):a≠b:=by
 rintro rfl
 cases ord<;>simp [bef] at h
theorem Zot {ord:Option (List Nat)}{a b:Nat}(h:bef ord a b=true):¬ bef ord b a=true:=by
 cases ord<;>simp only [bef,ZV] at h ⊢<;>omega
def ZoZ (ord:Option (List Nat))(ios:List IOp):Bool :=
 (List.range ios.length).all λm=>match ios[m]? with
  | some om=>(match newD om.i with
   | some d=>(List.range ios.length).all λj=>match ios[j]? with
    | some oj=>(!bef ord j m || !(Zbz oj).elem d)&&(decide (j=m)||decide (newD oj.i≠some d))
    | none=>true
   | none=>true)
  | none=>true
theorem ZkO {ord:Option (List Nat)}{ios:List IOp}(h:ZoZ ord ios=true){m j:Nat}{om oj:IOp}{d:Nat}(hm:ios[m]?=some om)(hj:ios[j]?=some oj)(hd:newD om.i=some d):(bef ord j m=true->d ∉ Zbz oj)/\(j≠m->newD oj.i≠some d):=by
 have hml:=(List.getElem?_eq_some_iff.1 hm).1
 have hjl:=(List.getElem?_eq_some_iff.1 hj).1
 have h1:=List.all_eq_true.1 h m (List.mem_range.2 hml)
 rw [hm] at h1
 simp only [hd] at h1
 have h2:=List.all_eq_true.1 h1 j (List.mem_range.2 hjl)
 rw [hj] at h2
 simp only [Ze,Zh,ZV,Zg] at h2
 refine ⟨λhlt=>?_,λhne=>h2.2.resolve_left hne⟩
 have:=h2.1.resolve_left (by rw [hlt];simp)
 simpa using this
theorem ZeY.first {ord:Option (List Nat)}{ios:List IOp}(hc:calm ios=true)(hnw:ZoZ ord ios=true){i:Nat}{oi:IOp}(hi:ios[i]?=some oi):∀ (l1 l2:List Nat) {s s':St},(∀ j∈l1,∀ oj,ios[j]?=some oj->ZmH oj oi=true)->(l1++i::l2).Pairwise (λa b=>bef ord a b=true)->Tops s.fr->Cl ios (l1++i::l2) s->ZeY P ios (l1++i::l2) s s' →
  ∃ s1 s'',AOp P oi s s1/\ZeY P ios (l1++l2) s1 s''/\Eqv s'' s'
 | [],l2,s,s',_,_,_,_,h=>by
  simp only [ZN,ZeY] at h
  obtain ⟨o,s1,h0,h1,h2⟩:=h
  rw [hi] at h0
  cases h0
  exact ⟨s1,s',h1,h2,Eqv.refl _⟩
 | j::l1,l2,s,s',hind,hsort,hT,hcl,h=>by
  simp only [Zp,ZeY] at h
  obtain ⟨oj,t,h0,h1,h2⟩:=h
  obtain ⟨hgj,hKj⟩:=Zhv hc h0
  obtain ⟨hgi,hKi⟩:=Zhv hc hi
  have hsort':=List.pairwise_cons.1 hsort
  have hTt:=h1.tops hgj hKj hT
  have hclt:Cl ios (l1++i::l2) t:=λm hm om d hom hd=>by
   have hjm:bef ord j m=true:=hsort'.1 m hm
   obtain ⟨n1,n2⟩:=ZkO hnw hom h0 hd
   exact h1.clear hgj hKj hT (hcl m (by simp only [Zp,List.mem_cons];exact .inr hm) om d hom hd) (n1 hjm) (n2 (Zjg hjm))
  obtain ⟨t1,s'',h3,h4,h5⟩:=ZeY.first hc hnw hi l1 l2 (λq hq=>hind q (by simp [hq])) hsort'.2 hTt hclt h2
  obtain ⟨u1,u2,h6,h7,h8⟩:=swap (hind j (by simp) oj h0) hgj hgi hKj hKi hT (λd hd=>hcl j (by simp) oj d h0 hd) (λd hd=>hcl i (by simp) oi d hi hd) h1 h3
  obtain ⟨s3,h9,h10⟩:=ZeY.eqv hc _ h4 (h3.tops hgi hKi hTt) h8.symm
  exact ⟨u1,s3,h6,⟨oj,u2,h0,h7,h9⟩,h10.symm.trans h5⟩
def Zpg (ord:Option (List Nat))(ops:Array Oper)(ios:List IOp):Bool :=
 (List.range ios.length).all λi=>match ops[i]?,ios[i]? with
  | some o,some io=>(o.after.all λe => !Region.binds .any e||(bef ord e.on i&&decide (e.on<ios.length)))&&io.pre.all λj=>decide (1000000<=j)||o.after.any λe=>Region.binds .any e&&(decide (e.on=j)||(match ios[e.on]? with
   | some ie=>ie.pre.elem j
   | none=>false))
  | _,_=>false
def Znx (ord:Option (List Nat))(ios:List IOp):Bool :=
 (List.range ios.length).all λi=>(List.range ios.length).all λj => !bef ord j i||match ios[j]?,ios[i]? with
  | some oj,some oi=>(oi.pre.elem j&&decide (j<1000000))||ZmH oj oi
  | _,_=>false
def ZnG (ord:Option (List Nat))(ops:Array Oper)(ios:List IOp):Bool:=calm ios&&Zpg ord ops ios&&Znx ord ios&&ZoZ ord ios
def posO (o:IOp):Option Nat:=(o.pre.find? λx=>decide (1000000<=x)).map (· - 1000000)
def ordL (iw:List IOp):Option (List Nat):=if iw.all (λo=>(posO o).isSome) then some (iw.map λo=>(posO o).getD 0) else none
def srtL (iw:List IOp):List IOp:=match ordL iw with
 | none=>iw
 | some o=>(List.range iw.length).map λp=>iw.getD (o.idxOf p) ⟨none,.newL 0 [],[],none⟩
def ordK (iw:List IOp):Bool:=match ordL iw with
 | none=>true
 | some o=>(List.range iw.length).all λk=>o.contains k&&decide (o.idxOf (o.getD k 0)=k)&&decide (o.getD k 0<iw.length)
def Zmb (ops:Array Oper)(iw:List IOp):Bool:=ordK iw&&ZnG (ordL iw) ops (srtL iw)
def Zjp (iw:List IOp):List Nat:=match ordL iw with
 | none=>List.range iw.length
 | some o=>o
theorem Zga {iw:List IOp}{o:List Nat}(h:ordL iw=some o):o.length=iw.length:=by
 unfold ordL at h
 split at h
 ·simp only [ZS] at h;subst h;simp
 cases h
theorem Zfq {iw:List IOp}{o:List Nat}(h:ordK iw=true)(ho:ordL iw=some o){k:Nat}(hk:k<iw.length):k∈o/\o.idxOf (o.getD k 0)=k/\o.getD k 0<iw.length:=by
 unfold ordK at h
 rw [ho] at h
 have:=List.all_eq_true.1 h k (List.mem_range.2 hk)
 simp only [Ze,ZV,List.contains_iff_mem] at this
 exact ⟨this.1.1,this.1.2,this.2⟩
theorem Zn7 (iw:List IOp):(srtL iw).length=iw.length:=by
 unfold srtL
 split<;>simp
theorem Zn6 {iw:List IOp}(h:ordK iw=true){o:IOp}(ho:o∈srtL iw):o∈iw:=by
 unfold srtL at ho
 split at ho
 ·exact ho
 rename_i od hod
 obtain ⟨p,hp,rfl⟩:=List.mem_map.1 ho
 have hp':=List.mem_range.1 hp
 have h1:=(Zfq h hod hp').1
 have h2:od.idxOf p<od.length:=List.idxOf_lt_length_iff.2 h1
 rw [Zga hod] at h2
 rw [Zq,Zw h2]
 exact List.getElem_mem h2
theorem ZoQ {iw:List IOp}(h:ordK iw=true){k:Nat}(hk:k<iw.length):∃ p,(Zjp iw)[k]?=some p/\(srtL iw)[p]?=iw[k]?:=by
 unfold Zjp srtL
 cases ho:ordL iw with
 | none=>exact ⟨k,by simp [hk],rfl⟩
 | some o =>
  obtain ⟨_,h2,h3⟩:=Zfq h ho hk
  have hl:=Zga ho
  refine ⟨o.getD k 0,?_,?_⟩
  ·simp only [Zq,Zw (show k<o.length by omega),Option.getD_some]
  simp only
  rw [Zy,List.getElem?_range h3,ZR,h2,Zq,Zw hk]
  rfl
theorem Zke (iw:List IOp):(Zjp iw).length=iw.length:=by
 unfold Zjp
 cases ho:ordL iw with
 | none=>simp
 | some o=>exact Zga ho
theorem ZmV {iw:List IOp}(h:ordK iw=true){i:Nat}:i∈Zjp iw↔i<iw.length:=by
 unfold Zjp
 cases ho:ordL iw with
 | none=>simp
 | some o =>
  constructor
  ·intro hi
   obtain ⟨k,hk,rfl⟩:=List.getElem_of_mem hi
   have:=(Zfq h ho (by rw [← Zga ho];exact hk)).2.2
   rwa [Zq,Zw hk] at this
  intro hi;exact (Zfq h ho hi).1
theorem Zkd {iw:List IOp}(h:ordK iw=true):(Zjp iw).Pairwise (λa b=>bef (ordL iw) a b=true):=by
 unfold Zjp
 cases ho:ordL iw with
 | none =>
  simp only [bef,ZV]
  exact List.pairwise_lt_range
 | some o =>
  rw [List.pairwise_iff_getElem]
  intro i j hi hj hij
  change i<o.length at hi
  change j<o.length at hj
  have hl:=Zga ho
  have h1:=(Zfq h ho (show i<iw.length by omega)).2.1
  have h2:=(Zfq h ho (show j<iw.length by omega)).2.1
  rw [Zq,Zw hi,Option.getD_some] at h1
  rw [Zq,Zw hj,Option.getD_some] at h2
  simp only [bef,ZV,h1,h2]
  exact hij
theorem Zjn {ios:List IOp}:∀ (iw:List IOp) (l:List Nat) {s s':St},l.length=iw.length->(∀ k,k<iw.length->∃ p,l[k]?=some p/\ios[p]?=iw[k]?)->Z1 P iw s s'->ZeY P ios l s s'
 | [],l,s,s',hl,_,h=>by
  have:l=[]:=List.eq_nil_of_length_eq_zero hl
  subst this
  exact h
 | o::iw,[],s,s',hl,_,h=>by simp at hl
 | o::iw,p::l,s,s',hl,hk,h=>by
  simp only [Z1] at h
  obtain ⟨s1,h1,h2⟩:=h
  obtain ⟨q,e1,e2⟩:=hk 0 (by simp)
  simp only [Zu,ZS] at e1 e2
  subst e1
  exact ⟨o,s1,e2,h1,Zjn iw l (by simpa using hl) (λk hk'=>by simpa using hk (k+1) (by simpa using hk')) h2⟩
variable {k:K0} {n:Nat} {ops:Array Oper}
theorem ZnQ {ord:Option (List Nat)}{ios:List IOp}(hlen:ops.size=ios.length)(hchk:∀ (i:Nat) o io,ops[i]?=some o->ios[i]?=some io->ZnI P n ops o io=true)(hd:ZnG ord ops ios=true){r:Option Nat}{Q:Exit->Act->World->Prop} :
  ∀ (fuel:Nat) (listed:Array Bool) (l:List Nat) {g:G} {s s':St} {a:Act} {w:World},l.length=fuel->l.Pairwise (λa b=>bef ord a b=true)->listed.size=ops.size->(∀ i,i∈l↔listed[i]?=some false) →
   (∀ (i:Nat) io j,ios[i]?=some io->listed[i]?=some true->j∈io.pre->j<1000000->listed[j]?=some true) →
   Rel k n g s a w->Cl ios l s->ZeY P ios l s s'->(∀ g' t a' w',Eqv s' t->Rel k n g' t a' w'->Q .normal a' w')->wpAnyIn (FR r) 0 P .any ops Q fuel listed a w:=by
 simp only [ZnG,Ze] at hd
 obtain ⟨⟨⟨hcalm,hpre⟩,hind⟩,hnw⟩:=hd
 simp only [Zpg,Zm,List.mem_range] at hpre
 simp only [Znx,Zm,List.mem_range] at hind
 intro fuel
 induction fuel with
 | zero =>
  intro listed l g s s' a w hl _ hsz hmem _ hr _ hp hQ
  have hl0:l=[]:=List.eq_nil_of_length_eq_zero hl
  subst hl0
  simp only [ZeY] at hp
  subst hp
  refine ⟨?_,hQ g _ a w (Eqv.refl _) hr⟩
  unfold Region.ready
  rw [List.filter_eq_nil_iff]
  intro i hi hcon
  simp only [List.mem_range] at hi
  simp only [Ze,Zg] at hcon
  have hf:listed.getD i true=false:=hcon.1
  rw [Za,Zb (by omega)] at hf
  have:=(hmem i).2 (by rw [Zb (by omega)];simpa using hf)
  cases this
 | succ fuel ih =>
  intro listed l g s s' a w hl hsort hsz hmem hcl hr hclr hp hQ
  have hlt:∀ i,i∈l->i<ops.size:=λi hi=>by
   have:=(Array.getElem?_eq_some_iff.1 ((hmem i).1 hi)).1
   omega
  refine ⟨λhready=>?_,λi hi=>?_⟩
  ·
   exfalso
   cases l with
   | nil=>simp at hl
   | cons i l' =>
    have hil:=hlt i (by simp)
    have:i∈Region.ready .any ops listed:=by
     unfold Region.ready
     rw [List.mem_filter]
     refine ⟨List.mem_range.2 hil,?_⟩
     have hf:=(hmem i).1 (by simp)
     simp only [Ze,Zg]
     refine ⟨by rw [Za,hf];rfl,?_⟩
     rw [Zb hil]
     simp only [ZR,Option.getD_some]
     rw [Array.all_eq_true_iff_forall_mem]
     intro e he
     have hp0:=hpre i (by omega)
     rw [Zb hil,Zw (by omega)] at hp0
     simp only [Ze] at hp0
     have he1:=(Array.all_eq_true_iff_forall_mem.1 hp0.1) e he
     simp only [Zh,Ze,Zg,ZV] at he1 ⊢
     rcases he1 with he1|he1
     ·exact .inl he1
     right
     have hno:e.on ∉ i::l':=by
      intro hm
      rcases List.mem_cons.1 hm with h|h
      ·exact Zjg he1.1 h
      exact Zot (List.rel_of_pairwise_cons hsort h) he1.1
     have hne:listed[e.on]?≠some false:=λh=>hno ((hmem e.on).2 h)
     have hlt2:e.on<listed.size:=by omega
     rw [Zb hlt2] at hne
     rw [Za,Zb hlt2]
     simpa using hne
    rw [hready] at this
    cases this
  ·
   unfold Region.ready at hi
   rw [List.mem_filter] at hi
   obtain ⟨hi0,hi1⟩:=hi
   simp only [List.mem_range] at hi0
   simp only [Ze,Zg] at hi1
   obtain ⟨hi1,hi2⟩:=hi1
   have hfi:listed[i]?=some false:=by
    rw [Za,Zb (by omega)] at hi1
    rw [Zb (by omega)]
    simpa using hi1
   have him:i∈l:=(hmem i).2 hfi
   obtain ⟨l1,l2,rfl⟩:=List.append_of_mem him
   have hoi:ops[i]?=some ops[i]:=Zb hi0
   have hio:ios[i]?=some (ios[i]'(by omega)):=Zw (by omega)
   generalize hoe:ops[i]=o at hoi
   generalize hie:ios[i]'(by omega)=io at hio
   rw [hoi] at hi2
   simp only [ZR,Option.getD_some] at hi2
   have hedges:=Array.all_eq_true_iff_forall_mem.1 hi2
   have hp0:=hpre i (by omega)
   rw [hoi,hio] at hp0
   simp only [Ze] at hp0
   have hclosed:∀ j∈io.pre,j<1000000->listed[j]?=some true:=by
    intro j hj hjM
    have h1:=(List.all_eq_true.1 hp0.2) j hj
    simp only [Zh,ZV] at h1
    replace h1:=h1.resolve_left (by omega)
    rw [Array.any_eq_true] at h1
    obtain ⟨q,hq,h1⟩:=h1
    have he:o.after[q]∈o.after:=Array.getElem_mem hq
    generalize o.after[q]=e at he h1
    simp only [Ze,Zh,ZV] at h1
    obtain ⟨hb,h1⟩:=h1
    have h2:=hedges e he
    simp only [hb,Bool.not_true,Bool.false_or] at h2
    have h3:listed[e.on]?=some true:=by
     rw [Za] at h2
     cases h4:listed[e.on]? with
     | none=>rw [h4] at h2;simp at h2
     | some b=>rw [h4] at h2;simp at h2;rw [h2]
    rcases h1 with h1|h1
    ·rw [← h1];exact h3
    split at h1
    ·rename_i ie hie
     exact hcl e.on ie j hie h3 (by simpa using h1) hjM
    cases h1
   have hpw:=List.pairwise_append.1 hsort
   have hindl:∀ j∈l1,∀ oj,ios[j]?=some oj->ZmH oj io=true:=λj hj oj hoj=>by
    have hji:bef ord j i=true:=hpw.2.2 j hj i (by simp)
    have h4:=hind i (by omega) j (List.getElem?_eq_some_iff.1 hoj).1
    rw [hoj,hio,hji] at h4
    simp only [Bool.not_true,Bool.false_or,Zh,Ze,ZV] at h4
    rcases h4 with h4|h4
    ·have h5:=hclosed j (by simpa using h4.1) h4.2
     have h6:=(hmem j).1 (by simp [hj])
     rw [h5] at h6
     cases h6
    exact h4
   obtain ⟨s1,s'',h1,h2,h3⟩:=ZeY.first hcalm hnw hio l1 l2 hindl hsort hr.tops hclr hp
   have hcl1:Cl ios (l1++l2) s1:=λm hm om d hom hd=>by
    obtain ⟨hgi,hKi⟩:=Zhv hcalm hio
    obtain ⟨n1,n2⟩:=ZkO hnw hom hio hd
    have hcm:ZgO d s.fr:=hclr m (by simp only [List.mem_append,List.mem_cons] at hm ⊢;rcases hm with h|h;exact .inl h;exact .inr (.inr h)) om d hom hd
    rcases List.mem_append.1 hm with hm1|hm2
    ·have hmi:bef ord m i=true:=hpw.2.2 m hm1 i (by simp)
     have hin:=hindl m hm1 om hom
     simp only [ZmH,Ze] at hin
     have hdst:dstI om.i=some d:=Zog hd
     rw [hdst] at hin
     exact h1.clear hgi hKi hr.tops hcm (Zeo hin.1.1.2) (n2 (Zjg hmi).symm)
    have hmi:bef ord i m=true:=List.rel_of_pairwise_cons hpw.2.1 hm2
    exact h1.clear hgi hKi hr.tops hcm (n1 hmi) (n2 (Zjg hmi))
   refine Zl4 hr hoi (hchk i o io hoi hio) h1 r (λg' a' w' h4=>?_)
   refine ih (listed.setIfInBounds i true) (l1++l2) ?_ ?_ (by simpa using hsz) (λj=>?_) (λj ij q hj hjt hq hqM=>?_) h4 hcl1 h2 (λg2 t a2 w2 e=>hQ g2 t a2 w2 (h3.symm.trans e))
   ·simp only [ZC,ZD] at hl ⊢;omega
   ·refine List.pairwise_append.2 ⟨hpw.1,(List.pairwise_cons.1 hpw.2.1).2,λx hx y hy=>hpw.2.2 x hx y (by simp [hy])⟩
   ·by_cases hij:i=j
    ·subst hij
     rw [Array.getElem?_setIfInBounds_self_of_lt (by omega)]
     constructor
     ·intro hm
      exfalso
      rcases List.mem_append.1 hm with h|h
      ·exact Zjg (hpw.2.2 i h i (by simp)) rfl
      exact Zjg (List.rel_of_pairwise_cons hpw.2.1 h) rfl
     intro h;simp at h
    rw [Zc hij,← hmem]
    simp only [List.mem_append,List.mem_cons]
    constructor
    ·rintro (h|h)
     ·exact .inl h
     exact .inr (.inr h)
    rintro (h|h|h)
    ·exact .inl h
    ·exact absurd h.symm hij
    exact .inr h
   by_cases hqi:i=q
   ·subst hqi
    rw [Array.getElem?_setIfInBounds_self_of_lt (by omega)]
   rw [Zc hqi]
   by_cases hji:i=j
   ·subst hji
    rw [hio] at hj
    cases hj
    exact hclosed q hq hqM
   rw [Zc hji] at hjt
   exact hcl j ij q hj hjt hq hqM
theorem Zi9 {r:Option Nat}{g:G}{s s':St}{a:Act}{w:World}(hm:P.follows .mixedOrders=true)(h:Rel k n g s a w){id:Nat}{ios:List IOp}(hc:Zer P n ops ops.toList (srtL ios)=true)(hd:Zmb ops ios=true)(hst:∀ o∈ios,∀ d,newD o.i=some d->ZgO d s.fr)(hp:Z1 P ios s s'){Q:Exit->Act->World->Prop}
  (hQ:∀ g' t a' w',Eqv s' t->Rel k n g' t a' w'->Q .normal a' w'):(Code.region id ops true).wpIn (FR r) 0 P Q a w:=by
 simp only [Zmb,Ze] at hd
 obtain ⟨hK,hd⟩:=hd
 obtain ⟨hlen,hget⟩:=Zjc hc
 simp only [Zd] at hlen
 refine wpIn_region_any hm ?_
 have hr:Rel k n g s a w.drew:=h.grow (Grow.drew w)
 have hpl:=Zjn (ios:=srtL ios) ios (Zjp ios) (Zke ios) (λk hk=>ZoQ hK hk) hp
 have hlen2:=Zn7 ios
 refine ZnQ hlen (λi o io h1 h2=>hget i o io (by simpa using h1) h2) hd ops.size _ _ ?_ (Zkd hK) (by simp) (λi=>?_) (λi io j _ hf=>?_) hr (λm _ om d hom hd=>hst om (Zn6 hK (List.mem_of_getElem? hom)) d hd) hpl hQ
 ·rw [Zke];omega
 ·rw [ZmV hK]
  simp only [Array.getElem?_replicate]
  constructor
  ·intro hi;rw [ZY (by omega)]
  intro h
  split at h
  ·omega
  cases h
 simp only [Array.getElem?_replicate] at hf
 split at hf
 ·simp at hf
 cases hf
end
end Go.Eng

namespace Go.Eng
open Go
def chkC (P:Program)(n:Nat):Code->IC->Bool
 | .skip,.skip=>true
 | .region _ ops draw,.reg ios _ => !draw&&Zer P n ops ops.toList ios
 | .region _ ops draw,.regD ios _=>draw&&Zer P n ops ops.toList (srtL ios)&&P.follows .mixedOrders&&Zmb ops ios
 | .region _ ops draw,.regF fs ios _=>draw&&Zer P n ops ops.toList (srtL ios)&&P.follows .mixedOrders&&Zmb ops ios&&fs.all λt=>decide (t<n)||decide (1000000<=t)
 | .seq a b,.seq a' b'=>chkC P n a a'&&chkC P n b b'
 | .cond x a b,.cond x' a' b'=>Zcx x x'&&chkC P n a a'&&chkC P n b b'
 | .block id a,.block id' a'=>decide (id=id')&&chkC P n a a'
 | .loop a,.loop a'=>chkC P n a a'
 | .exit id,.exit id'=>decide (id=id')
 | .scope a,.scope a'=>chkC P n a a'
 | .label l,.label l'=>decide (l=l')
 | .goto l,.goto l'=>decide (l=l')
 | .ret,.ret=>true
 | c,.kp _ a=>chkC P n c a
 | c,.box a=>chkC P n c a
 | .region id ops draw,.pu _ a=>chkC P n (.region id ops draw) a
 | .block id b,.pu _ a=>chkC P n (.block id b) a
 | .rangeFunc g ps a b,.rangeF x ps' a' b'=>Zcx g x&&decide (ps.toList=ps')&&ps'.all (λt=>decide (t<n))&&chkC P n a a'&&chkC P n b b'
 | _,_=>false
def ZmJ (t:Nat):List (Nat×AV)->List (Nat×AV)
 | []=>[]
 | (u,v)::r=>if u=t then ZmJ t r else (u,v)::ZmJ t r
def Zgh (x:IX)(s:St):St:=match x with
 | .t n=>⟨ZmJ n s.fr,s.bx,s.H⟩
 | .k _=>s
def Zfb (ks:List Nat)(s:St):St:=⟨ZlC ks s.fr,ZlD ks s.bx,s.H⟩
theorem ZkW (t:Nat)(fr:List (Nat×AV))(x:Nat):get (ZmJ t fr) x=if t=x then .any else get fr x:=by
 induction fr with
 | nil=>simp [ZmJ,get]
 | cons p r ih =>
  obtain ⟨u,v⟩:=p
  simp only [ZmJ]
  by_cases h:u=t
  ·subst h
   simp only [ZZ,ih,get]
   by_cases e:u=x<;>simp [e]
  simp only [h,ZW,get,ih]
  by_cases e:u=x
  ·subst e;simp [Ne.symm h]
  simp [e]
def Ev (P:Program)(n:Nat)(c:Code)(s:St)(Q:Exit->St->Prop):Prop :=
 ∀ k g a w,Rel k n g s a w->c.wpIn (FR k.rd) 0 P (λe a' w'=>∃ s' g',Rel k n g' s' a' w'/\Q e s') a w
def EvI (P:Program)(n:Nat)(ic:IC)(s:St)(Q:Exit->St->Prop):Prop:=∀ c,chkC P n c ic=true->Ev P n c s Q
def EvX (P:Program)(n:Nat)(ic:IC)(s:St)(Q:Exit->St->Prop):Prop:=∃ e s',EvI P n ic s (λe1 s1=>e1=e/\s1=s')/\Q e s'
@[reducible] def Zg8 (next:St->Prop)(Q:Exit->St->Prop):Exit->St->Prop
 | .normal,s=>next s
 | e,s=>Q e s
@[reducible] def Zes (id:Nat)(Q:Exit->St->Prop):Exit->St->Prop
 | .exit id',s=>if id'=id then Q .normal s else Q (.exit id') s
 | e,s=>Q e s
def Zmd (d:Nat):List (Nat×AV)->Bool
 | []=>true
 | (u,v)::r=>(match v with
  | .loc t _=>decide (u=d)||decide (t≠d)
  | _=>true)&&Zmd d r
theorem Zk4 {d:Nat}{fr:List (Nat×AV)}(h:Zmd d fr=true):ZgO d fr:=by
 intro u o hu e
 induction fr with
 | nil=>simp [get] at e
 | cons p r ih =>
  obtain ⟨u',v⟩:=p
  simp only [Zmd,Ze] at h
  simp only [get] at e
  split at e
  ·rename_i hq
   subst e
   have:=h.1
   simp only [Zh,ZV] at this
   rcases this with h1|h1
   ·omega
   exact h1 rfl
  exact ih h.2 e
def ZiX (fr:List (Nat×AV)):List IOp->Bool
 | []=>true
 | o::os=>(match newD o.i with
  | some d=>Zmd d fr
  | none=>true)&&ZiX fr os
def Zjx (ops:List IOp)(fr:List (Nat×AV)):Prop:=ZiX fr ops=true
theorem ZhG {ops:List IOp}{fr:List (Nat×AV)}(h:Zjx ops fr):∀ o∈ops,∀ d,newD o.i=some d->ZgO d fr:=by
 unfold Zjx at h
 induction ops with
 | nil=>simp
 | cons o os ih =>
  simp only [ZiX,Ze] at h
  intro o' ho' d hd
  rcases List.mem_cons.1 ho' with rfl|ho'
  ·have:=h.1;rw [hd] at this;exact Zk4 this
  exact ih h.2 o' ho' d hd
def ZkY (s:St)(t:Nat):AV:=if t<1000000 then get s.fr t else .agg ((bget s.bx (t-1000000)).getD [])
def frzS:List Nat->St->Option St
 | [],s=>some s
 | t::ts,s=>(frzV s.H (ZkY s t)).bind λ(x,H)=>frzS ts ⟨s.fr,s.bx,H⟩
def Zhj:List Nat->St->Option St
 | [],s=>some s
 | t::ts,s=>if t<1000000 then (frzV s.H (get s.fr t)).bind λ(x,H)=>Zhj ts ⟨put s.fr t x,s.bx,H⟩
  else match bget s.bx (t-1000000) with
   | some cs=>(frzC s.H cs).bind λ(xs,H)=>if Zan xs=true then Zhj ts ⟨s.fr,bput s.bx (t-1000000) xs,H⟩ else none
   | none=>none
@[reducible] def puQ (fs:List Nat)(Q:Exit->St->Prop):Exit->St->Prop
 | .normal,s=>∃ s',Zhj fs s=some s'/\Q .normal s'
 | e,s=>Q e s
def vc (P:Program)(n:Nat):IC->(Exit->St->Prop)->St->Prop
 | .skip,Q,s=>Q .normal s
 | .reg ops keep,Q,s=>∃ s',Z1 P ops s s'/\Q .normal (Zfb keep s')
 | .regD ops keep,Q,s=>Zjx ops s.fr/\∃ s',Z1 P ops s s'/\Q .normal (Zfb keep s')
 | .regF fs ops keep,Q,s=>∃ s0,frzS fs s=some s0/\Zjx ops s0.fr/\∃ s',Z1 P ops s0 s'/\Q .normal (Zfb keep s')
 | .seq a b,Q,s=>vc P n a (Zg8 (vc P n b Q) Q) s
 | .cond x a b,Q,s=>match ev s.fr x with
  | .p (.bool t)=>if t=true then vc P n a Q (Zgh x s) else vc P n b Q (Zgh x s)
  | _=>False
 | .block id a,Q,s=>vc P n a (Zes id Q) s
 | .loop a,Q,s=>EvX P n (.loop a) s Q
 | .exit id,Q,s=>Q (.exit id) s
 | .scope a,Q,s=>EvX P n (.scope a) s Q
 | .label _,Q,s=>Q .normal s
 | .goto l,Q,s=>Q (.goto l) s
 | .ret,Q,s=>Q .ret s
 | .kp ks a,Q,s=>vc P n a Q (Zfb ks s)
 | .pu fs a,Q,s=>vc P n a (puQ fs Q) s
 | .rangeF x ps a b,Q,s=>EvX P n (.rangeF x ps a b) s Q
 | .box a,Q,s=>EvX P n a s Q
section
variable {P:Program} {n:Nat}
theorem Rel.drop {k:K0}{g:G}{s:St}{a:Act}{w:World}(h:Rel k n g s a w)(x:IX):Rel k n g (Zgh x s) a w:=by
 cases x with
 | k v=>exact h
 | t m =>
  exact { h with
   slots:=λt=>by
    simp only [Zgh,ZkW]
    split
    ·simp [VR]
    exact h.slots t
   tops:=λt=>by
    simp only [Zgh,ZkW]
    split
    ·rfl
    exact h.tops t }
theorem ZnE {k:K0}{g:G}{s:St}{a:Act}{w:World}(h:Rel k n g s a w)(t:Nat):top (ZkY s t)=true/\∃ v,VR (cx k g s.H w) (ZkY s t) v:=by
 unfold ZkY
 split
 ·exact ⟨h.tops t,_,h.slots t⟩
 cases hb:bget s.bx (t-1000000) with
 | none=>exact ⟨rfl,.agg #[],by simp only [Option.getD_none];rw [VR];exact ⟨[],rfl,by simp [VRL]⟩⟩
 | some cs =>
  obtain ⟨b,_,hok,vs,_,hv⟩:=h.boxes _ cs hb
  exact ⟨Zao (by simpa [ZaF] using Zar hok),.agg vs,by rw [VR];exact ⟨vs.toList,by simp,hv⟩⟩
theorem Zi5 {k:K0}{g:G}{a:Act}{w:World}:∀ (ts:List Nat) {s s':St},Rel k n g s a w->frzS ts s=some s'->Rel k n g s' a w
 | [],s,s',h,e=>by
  simp only [frzS,ZS] at e
  exact e ▸ h
 | t::ts,s,s',h,e=>by
  simp only [frzS] at e
  cases h1:frzV s.H (ZkY s t) with
  | none=>simp [h1] at e
  | some p =>
   obtain ⟨x,H1⟩:=p
   simp only [h1,ZQ] at e
   obtain ⟨ht,v,hv⟩:=ZnE h t
   obtain ⟨r1,l1,v1,n1⟩:=ZgE h h1 ht hv
   exact Zi5 ts r1 e
theorem Rel.reSlot {k:K0}{g:G}{s:St}{a:Act}{w:World}(h:Rel k n g s a w){t:Nat}{x:AV}(hv:VR (cx k g s.H w) x (a.tmps.getD t undef))(ht:top x=true):Rel k n g ⟨Eng.put s.fr t x,s.bx,s.H⟩ a w :=
 {h with
  slots:=λu=>by
   simp only [ZaV]
   split
   ·rename_i e;subst e;exact hv
   exact h.slots u
  tops:=λu=>by
   simp only [ZaV]
   split
   ·exact ht
   exact h.tops u }
theorem Rel.reBox {k:K0}{g:G}{s:St}{a:Act}{w:World}(h:Rel k n g s a w){t:Nat}{cs xs:List AV}(hb:bget s.bx t=some cs)(hok:Zan xs=true)(hv:∃ b vs,g.β t=some b/\(cx k g s.H w).blk b vs/\VRL (cx k g s.H w) xs vs.toList) :
  Rel k n g ⟨s.fr,bput s.bx t xs,s.H⟩ a w :=
 {h with
  boxes:=λu ys e=>by
   simp only [ZbE] at e
   by_cases he:t=u
   ·subst he
    simp only [ZZ,ZS] at e
    subst e
    obtain ⟨b,vs,h1,h2,h3⟩:=hv
    exact ⟨b,h1,hok,vs,h2,h3⟩
   rw [ZX he] at e
   exact h.boxes u ys e
  boxed:=λu b e=>by
   obtain ⟨⟨ys,hy⟩,h2⟩:=h.boxed u b e
   refine ⟨?_,h2⟩
   simp only [ZbE]
   by_cases he:t=u
   ·exact ⟨xs,by rw [ZY he]⟩
   exact ⟨ys,by rw [ZX he];exact hy⟩ }
theorem ZfR {k:K0}{g:G}{a:Act}{w:World}:∀ (ts:List Nat) {s s':St},Rel k n g s a w->Zhj ts s=some s'->Rel k n g s' a w
 | [],s,s',h,e=>by
  simp only [Zhj,ZS] at e
  exact e ▸ h
 | t::ts,s,s',h,e=>by
  simp only [Zhj] at e
  split at e
  ·cases h1:frzV s.H (get s.fr t) with
   | none=>simp [h1] at e
   | some p =>
    obtain ⟨x,H1⟩:=p
    simp only [h1,ZQ] at e
    obtain ⟨r1,l1,v1,n1⟩:=ZgE h h1 (h.tops t) (h.slots t)
    exact ZfR ts (r1.reSlot v1 (Zao n1)) e
  split at e
  ·rename_i cs hb
   cases h1:frzC s.H cs with
   | none=>simp [h1] at e
   | some p =>
    obtain ⟨xs,H1⟩:=p
    simp only [h1,ZQ] at e
    split at e
    ·rename_i hok
     obtain ⟨b,hb1,hoc,vs0,hblk,hv0⟩:=h.boxes _ cs hb
     have hno:=Zar hoc
     obtain ⟨r1,_,v1,_⟩:=ZgG cs h h1 hno hv0
     exact ZfR ts (r1.reBox (cs:=cs) hb hok ⟨b,vs0,hb1,hblk,v1⟩) e
    cases e
  cases e
theorem EvI.mono {ic:IC}{s:St}{Q Q':Exit->St->Prop}(h:EvI P n ic s Q)(hq:∀ e s,Q e s->Q' e s):EvI P n ic s Q' :=
 λc hc k g a w hr=>wpIn_mono (h c hc k g a w hr) λe a' w' ⟨s',g',h1,h2⟩=>⟨s',g',h1,hq e s' h2⟩
theorem EvX.mono {ic:IC}{s:St}{Q Q':Exit->St->Prop}(h:EvX P n ic s Q)(hq:∀ e s,Q e s->Q' e s):EvX P n ic s Q' :=
 let ⟨e,s',h1,h2⟩:=h; ⟨e,s',h1,hq e s' h2⟩
theorem EvX.toI {ic:IC}{s:St}{Q:Exit->St->Prop}(h:EvX P n ic s Q):EvI P n ic s Q:=by
 obtain ⟨e,s',h1,h2⟩:=h
 exact h1.mono λe1 s1 ⟨a,b⟩=>by subst a b;exact h2
theorem Zas:∀ (ic:IC) (Q:Exit->St->Prop) (s:St),vc P n ic Q s->EvI P n ic s Q
 | .skip,Q,s,h=>by
  intro c hc k g a w hr
  cases c<;>simp only [chkC,Zf] at hc
  exact wpIn_skip ⟨s,g,hr,h⟩
 | .reg ios keep,Q,s,h=>by
  intro c hc k g a w hr
  cases c<;>simp only [chkC,Zf,Ze,Zg] at hc
  rename_i id ops draw
  obtain ⟨rfl,hc⟩:=hc
  simp only [vc] at h
  obtain ⟨s',hp,hq⟩:=h
  exact Zko hr hc hp _ λg' a' w' h1=>let ⟨g2,h2⟩:=h1.keepOnly keep; ⟨_,g2,h2,hq⟩
 | .regD ios keep,Q,s,h=>by
  intro c hc k g a w hr
  cases c<;>simp only [chkC,Zf,Ze] at hc
  rename_i id ops draw
  obtain ⟨⟨⟨rfl,hc⟩,hm⟩,hd⟩:=hc
  simp only [vc] at h
  obtain ⟨hst,s',hp,hq⟩:=h
  exact Zi9 hm hr hc hd (ZhG hst) hp λg' t a' w' e h1=>let ⟨g2,h2⟩:=(h1.eqv e.symm).keepOnly keep; ⟨_,g2,h2,hq⟩
 | .regF fs ios keep,Q,s,h=>by
  intro c hc k g a w hr
  cases c<;>simp only [chkC,Zf,Ze,Zm,ZV] at hc
  rename_i id ops draw
  obtain ⟨⟨⟨⟨rfl,hc⟩,hm⟩,hd⟩,hf⟩:=hc
  simp only [vc] at h
  obtain ⟨s0,h0,hst,s',hp,hq⟩:=h
  exact Zi9 hm (Zi5 fs hr h0) hc hd (ZhG hst) hp λg' t a' w' e h1=>let ⟨g2,h2⟩:=(h1.eqv e.symm).keepOnly keep; ⟨_,g2,h2,hq⟩
 | .seq x y,Q,s,h=>by
  intro c hc k g a w hr
  cases c<;>simp only [chkC,Zf,Ze] at hc
  rename_i c1 c2
  simp only [vc] at h
  refine wpIn_seq (wpIn_mono (Zas x _ s h c1 hc.1 k g a w hr) ?_)
  rintro e a' w' ⟨s',g',h1,h2⟩
  cases e with
  | normal=>exact Zas y Q s' h2 c2 hc.2 k g' a' w' h1
  | _=>exact ⟨s',g',h1,h2⟩
 | .cond x y z,Q,s,h=>by
  intro c hc k g a w hr
  cases c<;>simp only [chkC,Zf,Ze] at hc
  rename_i X c1 c2
  simp only [vc] at h
  split at h
  ·rename_i t hx
   have hv:=Zbj hr hc.1.1
   rw [hx] at hv
   have ht:=ZgK hv
   cases t with
   | true =>
    simp only [ZZ] at h
    exact wpIn_cond_true ht (Zas y Q _ h c1 hc.1.2 k g a w (hr.drop x))
   | false =>
    simp only [Zf,ZW] at h
    exact wpIn_cond_false ht (Zas z Q _ h c2 hc.2 k g a w (hr.drop x))
  exact h.elim
 | .block id x,Q,s,h=>by
  intro c hc k g a w hr
  cases c<;>simp only [chkC,Zf,Ze,ZV] at hc
  rename_i id' c1
  obtain ⟨rfl,hc⟩:=hc
  simp only [vc] at h
  refine wpIn_block (wpIn_mono (Zas x _ s h c1 hc k g a w hr) ?_)
  rintro e a' w' ⟨s',g',h1,h2⟩
  cases e with
  | exit j =>
   simp only [Zes] at h2
   simp only [Exit.inBlock]
   split
   ·rename_i e;rw [ZY e] at h2;exact ⟨s',g',h1,h2⟩
   rename_i e;rw [ZX e] at h2;exact ⟨s',g',h1,h2⟩
  | _=>exact ⟨s',g',h1,h2⟩
 | .loop x,Q,s,h=>EvX.toI h
 | .rangeF ..,Q,s,h=>EvX.toI h
 | .box a,Q,s,h=>λc hc=>EvX.toI h c (by cases c<;>simpa only [chkC] using hc)
 | .exit id,Q,s,h=>by
  intro c hc k g a w hr
  cases c<;>simp only [chkC,Zf,ZV] at hc
  subst hc
  exact wpIn_exit ⟨s,g,hr,h⟩
 | .scope x,Q,s,h=>EvX.toI h
 | .label l,Q,s,h=>by
  intro c hc k g a w hr
  cases c<;>simp only [chkC,Zf] at hc
  exact wpIn_label ⟨s,g,hr,h⟩
 | .goto l,Q,s,h=>by
  intro c hc k g a w hr
  cases c<;>simp only [chkC,Zf,ZV] at hc
  subst hc
  exact wpIn_goto ⟨s,g,hr,h⟩
 | .ret,Q,s,h=>by
  intro c hc k g a w hr
  cases c<;>simp only [chkC,Zf] at hc
  exact wpIn_ret ⟨s,g,hr,h⟩
 | .kp ks x,Q,s,h=>by
  intro c hc k g a w hr
  have hc':chkC P n c x=true:=by cases c<;>simpa only [chkC] using hc
  obtain ⟨g2,h2⟩:=hr.keepOnly ks
  exact Zas x Q _ h c hc' k g2 a w h2
 | .pu fs x,Q,s,h=>by
  intro c hc k g a w hr
  have hc':chkC P n c x=true:=by cases c<;>simp only [chkC,Zf] at hc<;>exact hc
  refine wpIn_mono (Zas x _ _ h c hc' k g a w hr) ?_
  rintro e a' w' ⟨s',g',h1,h2⟩
  cases e with
  | normal=>obtain ⟨s2,h3,h4⟩:=h2;exact ⟨s2,g',ZfR fs h1 h3,h4⟩
  | _=>exact ⟨s',g',h1,h2⟩
theorem Zjo {F:Fence}{m:Nat}{c:Code}{Q:Exit->Act->World->Prop}{α:Type}(R:α->Act->World->Prop)(μ:α->Nat)
  (round:∀ x a w,R x a w->c.wpIn F m P (Exit.then (λa' w'=>∃ y,R y a' w'/\μ y<μ x) Q) a w) (x:α) (a:Act) (w:World) (h:R x a w):(Code.loop c).wpIn F m P Q a w:=by
 intro b k cs hro hb hr
 have key:∀ i x a w,μ x=i->R x a w->∃ e a' w',Q e a' w'/\ArrivesIn (Machine.fenced P F) P (lone (b.atR a (.code c::.inLoop c::k)) cs w) b k cs e a' w':=by
  intro i
  induction i using Nat.strongRecOn with
  | _ i ih =>
   intro x a w hm hI
   obtain ⟨e,a₁,w₁,hq,harr⟩:=round x a w hI b (.inLoop c::k) cs hro hb hr
   cases e with
   | normal =>
    obtain ⟨y,hI₁,hlt⟩:=hq
    obtain ⟨e₂,a₂,w₂,hq₂,harr₂⟩:=ih (μ y) (hm ▸ hlt) y a₁ w₁ rfl hI₁
    exact ⟨e₂,a₂,w₂,hq₂,.of_steps (StepsIn.trans harr (.one (fenced_calm hb hr rfl) stepR_inLoop)) harr₂⟩
   | exit id=>exact ⟨_,a₁,w₁,hq,.pass (x:=.inLoop c) rfl (λ_ _=>.inl (by simp)) harr⟩
   | goto l=>exact ⟨_,a₁,w₁,hq,.pass (x:=.inLoop c) rfl (λ_ _=>.inl (by simp)) harr⟩
   | ret=>exact ⟨_,a₁,w₁,hq,.pass (x:=.inLoop c) rfl (λ_ _=>.inl (by simp)) harr⟩
   | panic ch=>exact ⟨_,a₁,w₁,hq,.pass (x:=.inLoop c) rfl (λ_ _=>.inl (by simp)) harr⟩
   | outgrown=>exact ⟨_,a₁,w₁,hq,.pass (x:=.inLoop c) rfl (λ_ _=>.inl (by simp)) harr⟩
 obtain ⟨e,a',w',hq,harr⟩:=key _ x a w rfl h
 exact ⟨e,a',w',hq,.of_steps (.one (fenced_calm hb hr rfl) stepR_loop) harr⟩
@[reducible] def Zia (Q:Exit->St->Prop):Exit->St->Prop
 | .goto _,_=>False
 | e,s=>Q e s
theorem Zdn {b:Frame}{a:Act}{k:List Item}{cs:List Frame}{w:World}{c:Code}:step P (lone (b.atR a (.code (.scope c)::k)) cs w)=.next (lone (b.atR a (.code c::.inScope c::k)) cs w):=
 step_lone_go (by simp [stepG,stepG.exec,Frame.atR])
theorem Zjv {b:Frame}{a:Act}{k:List Item}{cs:List Frame}{w:World}{c:Code}:step P (lone (b.atR a (.inScope c::k)) cs w)=.next (lone (b.atR a k) cs w):=
 step_lone_go (by simp [stepG,stepG.exec,Frame.atR])
theorem Zg3 (id:Nat)(c:Code)(k:List Item):exitTo id (.inScope c::k)=exitTo id k:=by simp [exitTo]
theorem ZfM {F:Fence}{m:Nat}{c:Code}{Q:Exit->Act->World->Prop}{a:Act}{w:World}(h:c.wpIn F m P (λe a w=>(∀ l,e≠.goto l)/\Q e a w) a w):(Code.scope c).wpIn F m P Q a w:=by
 intro b k cs hro hb hr
 obtain ⟨e,a₁,w₁,⟨hne,hq⟩,harr⟩:=h b (.inScope c::k) cs hro hb hr
 have h0:(lone (b.atR a (.code (.scope c)::k)) cs w).fenced P F:=fenced_calm hb hr rfl
 cases e with
 | normal=>exact ⟨.normal,a₁,w₁,hq,.head h0 Zdn (StepsIn.trans harr (.one (fenced_calm hb hr rfl) Zjv))⟩
 | exit id=>exact ⟨.exit id,a₁,w₁,hq,λk' hk=>.head h0 Zdn (harr.1 k' (by rw [Zg3];exact hk)),λh1 h2=>let ⟨k₁,h3,h4⟩:=harr.2 h1 (by rw [Zg3];exact h2); ⟨k₁,h3,.head h0 Zdn h4⟩⟩
 | goto l'=>exact absurd rfl (hne l')
 | ret=>exact ⟨_,a₁,w₁,hq,.of_steps (.one h0 Zdn) harr⟩
 | panic ch=>exact ⟨_,a₁,w₁,hq,.of_steps (.one h0 Zdn) harr⟩
 | outgrown=>exact ⟨_,a₁,w₁,hq,.of_steps (.one h0 Zdn) harr⟩
theorem EvI.scope0 {b:IC}{Q:Exit->St->Prop}{s:St}(h:vc P n b (Zia Q) s):EvI P n (.scope b) s Q:=by
 intro c hc k g a w hr
 cases c<;>simp only [chkC,Zf] at hc
 rename_i c1
 refine ZfM (wpIn_mono (Zas b _ _ h c1 hc k g a w hr) ?_)
 rintro e a' w' ⟨s',g',h1,h2⟩
 cases e with
 | goto l=>exact h2.elim
 | _=>exact ⟨λ_ e=>(by cases e),s',g',h1,h2⟩
end
end Go.Eng

namespace Go.Eng
open Go
def ZeX (P:Program):List ResultVar->List RV->Bool
 | [],[]=>true
 | .tmp t::r,.tmp t'::r'=>decide (t=t')&&ZeX P r r'
 | .cell t ty::r,.cell t' m isA::r'=>decide (t=t')&&ZbY P ty m&&Zka P ty isA&&ZeX P r r'
 | _,_=>false
def chkF (P:Program)(f:Nat)(F:IFn):Bool:=match P.funcs[f]? with
 | some fn=>(match fn.body with
  | some c=>chkC P fn.ntmps c F.body&&ZeX P fn.results.toList F.res&&decide (F.nargs<=fn.ntmps)&&decide (fn.ntmps=F.nt) && !(fn.name == "runtime.NumGoroutine")
  | none=>false)
 | none=>false
@[reducible] def endQ (R:St->Prop):Exit->St->Prop
 | .normal,s | .ret,s=>R s
 | _,_=>False
def resF (tmps:Array Value):ResultVar->Sem Value
 | .tmp t=>pure (tmps.getD t undef)
 | .cell a t=>do loadVar t (← asAddr (tmps.getD a undef))
theorem ZiZ (fn:Func)(tmps:Array Value):results fn tmps=(do let vs ← fn.results.mapM (resF tmps);pure (if h:vs.size=1 then vs[0] else .tuple vs)):=rfl
section
variable {P:Program} {k:K0} {n:Nat} {g:G} {s:St} {a:Act} {w:World}
theorem ZgD:∀ (args:List AV) (i t:Nat),get (ZfL args i) t=if i<=t then (args[t-i]?).getD .any else .any
 | [],i,t=>by simp [ZfL,get]
 | v::vs,i,t=>by
  simp only [ZfL,get]
  by_cases h:i=t
  ·subst h;simp
  rw [ZX h,ZgD vs (i+1) t]
  by_cases h1:i<=t
  ·rw [ZY (by omega),ZY h1,show t-i=(t-(i+1))+1 by omega,Zt]
  rw [ZX (by omega),ZX h1]
theorem Zk2 {ok0:Addr->Prop}{ρ:List Nat}{H:List HO}{args:List AV}{vs:List Value}(hr:HR (k0 ok0 ρ H w) ρ H w)(hv:VRL (cx (k0 ok0 ρ H w) ⟨ρ,noB⟩ H w) args vs)(hno:noLocL args=true)(hn:args.length<=n) :
  Rel (k0 ok0 ρ H w) n ⟨ρ,noB⟩ ⟨ZfL args 0,[],H⟩ { tmps:=vs.toArray++Array.replicate (n-vs.toArray.size) undef,defers:=[] } w :=
 have hl:=hv.length
 {defers:=⟨[],rfl,List.nodup_nil,λD h=>(by cases h)⟩
  rnd:=λl h=>(by cases h)
  tsz:=by simp;omega
  slots:=λt=>by
   simp only [ZgD,Nat.zero_le,ZZ,Nat.sub_zero]
   cases ht:args[t]? with
   | none=>simp [VR]
   | some x =>
    have hlt:=(List.getElem?_eq_some_iff.1 ht).1
    have hlt':t<vs.length:=by omega
    have:(vs.toArray++Array.replicate (n-vs.toArray.size) undef).getD t undef=vs[t]:=by
     rw [Za,Array.getElem?_append_left (by simpa using hlt')]
     simp [hlt']
    rw [this]
    exact (ZcU.1 hv).2 t x _ ht (Zw hlt')
  tops:=λt=>by
   simp only [ZgD,Nat.zero_le,ZZ,Nat.sub_zero]
   cases ht:args[t]? with
   | none=>rfl
   | some x=>exact Zao (Za9.1 hno x (List.mem_of_getElem? ht))
  boxes:=λt cs e=>by simp [bget] at e
  boxed:=λt b e=>by cases e
  heap:=hr.heap
  len:=hr.len
  inj:=hr.inj
  binj:=λt u b e=>by cases e
  apart:=λt i b e=>by cases e
  own:=hr.own
  keep:=hr.keep
  hist:=ZaJ.refl _ }
theorem Zf5 (h:Rel k n g s a w):∀ {rs:List ResultVar} {is:List RV} {xs:List AV},ZeX P rs is=true->rawL s is=some xs →
  ∃ us:List Value,(rs.mapM (m:=Sem) (resF a.tmps)).run P w=.ok us w/\VRL (cx k g s.H w) xs us
 | [],[],xs,_,hx=>by
  simp only [rawL,ZS] at hx
  subst hx
  exact ⟨[],rfl,by rw [VRL]⟩
 | .tmp t::rs,.tmp t'::is,xs,hc,hx=>by
  simp only [ZeX,Ze,ZV] at hc
  obtain ⟨rfl,hc⟩:=hc
  simp only [rawL,rawV,ZQ] at hx
  cases hr:rawL s is with
  | none=>simp [hr] at hx
  | some ys =>
   simp only [hr,ZR,ZS] at hx
   subst hx
   obtain ⟨us,h1,h2⟩:=Zf5 h hc hr
   refine ⟨a.tmps.getD t undef::us,?_,by rw [VRL];exact ⟨_,_,rfl,h.slots t,h2⟩⟩
   rw [List.mapM_cons]
   simp only [Sem.run_bind,resF,Sem.run_pure,Result.andThen_ok,h1]
 | .cell p ty::rs,.cell p' m isA::is,xs,hc,hx=>by
  simp only [ZeX,Ze,ZV] at hc
  obtain ⟨⟨⟨rfl,hsz⟩,hag⟩,hc⟩:=hc
  simp only [rawL,rawV] at hx
  cases hrd:rd s.bx s.H m (get s.fr p) with
  | none=>simp [hrd] at hx
  | some cs =>
   simp only [hrd,ZQ] at hx
   cases hmk:mk isA cs with
   | none=>simp [hmk] at hx
   | some r =>
    simp only [hmk,ZQ] at hx
    cases hr:rawL s is with
    | none=>simp [hr] at hx
    | some ys =>
     simp only [hr,ZR,ZS] at hx
     subst hx
     obtain ⟨us,h1,h2⟩:=Zf5 h hc hr
     obtain ⟨A,vs,e,v1,v2,v3,v4⟩:=Zl0 h hrd (h.slots p)
     have hone:isA=false->m=1:=λe=>by
      have:=Zl6 hmk e
      rw [← v2,v1.length];exact this
     have hload:=ZhJ (P:=P) (w:=w) hsz hag v2 hone v4
     refine ⟨_::us,?_,by rw [VRL];exact ⟨_,_,rfl,Zok hmk v1,h2⟩⟩
     have hf:(resF a.tmps (.cell p ty)).run P w=.ok (if isA then .agg vs.toArray else vs.getD 0 undef) w:=by
      simp only [resF,Sem.run_bind,e,asAddr,Sem.run_pure,Result.andThen_ok,hload]
     rw [List.mapM_cons]
     simp only [Sem.run_bind,hf,Sem.run_pure,Result.andThen_ok,h1]
 | [],_::_,_,hc,_=>by simp [ZeX] at hc
 | .tmp _::_,[],_,hc,_=>by simp [ZeX] at hc
 | .cell _ _::_,[],_,hc,_=>by simp [ZeX] at hc
 | .tmp _::_,.cell .. :: _,_,hc,_=>by simp [ZeX] at hc
 | .cell _ _::_,.tmp _::_,_,hc,_=>by simp [ZeX] at hc
theorem ZlU {c:Cx}{xs:List AV}{us:List Value}(h:VRL c xs us):VR c (ZbF xs) (if h:us.toArray.size=1 then us.toArray[0] else .tuple us.toArray):=by
 unfold ZbF
 split
 ·obtain ⟨v,rfl,h'⟩:=Zdh h
  simpa using h'
 rename_i hne
 have hl:=h.length
 rw [dif_neg]
 ·rw [VR];exact ⟨us,rfl,h⟩
 intro e
 simp only [List.size_toArray] at e
 rw [hl] at e
 match xs,e with
 | [v],_=>exact hne v rfl
theorem Zlq (h:Rel k n g s a w){fn:Func}{is:List RV}{xs:List AV}(hc:ZeX P fn.results.toList is=true)(hx:rawL s is=some xs) :
  ∃ v,(results fn a.tmps).run P w=.ok v w/\VR (cx k g s.H w) (ZbF xs) v:=by
 obtain ⟨us,h1,h2⟩:=Zf5 (P:=P) h hc hx
 refine ⟨_,?_,ZlU h2⟩
 rw [ZiZ]
 have hm:(fn.results.mapM (m:=Sem) (resF a.tmps)).run P w=.ok us.toArray w:=by
  rw [← Array.toArray_toList (xs:=fn.results),List.mapM_toArray,Sem.run_map]
  rw [h1]
  rfl
 simp only [Sem.run_bind,hm,Result.andThen_ok,Sem.run_pure]
theorem Rel.noBoxes (h:Rel k n g s a w):ZaJ (cx k g s.H w) (cx k ⟨g.ρ,noB⟩ s.H w):=
 {stay:=λa u ho hc=>⟨hc,ho.1,λt e=>(by cases e),ho.2.2⟩
  arr:=λid sz ver frz rows e=>⟨ver,frz,rows,e,Nat.le_refl _,λ_=>⟨Nat.le_refl _,rfl,λb vs _ hb=>⟨vs,hb,rfl⟩⟩⟩
  cells:=λid cs e=>⟨⟨cs,e⟩,rfl⟩
  lp:=λ_ _ _ st e=>⟨⟨st,e⟩,rfl⟩ }
theorem Rel.toHR (h:Rel k n g s a w):HR k g.ρ s.H w :=
 {heap:=λid o e=>let ⟨b,hb,hr⟩:=h.heap id o e; ⟨b,hb,hr.later h.noBoxes λ_ hb=>hb⟩
  len:=h.len
  inj:=h.inj
  own:=h.own
  keep:=h.keep }
structure Off (w w':World) (D:Nat):Prop where
 os:w'.os=w.os
 tape:w'.tape=w.tape
 output:w'.output=w.output
 size:w'.heap.size=w.heap.size
 block:∀ i,i≠D->w'.heap[i]?=w.heap[i]?
 no:∀ vs e f,w.heap[D]?≠some (.cells vs e f)
theorem Off.put {w:World}{D:Nat}(o:Obj)(h:∀ vs e f,w.heap[D]?≠some (.cells vs e f)):Off w (w.putObj D o) D :=
 ⟨rfl,rfl,rfl,World.putObj_size,λi hi=>World.putObj_heap_other hi,h⟩
theorem Off.cell {w w':World}{D:Nat}(u:Off w w' D){a:Addr}{x:Value}(hc:w.cell? a=some x):w'.cell? a=some x:=by
 rw [World.cell?_of_block (u.block a.block (λe=>?_))];exact hc
 subst e
 unfold World.cell? at hc
 split at hc
 ·rename_i c e f h;exact u.no c e f h
 cases hc
theorem Off.blk {H H':List HO}{g g':G}{w w':World}{D:Nat}(u:Off w w' D){b:Nat}{vs:Array Value}(hb:(cx k g H w).blk b vs):(cx k g' H' w').blk b vs:=by
 obtain ⟨e,hb⟩:=hb
 exact ⟨e,(u.block b (λe'=>by subst e';exact u.no _ _ _ hb)).trans hb⟩
theorem Keep.off {D0:Nat->Prop}{w0 w w':World}{b:Nat}(h:Keep D0 w0 w)(u:Off w w' b)(hb:w0.heap.size<=b∨D0 b):Keep D0 w0 w' :=
 ⟨u.os.trans h.os,u.tape.trans h.tape,u.output.trans h.output,by rw [u.size];exact h.size,λi hi hD=>by
  rw [u.block i (λe=>by subst e;rcases hb with hb|hb;omega;exact hD hb)]
  exact h.block i hi hD⟩
theorem Znt {w':World}{D:Nat}(u:Off w w' D)(g:G)(H:List HO):ZaJ (cx k g H w) (cx k g H w'):=
 {stay:=λa x ho hc=>⟨u.cell hc,ho⟩
  arr:=λid sz ver frz rows e=>⟨ver,frz,rows,e,Nat.le_refl _,λ_=>⟨Nat.le_refl _,rfl,λb vs _ hb=>⟨vs,u.blk hb,rfl⟩⟩⟩
  cells:=λid cs e=>⟨⟨cs,e⟩,rfl⟩
  lp:=λ_ _ _ st e=>⟨⟨st,e⟩,rfl⟩ }
theorem Rel.close1 (h:Rel k n g s a w){D:Nat}{ms:List Nat}(hd:a.defers=(D::ms).map (λD=>{ target:=.collected D,args := #[] })) :
  (Instr.takeDeferred D).run P w=.ok [] (w.putObj D (.deferred none))/\Rel k n g s { a with defers:=ms.map (λD=>{ target:=.collected D,args := #[] }) } (w.putObj D (.deferred none)):=by
 obtain ⟨ms',e,hn,hm⟩:=h.defers
 have hms:ms'=D::ms:=by
  rw [hd] at e
  have hinj:Function.Injective (λD:Nat=>({ target:=.collected D,args := #[] }:Deferred)):=λx y h=>by simpa using h
  exact ((List.map_inj_right (λx y h=>hinj h)).1 e).symm
 subst hms
 obtain ⟨hge,hD⟩:=hm D (by simp)
 refine ⟨run_takeDeferred hD,?_⟩
 have u:Off w (w.putObj D (.deferred none)) D:=.put _ (λvs e f h=>by rw [hD] at h;cases h)
 have hl:=Znt (k:=k) u g s.H
 have hobj:∀ b,b≠D->∀ o,w.heap[b]?=some o->(w.putObj D (.deferred none)).heap[b]?=some o:=λb hb o ho=>(u.block b hb).trans ho
 exact
  {defers:=⟨ms,rfl,(List.nodup_cons.1 hn).2,λD' hD'=>⟨(hm D' (by simp [hD'])).1,hobj D' (λe=>by subst e;exact (List.nodup_cons.1 hn).1 hD') _ (hm D' (by simp [hD'])).2⟩⟩
   rnd:=λl hl=>let ⟨r,hr⟩:=h.rnd l hl; ⟨r,hobj l (λe=>by subst e;rw [hD] at hr;cases hr) _ hr⟩
   tsz:=h.tsz
   slots:=λt=>ZaS hl (λ_ _ e=>e) (h.tops t) (h.slots t)
   tops:=h.tops
   boxes:=λt cs e=>let ⟨b,hb,hr⟩:=h.boxes t cs e; ⟨b,hb,hr.later hl (hobj b (λe=>by
    subst e;obtain ⟨_,vs,⟨et,hr⟩,_⟩:=hr;rw [show w.heap[b]?=_ from hr] at hD;cases hD))⟩
   boxed:=h.boxed
   heap:=λid o e=>let ⟨b,hb,hr⟩:=h.heap id o e; ⟨b,hb,hr.later hl (hobj b (λe=>by subst e;exact h.notDeferred hb hD))⟩
   len:=h.len
   inj:=h.inj
   binj:=h.binj
   apart:=h.apart
   own:=h.own
   keep:=h.keep.off u (.inl hge)
   hist:=h.hist.trans hl }
theorem Rel.leaves {fn:Func}{R:Ending->World->Prop}:∀ (ms:List Nat) {a:Act} {w:World},Rel k n g s a w->a.defers=ms.map (λD=>{ target:=.collected D,args := #[] }) →
  (∀ w',Rel k n g s { a with defers:=[] } w'->∃ v,(results fn a.tmps).run P w'=.ok v w'/\R (.returned v) w')->LeavesInM (FR none) 0 P fn a.tmps R a.defers .returning w
 | [],a,w,h,hd,hR=>by
  rw [hd]
  have:a={ a with defers:=[] }:=by cases a;simp at hd;simp [hd]
  exact hR w (this ▸ h)
 | D::ms,a,w,h,hd,hR=>by
  obtain ⟨h1,h2⟩:=h.close1 (P:=P) hd
  have:=Rel.leaves (fn:=fn) (R:=R) ms h2 rfl (λw' h'=>hR w' h')
  rw [hd,ZJ]
  exact ⟨by simp,.inl ⟨D,_,rfl,h1,this⟩⟩
theorem Rel.leavesAll {fn:Func}{R:Ending->World->Prop}(h:Rel k n g s a w)(hR:∀ w',Rel k n g s { a with defers:=[] } w'->∃ v,(results fn a.tmps).run P w'=.ok v w'/\R (.returned v) w') :
  LeavesInM (FR none) 0 P fn a.tmps R a.defers .returning w:=by
 obtain ⟨ms,e,_⟩:=h.defers
 exact Rel.leaves ms h e hR
theorem Zkb {f:Nat}{F:IFn}(hk:chkF P f F=true){args:List AV}{H H':List HO}{r:AV}(hl:args.length=F.nargs)(hno:noLocL args=true)(hr:ZaF r=true)
  (h:EvI P F.nt F.body ⟨ZfL args 0,[],H⟩ (endQ λs'=>∃ xs,rawL s' F.res=some xs/\ZbF xs=r/\s'.H=H')):Zcs P f args H r H':=by
 unfold chkF at hk
 split at hk
 ·rename_i fn hf
  split at hk
  ·rename_i c hb
   simp only [Ze,ZV,Zg] at hk
   obtain ⟨⟨⟨⟨hc,hres⟩,hna⟩,hnt⟩,hname⟩:=hk
   refine ⟨⟨fn,hf,by rw [hb];rfl,hname⟩,hr,λok0 ρ w vs hhr hv=>?_⟩
   have hrel:=Zk2 (n:=fn.ntmps) hhr hv hno (by omega)
   refine Zmg (r:=none) (m:=0) (callsIn_of_wp_marks hf hb trivial (wpIn_mono (h c (by rw [← hnt];exact hc) _ _ _ _ (by rw [← hnt];exact hrel)) ?_))
   rintro e a' w' ⟨s',g',h1,h2⟩
   have key:(∃ xs,rawL s' F.res=some xs/\ZbF xs=r/\s'.H=H')->LeavesInM (FR none) 0 P fn a'.tmps (λe w'=>∃ v' ρ',e=.returned v'/\HR (k0 ok0 ρ H w) ρ' H' w'/\VR (cx (k0 ok0 ρ H w) ⟨ρ',noB⟩ H' w') r v' ∧
     ZaJ (cx (k0 ok0 ρ H w) ⟨ρ,noB⟩ H w) (cx (k0 ok0 ρ H w) ⟨ρ',noB⟩ H' w')) a'.defers .returning w':=by
    rintro ⟨xs,x1,rfl,rfl⟩
    refine h1.leavesAll λw2 h2=>?_
    obtain ⟨v,v1,v2⟩:=Zlq h2 hres x1
    exact ⟨v,v1,v,g'.ρ,rfl,h2.toHR,VR.later h2.noBoxes _ _ hr v2,h2.hist.trans h2.noBoxes⟩
   cases e with
   | normal=>exact key h2
   | ret=>exact key h2
   | _=>exact h2.elim
  cases hk
 cases hk
theorem ZhU {ok0:Addr->Prop}{w0:World}(h:Rel (k0 ok0 [] [] w0) n g s a w){x r:AV}{v:Value}(hp:Zky s.H x=some r)(hv:VR (cx (k0 ok0 [] [] w0) g s.H w) x v) :
  VR (cx (k0 ok0 [] [] w0) ⟨[],noB⟩ [] w) r v/\Zfe r=true:=by
 have hst:Stay (okOf (k0 ok0 [] [] w0) s.H g) (okOf (k0 ok0 [] [] w0) [] ⟨[],noB⟩) w w:=λa u ho hc=>⟨hc,ho.1,λt e=>(by cases e),λid e=>by simp at e⟩
 unfold Zky at hp
 split at hp
 ·simp only [ZS] at hp
  subst hp
  exact ⟨VR.weak1 (Zgo hst rfl hv),rfl⟩
 ·simp only [ZS] at hp
  subst hp
  exact ⟨Zgo hst rfl hv,rfl⟩
 ·rename_i sz id ver off len
  split at hp
  ·rename_i sz' ver' frz rows hH
   split at hp
   ·rename_i hcond
    obtain ⟨rfl,rfl⟩:=hcond
    cases hs:sub off len rows with
    | none=>simp [hs] at hp
    | some r0 =>
     simp only [hs,ZR,ZS] at hp
     subst hp
     refine ⟨?_,rfl⟩
     obtain ⟨h1,hl,hv2,_⟩:=ZdZ (x:=.osl sz' id ver' off len) (x':=.p (.sl sz' false r0)) (H':=s.H.set id (.arr sz' ver' true rows)) h (by simp [frz1,hH,hs]) hv
     exact Zgo (c:=cx (k0 ok0 [] [] w0) g (s.H.set id (.arr sz' ver' true rows)) w) (c':=cx (k0 ok0 [] [] w0) ⟨[],noB⟩ [] w) (λa u ho hc=>⟨hc,ho.1,λt e=>(by cases e),λid e=>by simp at e⟩) rfl hv2
   cases hp
  cases hp
 cases hp
theorem ZhT {ok0:Addr->Prop}{w0:World}(h:Rel (k0 ok0 [] [] w0) n g s a w):∀ {xs rs:List AV} {vs:List Value},Zhk s.H xs=some rs->VRL (cx (k0 ok0 [] [] w0) g s.H w) xs vs →
  VRL (cx (k0 ok0 [] [] w0) ⟨[],noB⟩ [] w) rs vs/\Zfd rs=true
 | [],rs,vs,hp,hv=>by
  simp only [Zhk,ZS] at hp
  subst hp
  rw [VRL] at hv ⊢
  exact ⟨hv,rfl⟩
 | x::xs,rs,vs,hp,hv=>by
  simp only [Zhk] at hp
  cases h1:Zky s.H x with
  | none=>simp [h1] at hp
  | some y =>
   simp only [h1,ZQ] at hp
   cases h2:Zhk s.H xs with
   | none=>simp [h2] at hp
   | some ys =>
    simp only [h2,ZR,ZS] at hp
    subst hp
    rw [VRL] at hv
    obtain ⟨u,us,rfl,v1,v2⟩:=hv
    obtain ⟨a1,a2⟩:=ZhU h h1 v1
    obtain ⟨b1,b2⟩:=ZhT h h2 v2
    exact ⟨by rw [VRL];exact ⟨u,us,rfl,a1,b1⟩,by simp [Zfd,a2,b2]⟩
theorem Zls {ok0:Addr->Prop}{w0:World}(h:Rel (k0 ok0 [] [] w0) n g s a w){x r:AV}{v:Value}(hp:Zgv s.H x=some r)(hv:VR (cx (k0 ok0 [] [] w0) g s.H w) x v) :
  VR (cx (k0 ok0 [] [] w0) ⟨[],noB⟩ [] w) r v/\Zff r=true:=by
 unfold Zgv at hp
 split at hp
 ·rename_i cs
  cases h1:Zhk s.H cs with
  | none=>simp [h1] at hp
  | some rs =>
   simp only [h1,ZR,ZS] at hp
   subst hp
   rw [VR] at hv
   obtain ⟨vs,rfl,hv⟩:=hv
   obtain ⟨a1,a2⟩:=ZhT h h1 hv
   exact ⟨by rw [VR];exact ⟨vs,rfl,a1⟩,by simpa [Zff] using a2⟩
 obtain ⟨a1,a2⟩:=ZhU h hp hv
 refine ⟨a1,?_⟩
 cases r<;>simp_all [Zff,Zfe]
theorem Zoa {is:List RV}{rs:List AV}(h:resL s is=some rs):∃ xs,rawL s is=some xs/\xs.length=rs.length/\∀ (j:Nat) x r,xs[j]?=some x->rs[j]?=some r->Zgv s.H x=some r:=by
 induction is generalizing rs with
 | nil=>simp only [resL,ZS] at h;subst h;exact ⟨[],rfl,rfl,by simp⟩
 | cons i is ih =>
  simp only [resL] at h
  cases h1:resV s i with
  | none=>simp [h1] at h
  | some y =>
   simp only [h1,ZQ] at h
   cases h2:resL s is with
   | none=>simp [h2] at h
   | some ys =>
    simp only [h2,ZR,ZS] at h
    subst h
    obtain ⟨xs,a1,a2,a3⟩:=ih h2
    have:∃ x,rawV s i=some x/\Zgv s.H x=some y:=by
     cases i with
     | tmp t=>exact ⟨get s.fr t,rfl,h1⟩
     | cell t m b =>
      simp only [resV] at h1
      cases h3:(rd s.bx s.H m (get s.fr t)).bind (mk b) with
      | none=>simp [h3] at h1
      | some x=>exact ⟨x,h3,by simpa [h3] using h1⟩
    obtain ⟨x,x1,x2⟩:=this
    refine ⟨x::xs,by simp [rawL,x1,a1],by simp [a2],λj x' r' hx hr=>?_⟩
    cases j with
    | zero=>simp at hx hr;subst hx hr;exact x2
    | succ j=>exact a3 j x' r' (by simpa using hx) (by simpa using hr)
theorem ZaD {f:Nat}{F:IFn}(hk:chkF P f F=true){args:List AV}{r:AV}(hl:args.length=F.nargs)(hpa:ZeQ args=true)
  (h:EvI P F.nt F.body ⟨ZfL args 0,[],[]⟩ (endQ λs'=>∃ xs,resL s' F.res=some xs/\ZbF xs=r)) (hpr:Zfc r=true):Zbc P f args r:=by
 refine ⟨hpr,hpa,?_⟩
 unfold chkF at hk
 split at hk
 ·rename_i fn hf
  split at hk
  ·rename_i c hb
   simp only [Ze,ZV,Zg] at hk
   obtain ⟨⟨⟨⟨hc,hres⟩,hna⟩,hnt⟩,hname⟩:=hk
   have hno:ZaF r=true:=by
    cases r with
    | tup vs=>simpa [ZaF] using Zdw (by simpa [Zfc] using hpr)
    | _=>exact Zi1 (by simpa [Zfc] using hpr)
   refine ⟨⟨fn,hf,by rw [hb];rfl,hname⟩,hno,λok0 ρ w vs hhr hv=>?_⟩
   have hρ:ρ=[]:=List.eq_nil_of_length_eq_zero hhr.len
   subst hρ
   have hrel:=Zk2 (n:=fn.ntmps) hhr hv (Zdw hpa) (by omega)
   refine Zmg (r:=none) (m:=0) (callsIn_of_wp_marks hf hb trivial (wpIn_mono (h c (by rw [← hnt];exact hc) _ _ _ _ (by rw [← hnt];exact hrel)) ?_))
   rintro e a' w' ⟨s',g',h1,h2⟩
   have key:(∃ xs,resL s' F.res=some xs/\ZbF xs=r)->LeavesInM (FR none) 0 P fn a'.tmps (λe w'=>∃ v' ρ',e=.returned v'/\HR (k0 ok0 [] [] w) ρ' [] w'/\VR (cx (k0 ok0 [] [] w) ⟨ρ',noB⟩ [] w') r v' ∧
     ZaJ (cx (k0 ok0 [] [] w) ⟨[],noB⟩ [] w) (cx (k0 ok0 [] [] w) ⟨ρ',noB⟩ [] w')) a'.defers .returning w':=by
    rintro ⟨rs,x1,rfl⟩
    obtain ⟨xs,y1,y2,y3⟩:=Zoa x1
    refine h1.leavesAll λw2 h2'=>?_
    have hkp:∀ i,i<w.heap.size->w2.heap[i]?=w.heap[i]?:=λi hi=>h2'.keep.block i hi (λ⟨j,hj⟩=>by simp at hj)
    have hg:Grow w w2:=⟨h2'.keep.os,h2'.keep.tape,h2'.keep.output,h2'.keep.size,hkp⟩
    obtain ⟨us,h3,h4⟩:=Zf5 (P:=P) h2' hres y1
    have h5:VRL (cx (k0 ok0 [] [] w) ⟨[],noB⟩ [] w2) rs us:=by
     rw [ZcU] at h4 ⊢
     refine ⟨by omega,λj r u hr hu=>?_⟩
     have hjl:j<xs.length:=by rw [y2];exact (List.getElem?_eq_some_iff.1 hr).1
     have hx:=Zw hjl
     exact (Zls h2' (y3 j _ r hx hr) (h4.2 j _ u hx hu)).1
    refine ⟨_,?_,_,[],rfl,?_,ZlU h5,ZcW hg []⟩
    ·rw [ZiZ]
     have hm:(fn.results.mapM (m:=Sem) (resF a'.tmps)).run P w2=.ok us.toArray w2:=by
      rw [← Array.toArray_toList (xs:=fn.results),List.mapM_toArray,Sem.run_map,h3]
      rfl
     simp only [Sem.run_bind,hm,Result.andThen_ok,Sem.run_pure]
    exact
     {heap:=λid o e=>by simp at e
      len:=rfl
      inj:=λi j b e=>by simp at e
      own:=λi b e=>by simp at e
      keep:=h2'.keep }
   cases e with
   | normal=>exact key h2
   | ret=>exact key h2
   | _=>exact h2.elim
  cases hk
 cases hk
end
end Go.Eng

namespace Go.Eng
open Go
abbrev Zlg:=Nat->List AV->List HO->Option (AV×List HO)
def Zf1 (call:Zlg)(i:Ins)(s:St):Option St :=
 match i with
 | .call d f xs=>(frzL s.H (xs.map (ev s.fr))).bind λ(args,H1)=>(call f args H1).map λ(r,H2)=>⟨putO s.fr d r,s.bx,H2⟩
 | .callP d f xs=>if ZeQ (weakVs (xs.map (ev s.fr))) then (call f (weakVs (xs.map (ev s.fr))) []).bind λ(r,H2)=>if H2.isEmpty&&Zfc r then some ⟨put s.fr d r,s.bx,s.H⟩ else none else none
 | .callV d fx xs=>match ev s.fr fx with
  | .fn f first cap=>(frzL s.H (first++xs.map (ev s.fr)++cap)).bind λ(args,H1)=>(call f args H1).map λ(r,H2)=>⟨putO s.fr d r,s.bx,H2⟩
  | _=>none
 | i=>ZaG i s
def opF (call:Zlg)(o:IOp)(s:St):Option St :=
 match o.g with
 | none=>if bnOK o s.fr=true then Zf1 call o.i s else none
 | some (t,want)=>match get s.fr t with
  | .p (.bool b)=>if b=want then (if bnOK o s.fr=true then Zf1 call o.i s else none) else some ⟨putO s.fr (dstI o.i) (.nl .unit),s.bx,s.H⟩
  | .nl .unit=>some ⟨putO s.fr (dstI o.i) (.nl .unit),s.bx,s.H⟩
  | _=>none
def opsF (call:Zlg):List IOp->St->Option St
 | [],s=>some s
 | o::os,s=>(opF call o s).bind (opsF call os)
section
variable {P:Program} {n N:Nat}
def ZhA (P:Program)(call:Zlg):Prop:=∀ f args H r H',call f args H=some (r,H')->Zcs P f args H r H'
theorem ZhF {call:Zlg}(hc:ZhA P call){i:Ins}{s s':St}(h:Zf1 call i s=some s'):Zap P i s s':=by
 cases i with
 | call d f xs =>
  simp only [Zf1] at h
  cases h1:frzL s.H (xs.map (ev s.fr)) with
  | none=>simp [h1] at h
  | some p =>
   obtain ⟨args,H1⟩:=p
   simp only [h1,ZQ] at h
   cases h2:call f args H1 with
   | none=>simp [h2] at h
   | some q =>
    obtain ⟨r,H2⟩:=q
    simp only [h2,ZR,ZS] at h
    exact ⟨args,H1,r,H2,.frz h1,hc _ _ _ _ _ h2,h.symm⟩
 | callP d f xs =>
  simp only [Zf1] at h
  split at h
  ·rename_i hp
   cases h2:call f (weakVs (xs.map (ev s.fr))) [] with
   | none=>simp [h2] at h
   | some q =>
    obtain ⟨r,H2⟩:=q
    simp only [h2,ZQ] at h
    split at h
    ·rename_i hcond
     simp only [Ze,List.isEmpty_iff] at hcond
     obtain ⟨rfl,hpr⟩:=hcond
     simp only [ZS] at h
     exact ⟨r,⟨hpr,hp,hc _ _ _ _ _ h2⟩,h.symm⟩
    cases h
  cases h
 | callV d fx xs =>
  simp only [Zf1] at h
  split at h
  ·rename_i f first cap h0
   cases h1:frzL s.H (first++xs.map (ev s.fr)++cap) with
   | none=>rw [h1] at h;cases h
   | some p =>
    obtain ⟨args,H1⟩:=p
    simp only [h1,ZQ] at h
    cases h2:call f args H1 with
    | none=>simp [h2] at h
    | some q =>
     obtain ⟨r,H2⟩:=q
     simp only [h2,ZR,ZS] at h
     exact ⟨f,first,cap,args,H1,r,H2,h0,.frz h1,hc _ _ _ _ _ h2,h.symm⟩
  cases h
 | callY d fx xs=>simp [Zf1,ZaG] at h
 | callQ d f xs=>simp [Zf1,ZaG] at h
 | sp d q xs=>simp [Zf1,ZaG] at h
 | _=>exact h
theorem Znl {call:Zlg}(hc:ZhA P call){o:IOp}{s s':St}(h:opF call o s=some s'):AOp P o s s':=by
 unfold opF at h
 unfold AOp
 split at h
 ·rename_i hg
  rw [hg]
  split at h
  ·rename_i hb;exact ⟨hb,ZhF hc h⟩
  cases h
 rename_i t want hg
 rw [hg]
 simp only
 split at h
 ·rename_i b hget
  rw [hget]
  simp only
  split at h
  ·rename_i hb
   rw [ZY hb]
   split at h
   ·rename_i hbn;exact ⟨hbn,ZhF hc h⟩
   cases h
  rename_i hb;rw [ZX hb];simp only [ZS] at h;exact h.symm
 ·rename_i hget
  rw [hget]
  simp only [ZS] at h
  exact h.symm
 cases h
theorem Zi0 {call:Zlg}(hc:ZhA P call):∀ {os:List IOp} {s s':St},opsF call os s=some s'->Z1 P os s s'
 | [],s,s',h=>by simp only [opsF,ZS] at h;exact h.symm
 | o::os,s,s',h=>by
  simp only [opsF] at h
  cases h1:opF call o s with
  | none=>simp [h1] at h
  | some s1=>simp only [h1,ZQ] at h;exact ⟨s1,Znl hc h1,Zi0 hc h⟩
theorem EvI.loopR {b:IC}{Q:Exit->St->Prop}{α:Type}(R:α->St->Prop)(μ:α->Nat)
  (round:∀ x s,R x s->EvI P n b s (Zg8 (λs'=>∃ y,R y s'/\μ y<μ x) Q)) (x:α) (s:St) (h:R x s):EvI P n (.loop b) s Q:=by
 intro c hc k g a w hr
 cases c<;>simp only [chkC,Zf] at hc
 rename_i c1
 refine Zjo (R:=λx a w=>∃ s,R x s/\∃ g,Rel k n g s a w) μ (λx a w h=>?_) x a w ⟨s,h,g,hr⟩
 obtain ⟨s,hx,g,hr⟩:=h
 refine wpIn_mono (round x s hx c1 hc k g a w hr) ?_
 rintro e a' w' ⟨s',g',h1,h2⟩
 cases e with
 | normal =>
  obtain ⟨y,hy,hlt⟩:=h2
  exact ⟨y,⟨s',hy,g',h1⟩,hlt⟩
 | _=>exact ⟨s',g',h1,h2⟩
end
end Go.Eng

namespace Go.Eng
open Go Go.RowKit Go.WideShapes Go.ChangeShapes
theorem Zbc.run {P:Program}{f:Nat}{args:List AV}{r:AV}(h:Zbc P f args r)(ok0:Addr->Prop)(w:World)(vs:List Value)
  (hv:VRL (cx (k0 ok0 [] [] w) ⟨[],noB⟩ [] w) args vs) :
  Calls P f vs.toArray w λe w'=>∃ v,e=.returned v/\Below w.heap.size w w'/\VR (cx (k0 ok0 [] [] w) ⟨[],noB⟩ [] w') r v:=by
 obtain ⟨_,_,hc⟩:=h
 have hr0:HR (k0 ok0 [] [] w) [] [] w :=
  {heap:=λid o e=>by simp at e
   len:=rfl
   inj:=λi j b e=>by simp at e
   own:=λi b e=>by simp at e
   keep:=Keep.refl _ _ }
 refine (hc.2.2 ok0 [] w vs hr0 hv).mono ?_
 rintro e w' ⟨v,ρ',rfl,h1,h2,_⟩
 have hρ:ρ'=[]:=List.eq_nil_of_length_eq_zero h1.len
 subst hρ
 refine ⟨v,rfl,⟨h1.keep.os,h1.keep.tape,h1.keep.output,h1.keep.size,λk hk=>h1.keep.block k hk (λ⟨id,e⟩=>by simp at e)⟩,h2⟩
theorem Zbc.run_bool {P:Program}{f:Nat}{args:List AV}{b:Bool}(h:Zbc P f args (.p (.bool b)))(ok0:Addr->Prop)(w:World)(vs:List Value)
  (hv:VRL (cx (k0 ok0 [] [] w) ⟨[],noB⟩ [] w) args vs) :
  Calls P f vs.toArray w λe w'=>e=.returned (.bool b)/\Below w.heap.size w w':=by
 refine (h.run ok0 w vs hv).mono ?_
 rintro e w' ⟨v,rfl,hb,hv⟩
 exact ⟨by rw [VR,PR] at hv;rw [hv],hb⟩
theorem post_of_below {H:Type}{enc:TypeId×Value->H}{P:Program}{f:Func}{s:ChangeSpec}{apart fresh handsOn again:Bool}{W W':World}{args:Array Value}{v:Value}{ds gs:List (DataW H)}{before pa pv:List MemPlace}
  (hW:DataW.Whole enc P f.params.toList s.vars apart W args.toList ds gs before)
  (hres:∀ (b:Nat) (sp:Nat->Bool) (hd:Bool),DataW.TrodAll enc P W' b sp hd f.resultTypes.toList (v.resultList f.resultTypes.size) (s.fn H (ds++gs)).results [])
  (hargs:∀ sp:Nat->Bool,(∀ p∈before,sp p.block=true)->DataW.TrodAll enc P W' 0 sp true f.params.toList args.toList (s.fn H (ds++gs)).args pa)
  (hvars:∀ sp:Nat->Bool,(∀ p∈before,sp p.block=true)->DataW.TrodVars enc P W' sp s.vars (s.fn H (ds++gs)).vars pv)
  (hps:before=pa++pv) (hb:Below W.heap.size W W')
  (hok:∀ (j:Nat) (t:TypeId) (r:Value),f.resultTypes[j]?=some t->(v.resultList f.resultTypes.size)[j]?=some r->Value.okWide P W' .any 0 t r) :
  s.post enc P f apart fresh handsOn again W args v W':=by
 have hlt:∀ p∈before,p.block<W.heap.size:=λp hp=>hW.lt p hp
 have hold:∀ p∈before,(λb=>decide (b<W.heap.size)) p.block=true:=λp hp=>by simpa using hlt p hp
 refine ⟨ds,gs,before,[],pa,pv,hW,hres _ _ _,hargs _ hold,hvars _ hold,World.keptBut_mono (λp hp=>⟨hp,?_⟩) (hb.frame (· ∈ before)),λ_=>?_⟩
 ·rw [hps,List.mem_append] at hp
  exact Or.inr hp
 obtain ⟨_,_,_,_,_,hz,hn⟩:=hW
 refine ⟨hok,_,_,([]++pa)++pv,⟨[]++pa,pv,trodAll_append (hargs _ (λ_ _=>rfl)) (hres _ _ _),hvars _ (λ_ _=>rfl),rfl,?_,?_⟩,?_⟩
 ·intro b off hp
  have hin:MemPlace.cell b off∈before:=by rw [hps];simpa using hp
  rw [hb.frozen (hlt _ hin)]
  exact hz b off hin
 ·intro ha
  have:=hn ha
  rw [hps] at this
  simpa using this
 intro p hp _
 rw [hps]
 simpa using hp
end Go.Eng

