/- Part of the proof; written by a program out of the texts in wip/. -/
import Derived.Test.YthipedbbcjemhaaGreatPlanCoversE12
set_option linter.unusedVariables false
set_option linter.unusedSimpArgs false
namespace Go.Eng
open Go
structure Eqv (s t:St):Prop where
 fr:∀ x,get s.fr x=get t.fr x
 bx:∀ x,bget s.bx x=bget t.bx x
 H:s.H=t.H
theorem Eqv.refl (s:St):Eqv s s:=⟨fun _=>rfl,fun _=>rfl,rfl⟩
theorem Eqv.symm {s t:St} (h:Eqv s t):Eqv t s:=⟨fun x=>(h.fr x).symm,fun x=>(h.bx x).symm,h.H.symm⟩
theorem Eqv.trans {s t u:St} (h:Eqv s t) (h':Eqv t u):Eqv s u:=⟨fun x=>(h.fr x).trans (h'.fr x),fun x=>(h.bx x).trans (h'.bx x),h.H.trans h'.H⟩
theorem Rel.eqv {k:K0} {n:Nat} {g:G} {s t:St} {a:Act} {w:World} (h:Rel k n g s a w) (e:Eqv s t):Rel k n g t a w:=by
 obtain ⟨fr,bx,H⟩:=s
 obtain ⟨fr',bx',H'⟩:=t
 obtain ⟨e1,e2,e3⟩:=e
 simp only at e1 e2 e3
 subst e3
 exact { h with
  slots:=fun x=>by rw [← e1];exact h.slots x
  tops:=fun x=>by rw [← e1];exact h.tops x
  boxes:=fun t cs e=>h.boxes t cs (by rw [e2];exact e)
  boxed:=fun t b e=>let ⟨⟨cs,hc⟩,hb⟩:=h.boxed t b e; ⟨⟨cs,by rw [← e2];exact hc⟩,hb⟩ }
def ixT:IX→List Nat
 | .t n=>[n]
 | .k _=>[]
def ixK:IX→Bool
 | .t _=>true
 | .k v=>ZX v
def ZcS:Ins→List IX
 | .val _ _ xs=>xs
 | .load _ x _ _=>[x]
 | .loadL _ x _ _=>[x]
 | .loadH _ x _ _=>[x]
 | .loadI _ x _ _=>[x]
 | .appN _ x y _ _=>[x,y]
 | .store x y _=>[x,y]
 | .storeH x y _=>[x,y]
 | .newL .. => []
 | .boxL _ x=>[x]
 | .newH .. => []
 | .boxH _ x=>[x]
 | .mkSl _ x y _ _=>[x,y]
 | .app _ x y _ _=>[x,y]
 | .litSl _ _ xs=>xs
 | .litP _ _ xs=>xs
 | .mkC .. => []
 | .call _ _ xs=>xs
 | .callP _ _ xs=>xs
 | .callQ _ _ xs=>xs
 | .callV _ x xs=>x::xs
 | .callY _ x xs=>x::xs
 | .sp _ _ xs=>xs
def ZaC (i:Ins):List Nat:=(ZcS i).flatMap ixT
def ZbG (o:IOp):List Nat:=(match o.g with
 | some (t,_)=>[t]
 | none=>[])++ZaC o.i
def ZU:Ins→Nat
 | .val .. | .callP .. | .litP .. | .mkC .. | .loadI .. => 0
 | .load .. | .callQ .. => 1
 | .loadL .. => 4
 | .newL .. | .boxL .. => 3
 | .store .. => 2
 | .newH .. | .boxH .. | .litSl .. | .mkSl .. | .appN .. => 6
 | .loadH .. => 7
 | _=>5
def Zqf (a b:Nat):Bool:=match a,b with
 | 0,0 | 0,1 | 1,0 | 1,1 | 0,2 | 2,0=>true
 | 3,0 | 3,1 | 3,2 | 0,3 | 1,3 | 2,3 | 3,3=>true
 | 4,0 | 0,4 | 4,1 | 1,4 | 4,4 | 4,5 | 5,4 | 0,5 | 5,0 | 3,4 | 4,3 | 3,5 | 5,3=>true
 | 6,0 | 0,6 | 1,6 | 6,4 | 4,6 | 6,3 | 3,6=>true
 | 7,0 | 0,7 | 7,1 | 1,7 | 7,7 | 3,7 | 7,3 | 7,4 | 4,7 | 7,6=>true
 | _,_=>false
def Zop (x y:IOp):Bool:=((ZU x.i==2&&ZU y.i==4)||(ZU x.i==4&&ZU y.i==2))&&(match x.bn,y.bn with
 | some a,some b=>decide (a ≠ b)
 | _,_=>false)
def Zqk (x y:IOp):Bool:=(ZU x.i==2&&x.bn.isSome&&ZU y.i==7)||(ZU x.i==7&&ZU y.i==2&&y.bn.isSome)
def Zf8 (k:Nat):Prop:=k=0∨k=1∨k=4∨k=7
def ZlR (d:Option Nat) (l:List Nat):Bool:=match d with
 | some d => !l.elem d
 | none=>true
def Zpv (x y:IOp):Bool :=
 (Zqf (ZU x.i) (ZU y.i)||Zop x y||Zqk x y)&&ZlR (dstI x.i) (ZbG y)&&ZlR (dstI y.i) (ZbG x)&&(match dstI x.i,dstI y.i with
  | some d,some e=>decide (d ≠ e)
  | _,_=>true)
def Zjh (d:Nat) (fr:List (Nat × AV)):Prop:=∀ u o,u ≠ d→get fr u ≠ .loc d o
def ZgJ (fr:List (Nat × AV)) (l:List Nat) (q:Nat):Prop:=∃ x ∈ l,∃ o,get fr x = .loc q o
def Zez (bx:List (Nat × List AV)):Option (Nat × List AV)→List (Nat × List AV)
 | none=>bx
 | some (q,b)=>bput bx q b
structure Shape (P:Program) (o:IOp) (s s':St) (v:AV) (bw:Option (Nat × List AV)) (H':List HO):Prop where
 out:s'=⟨putO s.fr (dstI o.i) v,Zez s.bx bw,H'⟩
 again:∀ t:St,(∀ x ∈ ZbG o,get t.fr x=get s.fr x)→(∀ q,ZgJ s.fr (ZbG o) q→bget t.bx q=bget s.bx q)→t.H=s.H→AOp P o t ⟨putO t.fr (dstI o.i) v,Zez t.bx bw,H'⟩
 quiet:Zf8 (ZU o.i)→bw=none∧H'=s.H
 boxed:ZU o.i=5∨ZU o.i=6→bw=none
 more6:ZU o.i=6→∃ e,H'=s.H++e
 heap7:ZU o.i=7→∀ t:St,(∀ x ∈ ZbG o,get t.fr x=get s.fr x)→t.H=s.H→AOp P o t ⟨putO t.fr (dstI o.i) v,t.bx,t.H⟩
 grow1:ZU o.i=1∨ZU o.i=7→∀ (t:St) (e:List HO),(∀ x ∈ ZbG o,get t.fr x=get s.fr x)→(∀ q,ZgJ s.fr (ZbG o) q→bget t.bx q=bget s.bx q)→t.H=s.H++e→AOp P o t ⟨putO t.fr (dstI o.i) v,t.bx,t.H⟩
 bnW:ZU o.i=2→∀ b,o.bn=some b→H'=s.H∧∀ q,q ≠ b→bget (Zez s.bx bw) q=bget s.bx q
 bnR:ZU o.i=4→∀ b,o.bn=some b→∀ t:St,(∀ x ∈ ZbG o,get t.fr x=get s.fr x)→bget t.bx b=bget s.bx b→AOp P o t ⟨putO t.fr (dstI o.i) v,t.bx,t.H⟩
 local4:ZU o.i=4→∀ t:St,(∀ x ∈ ZbG o,get t.fr x=get s.fr x)→(∀ q,ZgJ s.fr (ZbG o) q→bget t.bx q=bget s.bx q)→AOp P o t ⟨putO t.fr (dstI o.i) v,t.bx,t.H⟩
 blind:ZU o.i=0→∀ t:St,(∀ x ∈ ZbG o,get t.fr x=get s.fr x)→AOp P o t ⟨putO t.fr (dstI o.i) v,t.bx,t.H⟩
 named:∀ q b,bw=some (q,b)→ZgJ s.fr (ZbG o) q
 src:∀ d off,v = .loc d off→ZgJ s.fr (ZbG o) d
theorem ZbC {fr fr':List (Nat × AV)} {x:IX} (h:∀ t ∈ ixT x,get fr' t=get fr t):ev fr' x=ev fr x:=by
 cases x with
 | t n=>exact h n (by simp [ixT])
 | k v=>rfl
theorem Zel {fr fr':List (Nat × AV)} {xs:List IX} (h:∀ t ∈ xs.flatMap ixT,get fr' t=get fr t):xs.map (ev fr')=xs.map (ev fr):=by
 apply List.map_congr_left
 intro x hx
 exact ZbC fun t ht=>h t (List.mem_flatMap.2 ⟨x,hx,ht⟩)
theorem ZqK {bx:List (Nat × List AV)} {H:List HO} {cs:List AV} {x:AV} {m:Mem} (hx:ZnG x=false) (h:wrt bx H cs x=some m):m.bx=bx∧∀ bx',wrt bx' H cs x=some ⟨bx',m.H⟩:=by
 cases x with
 | loc t o=>simp [ZnG] at hx
 | ptr id off =>
  simp only [wrt] at h ⊢
  split at h
  ·rename_i b hb
   cases hs:Zbr off cs b with
   | none=>simp [hs] at h
   | some b' =>
    simp only [hs,Option.map_some,Option.some.injEq] at h
    subst h
    exact ⟨rfl,fun bx'=>by simp⟩
  ·cases h
 | optr sz id ver i off =>
  simp only [wrt] at h ⊢
  split at h
  ·rename_i sz' ver' rows hb
   split at h
   ·rename_i hc
    simp only [hc,and_self,if_true]
    cases hr:rows[i]? with
    | none=>simp [hr] at h
    | some r =>
     simp only [hr,Option.bind_some] at h ⊢
     cases hu:unP cs with
     | none=>simp [hu] at h
     | some ps =>
      simp only [hu,Option.bind_some] at h ⊢
      cases hs:Zbr off ps r with
      | none=>simp [hs] at h
      | some r' =>
       simp only [hs,Option.map_some,Option.some.injEq] at h ⊢
       subst h
       exact ⟨rfl,fun bx'=>rfl⟩
   ·cases h
  ·cases h
 | _=>simp [wrt] at h
theorem Zq9 {fr:List (Nat × AV)} {x:IX} (hk:ixK x=true) {d o:Nat} (h:ev fr x = .loc d o):∃ t ∈ ixT x,get fr t = .loc d o:=by
 cases x with
 | t n=>exact ⟨n,by simp [ixT],h⟩
 | k v=>simp only [ev] at h;subst h;simp [ixK,ZX] at hk
theorem Zl4 {o:Nat} {x:AV} {d off:Nat} (h:Zjx o x=some (.loc d off)):∃ o',x = .loc d o':=by
 unfold Zjx at h
 split at h<;>simp_all
theorem Zrx {b:Bool} {cs:List AV} {d off:Nat} (h:mk b cs=some (.loc d off)) : .loc d off ∈ cs:=by
 unfold mk at h
 split at h
 ·simp at h
 ·split at h
  ·simp only [Option.some.injEq] at h;simp [h]
  ·cases h
theorem ZpO {α:Type} {off n:Nat} {l r:List α} (h:sub off n l=some r) {x:α} (hx:x ∈ r):x ∈ l:=by
 obtain ⟨_,rfl⟩:=Zf6 h
 exact List.mem_of_mem_drop (List.mem_of_mem_take hx)
theorem Zpa {sz:Nat} {lo hi mx:Bool} {x:AV} {vs:List AV} {d off:Nat} (h:ZhF sz lo hi mx x vs=some (.loc d off)):False:=by
 unfold ZhF at h
 split at h
 ·cases h1:Zey lo 0 vs with
  | none=>simp [h1] at h
  | some p =>
   simp only [h1,Option.bind_some] at h
   rename_i rows
   cases h2:Zey hi rows.length p.2 with
   | none=>simp [h2] at h
   | some q =>
    simp only [h2,Option.bind_some] at h
    cases h3:Zey mx q.1 q.2 with
    | none=>simp [h3] at h
    | some r =>
     simp only [h3,Option.bind_some] at h
     split at h<;>simp at h
 ·cases h1:Zey lo 0 vs with
  | none=>simp [h1] at h
  | some p =>
   simp only [h1,Option.bind_some] at h
   rename_i len
   cases h2:Zey hi len p.2 with
   | none=>simp [h2] at h
   | some q =>
    simp only [h2,Option.bind_some] at h
    split at h<;>simp at h
 ·cases h
def formS:AV→Prop
 | .p _ | .osl .. => True
 | .loc .. => True
 | _=>False
theorem sliceV_form' {sz:Nat} {lo hi mx:Bool} {x:AV} {vs:List AV} {r:AV} (h:ZhF sz lo hi mx x vs=some r):formS r:=by
 unfold ZhF at h
 split at h
 ·cases h1:Zey lo 0 vs with
  | none=>simp [h1] at h
  | some p =>
   simp only [h1,Option.bind_some] at h
   rename_i rows
   cases h2:Zey hi rows.length p.2 with
   | none=>simp [h2] at h
   | some q =>
    simp only [h2,Option.bind_some] at h
    cases h3:Zey mx q.1 q.2 with
    | none=>simp [h3] at h
    | some r =>
     simp only [h3,Option.bind_some] at h
     split at h<;>simp at h
     subst h;trivial
 ·cases h1:Zey lo 0 vs with
  | none=>simp [h1] at h
  | some p =>
   simp only [h1,Option.bind_some] at h
   rename_i len
   cases h2:Zey hi len p.2 with
   | none=>simp [h2] at h
   | some q =>
    simp only [h2,Option.bind_some] at h
    split at h<;>simp at h
    subst h;trivial
 ·cases h
theorem Zn2 {sz:Nat} {lo hi mx:Bool} {x:AV} {vs:List AV} {r:AV} (h:ZhF sz lo hi mx x vs=some r):formS r:=sliceV_form' h
theorem ZpM {v:VI} {xs:List AV} {d off:Nat} (h:Z7 v xs=some (.loc d off)) (htop:∀ x ∈ xs,top x=true):∃ o',AV.loc d o' ∈ xs:=by
 have hag:∀ cs:List AV,AV.agg cs ∈ xs→AV.loc d off ∈ cs→False:=fun cs h1 h2=>by
  have:=htop _ h1
  have h3:noLocL cs=true:=by simpa [top,ZX] using this
  have:=Zbb.1 h3 _ h2
  simp [ZX] at this
 have htu:∀ cs:List AV,AV.tup cs ∈ xs→AV.loc d off ∈ cs→False:=fun cs h1 h2=>by
  have:=htop _ h1
  have h3:noLocL cs=true:=by simpa [top,ZX] using this
  have:=Zbb.1 h3 _ h2
  simp [ZX] at this
 cases v with
 | mov=>simp only [Z7] at h;split at h<;>simp_all
 | bin op =>
  simp only [Z7] at h
  split at h
  ·split at h
   ·rename_i k a k' b _;cases hb:binI op k a b<;>simp [hb] at h
   ·cases h
  ·cases h
 | sh op =>
  simp only [Z7] at h
  split at h
  ·rename_i k a k' b;cases hb:shI op k a b<;>simp [hb] at h
  ·cases h
 | eqB neg=>simp only [Z7] at h;split at h<;>simp_all
 | eqS neg m =>
  simp only [Z7] at h
  split at h
  ·rename_i a b;cases hb:Zbw m a b<;>simp [hb] at h
  ·cases h
 | not=>simp only [Z7] at h;split at h<;>simp_all
 | neg=>simp only [Z7] at h;split at h<;>simp_all
 | conv k=>simp only [Z7] at h;split at h<;>simp_all
 | pick =>
  simp only [Z7] at h
  split at h
  ·rename_i c a b
   simp only [Option.some.injEq] at h
   cases c
   ·simp at h;subst h;exact ⟨off,by simp⟩
   ·simp at h;subst h;exact ⟨off,by simp⟩
  ·cases h
 | faddr o =>
  simp only [Z7] at h
  split at h
  ·obtain ⟨o',rfl⟩:=Zl4 h;exact ⟨o',by simp⟩
  ·cases h
 | iaddr m sz =>
  simp only [Z7] at h
  split at h
  ·split at h
   ·obtain ⟨o',rfl⟩:=Zl4 h;exact ⟨o',by simp⟩
   ·cases h
  ·cases h
 | iaddrS sz =>
  simp only [Z7] at h
  split at h
  ·split at h<;>simp at h
  ·split at h<;>simp at h
  ·split at h<;>simp at h
  ·cases h
 | idx m sz b =>
  simp only [Z7] at h
  split at h
  ·rename_i cs k i
   split at h
   ·cases hs:sub (i.toNat * sz) sz cs with
    | none=>simp [hs] at h
    | some r =>
     simp only [hs,Option.bind_some] at h
     exact (hag cs (by simp) (ZpO hs (Zrx h))).elim
   ·cases h
  ·cases h
 | fld o m b =>
  simp only [Z7] at h
  split at h
  ·rename_i cs
   cases hs:sub o m cs with
   | none=>simp [hs] at h
   | some r =>
    simp only [hs,Option.bind_some] at h
    exact (hag cs (by simp) (ZpO hs (Zrx h))).elim
  ·cases h
 | build z ps=>simp only [Z7] at h;cases hf:Zby z ps xs<;>simp [hf] at h
 | len=>simp only [Z7] at h;split at h<;>simp_all
 | lenA m=>simp [Z7] at h
 | ext i =>
  simp only [Z7] at h
  split at h
  ·rename_i vs
   exact (htu vs (by simp) (List.mem_of_getElem? h)).elim
  ·cases h
 | mkfn f m=>simp only [Z7] at h;split at h<;>simp at h
 | min=>simp only [Z7,minI] at h;split at h<;>simp at h
 | max=>simp only [Z7,maxI] at h;split at h<;>simp at h
 | slice sz lo hi mx =>
  simp only [Z7] at h
  split at h
  ·exact (Zpa h).elim
  ·cases h
 | nilChk =>
  simp only [Z7] at h
  split at h<;>simp_all
 | isNil neg=>simp only [Z7] at h;split at h<;>simp at h
def viK:VI→Bool
 | .build z _=>ZO z
 | _=>true
def insK (i:Ins):Bool:=(ZcS i).all ixK&&(match i with
 | .val _ v _=>viK v
 | _=>true)
theorem Zjt:∀ {ps:List (Nat × Nat)} {cs xs out:List AV},Zby cs ps xs=some out→ZO cs=true→ZO out=true
 | [],cs,xs,out,h,hok=>by
  cases xs with
  | nil=>simp only [Zby,Option.some.injEq] at h;subst h;exact hok
  | cons=>simp [Zby] at h
 | (off,n)::ps,cs,xs,out,h,hok=>by
  cases xs with
  | nil=>simp [Zby] at h
  | cons v vs =>
   simp only [Zby] at h
   split at h
   ·rename_i hcond
    cases hs:Zbr off (cellsOf v) cs with
    | none=>simp [hs] at h
    | some cs' =>
     simp only [hs,Option.bind_some] at h
     exact Zjt h (Zdt hs hcond.2 hok)
   ·cases h
theorem ZpL {v:VI} {xs:List AV} {r:AV} (hv:viK v=true) (h:Z7 v xs=some r) (ht:∀ x ∈ xs,top x=true):top r=true:=by
 have hag:∀ cs:List AV,AV.agg cs ∈ xs→noLocL cs=true:=fun cs h1=>by simpa [top,ZX] using ht _ h1
 have htu:∀ cs:List AV,AV.tup cs ∈ xs→noLocL cs=true:=fun cs h1=>by simpa [top,ZX] using ht _ h1
 cases v with
 | mov=>simp only [Z7] at h;split at h<;>simp_all
 | bin op =>
  simp only [Z7] at h
  split at h
  ·split at h
   ·rename_i k a k' b _;cases hb:binI op k a b<;>simp [hb] at h;subst h;rfl
   ·cases h
  ·cases h
 | sh op =>
  simp only [Z7] at h
  split at h
  ·rename_i k a k' b;cases hb:shI op k a b<;>simp [hb] at h;subst h;rfl
  ·cases h
 | eqB neg=>simp only [Z7] at h;split at h<;>simp at h;subst h;rfl
 | eqS neg m =>
  simp only [Z7] at h
  split at h
  ·rename_i a b;cases hb:Zbw m a b<;>simp [hb] at h;subst h;rfl
  ·cases h
 | not=>simp only [Z7] at h;split at h<;>simp at h;subst h;rfl
 | neg=>simp only [Z7] at h;split at h<;>simp at h;subst h;rfl
 | conv k=>simp only [Z7] at h;split at h<;>simp at h;subst h;rfl
 | pick =>
  simp only [Z7] at h
  split at h
  ·rename_i c a b
   simp only [Option.some.injEq] at h
   subst h
   cases c<;>exact ht _ (by simp)
  ·cases h
 | faddr o =>
  simp only [Z7] at h
  split at h
  ·exact Zhy h
  ·cases h
 | iaddr m sz =>
  simp only [Z7] at h
  split at h
  ·split at h
   ·exact Zhy h
   ·cases h
  ·cases h
 | iaddrS sz =>
  simp only [Z7] at h
  split at h
  ·split at h<;>simp at h;subst h;rfl
  ·split at h<;>simp at h;subst h;rfl
  ·split at h<;>simp at h;subst h;rfl
  ·cases h
 | idx m sz b =>
  simp only [Z7] at h
  split at h
  ·rename_i cs k i
   split at h
   ·cases hs:sub (i.toNat * sz) sz cs with
    | none=>simp [hs] at h
    | some r' =>
     simp only [hs,Option.bind_some] at h
     exact ZM (Ziq h (ZeZ (hag cs (by simp)) hs))
   ·cases h
  ·cases h
 | fld o m b =>
  simp only [Z7] at h
  split at h
  ·rename_i cs
   cases hs:sub o m cs with
   | none=>simp [hs] at h
   | some r' =>
    simp only [hs,Option.bind_some] at h
    exact ZM (Ziq h (ZeZ (hag cs (by simp)) hs))
  ·cases h
 | build z ps =>
  simp only [Z7] at h
  cases hf:Zby z ps xs with
  | none=>simp [hf] at h
  | some out =>
   simp only [hf,Option.map_some,Option.some.injEq] at h
   subst h
   simpa [top,ZX] using ZH (Zjt hf (by simpa [viK] using hv))
 | len=>simp only [Z7] at h;split at h<;>simp at h<;>(subst h;rfl)
 | lenA m=>simp [Z7] at h;subst h;rfl
 | ext i =>
  simp only [Z7] at h
  split at h
  ·rename_i vs
   exact ZM (Zbb.1 (htu vs (by simp)) r (List.mem_of_getElem? h))
  ·cases h
 | mkfn f m =>
  simp only [Z7] at h
  split at h
  ·rename_i hn
   simp only [Option.some.injEq] at h
   subst h
   simp only [top,ZX,Bool.and_eq_true]
   rw [Zbb] at hn
   exact ⟨Zbb.2 fun x hx=>hn x (List.mem_of_mem_take hx),Zbb.2 fun x hx=>hn x (List.mem_of_mem_drop hx)⟩
  ·cases h
 | min=>simp only [Z7,minI] at h;split at h<;>simp at h<;>(subst h;rfl)
 | max=>simp only [Z7,maxI] at h;split at h<;>simp at h<;>(subst h;rfl)
 | slice sz lo hi mx =>
  simp only [Z7] at h
  split at h
  ·cases r with
   | loc t o=>rfl
   | p x=>rfl
   | osl=>rfl
   | _=>exact (Zn2 h).elim
  ·cases h
 | nilChk =>
  simp only [Z7] at h
  split at h<;>simp at h<;>(subst h;first | rfl | exact ht _ (by simp))
 | isNil neg=>simp only [Z7] at h;split at h<;>simp at h<;>(subst h;rfl)
section
variable {P:Program}
def Tops (fr:List (Nat × AV)):Prop:=∀ t,top (get fr t)=true
theorem ev_top {fr:List (Nat × AV)} (h:Tops fr) {x:IX} (hk:ixK x=true):top (ev fr x)=true:=by
 cases x with
 | t n=>exact h n
 | k v=>exact ZM (x:=v) hk
theorem Zho {fr:List (Nat × AV)} {i:Ins} (hk:(ZcS i).all ixK=true) {x:IX} (hx:x ∈ ZcS i) {d o:Nat} (h:ev fr x = .loc d o):ZgJ fr (ZaC i) d:=by
 obtain ⟨t,h1,h2⟩:=Zq9 (List.all_eq_true.1 hk x hx) h
 exact ⟨t,List.mem_flatMap.2 ⟨x,hx,h1⟩,o,h2⟩
theorem Zn7 {bx bx':List (Nat × List AV)} {H:List HO} {n:Nat} {x:AV} (h:∀ t o,x = .loc t o→bget bx' t=bget bx t):rd bx' H n x=rd bx H n x:=by
 cases x with
 | loc t o=>simp only [rd,h t o rfl]
 | _=>rfl
theorem ZqJ {bx:List (Nat × List AV)} {H:List HO} {cs:List AV} {x:AV} {m:Mem} (h:wrt bx H cs x=some m) :
  ∃ bw,m.bx=Zez bx bw∧(∀ q b,bw=some (q,b)→∃ o,x = .loc q o)∧∀ bx',(∀ t o,x = .loc t o→bget bx' t=bget bx t)→wrt bx' H cs x=some ⟨Zez bx' bw,m.H⟩:=by
 unfold wrt at h
 split at h
 ·rename_i t off
  cases hb:bget bx t with
  | none=>simp [hb] at h
  | some b =>
   simp only [hb,Option.bind_some] at h
   cases hs:Zbr off cs b with
   | none=>simp [hs] at h
   | some b' =>
    simp only [hs,Option.map_some,Option.some.injEq] at h
    subst h
    refine ⟨some (t,b'),rfl,fun q b e => ?_,fun bx' hb' => ?_⟩
    ·simp only [Option.some.injEq,Prod.mk.injEq] at e;exact ⟨off,by rw [e.1]⟩
    ·simp only [wrt,hb' t off rfl,hb,Option.bind_some,hs,Option.map_some];rfl
 ·rename_i id off
  split at h
  ·rename_i b hH
   cases hs:Zbr off cs b with
   | none=>simp [hs] at h
   | some b' =>
    simp only [hs,Option.map_some,Option.some.injEq] at h
    subst h
    exact ⟨none,rfl,fun q b e=>(by cases e),fun bx' _=>by simp only [wrt,hH,hs,Option.map_some];rfl⟩
  ·cases h
 ·rename_i sz id ver i off
  split at h
  ·rename_i sz' ver' rows hH
   split at h
   ·rename_i hcond
    cases hi:rows[i]? with
    | none=>simp [hi] at h
    | some r =>
     simp only [hi,Option.bind_some] at h
     cases hu:unP cs with
     | none=>simp [hu] at h
     | some ps =>
      simp only [hu,Option.bind_some] at h
      cases hs:Zbr off ps r with
      | none=>simp [hs] at h
      | some r' =>
       simp only [hs,Option.map_some,Option.some.injEq] at h
       subst h
       refine ⟨none,rfl,fun q b e=>(by cases e),fun bx' _ => ?_⟩
       simp only [wrt,hH,hcond,and_self,if_true,hi,Option.bind_some,hu,hs,Option.map_some];rfl
   ·cases h
  ·cases h
 ·cases h
theorem Zm5 {i:Ins} {s s':St} (h:ZI P i s s') (hk:ZU i ≠ 3) (hKi:insK i=true) (hT:Tops s.fr) :
  ∃ v bw H',s'=⟨putO s.fr (dstI i) v,Zez s.bx bw,H'⟩ ∧
   (∀ t:St,(∀ x ∈ ZaC i,get t.fr x=get s.fr x)→(∀ q,ZgJ s.fr (ZaC i) q→bget t.bx q=bget s.bx q)→t.H=s.H→ZI P i t ⟨putO t.fr (dstI i) v,Zez t.bx bw,H'⟩) ∧
   (Zf8 (ZU i)→bw=none∧H'=s.H)∧(ZU i=5∨ZU i=6→bw=none) ∧
   (ZU i=4→∀ t:St,(∀ x ∈ ZaC i,get t.fr x=get s.fr x)→(∀ q,ZgJ s.fr (ZaC i) q→bget t.bx q=bget s.bx q)→ZI P i t ⟨putO t.fr (dstI i) v,t.bx,t.H⟩) ∧
   (ZU i=0→∀ t:St,(∀ x ∈ ZaC i,get t.fr x=get s.fr x)→ZI P i t ⟨putO t.fr (dstI i) v,t.bx,t.H⟩) ∧
   (∀ q b,bw=some (q,b)→ZgJ s.fr (ZaC i) q) ∧
   (∀ d off,v = .loc d off→ZgJ s.fr (ZaC i) d)∧top v=true:=by
 have hK:(ZcS i).all ixK=true:=by simp only [insK,Bool.and_eq_true] at hKi;exact hKi.1
 cases i with
 | val d v xs =>
  simp only [ZI,Z5] at h
  cases hv:Z7 v (xs.map (ev s.fr)) with
  | none=>simp [hv] at h
  | some r =>
   simp only [hv,Option.map_some,Option.some.injEq] at h
   subst h
   have key:∀ t:St,(∀ x ∈ ZaC (.val d v xs),get t.fr x=get s.fr x)→ZI P (.val d v xs) t ⟨put t.fr d r,t.bx,t.H⟩:=fun t ht=>by
    simp only [ZI,Z5]
    rw [Zel (xs:=xs) ht,hv]
    rfl
   have htops:∀ x ∈ xs.map (ev s.fr),top x=true:=fun x hx=>by
    obtain ⟨y,hy,rfl⟩:=List.mem_map.1 hx
    exact ev_top hT (List.all_eq_true.1 hK y hy)
   refine ⟨r,none,s.H,rfl,fun t ht _ e2=>(by have:=key t ht;rw [e2] at this;exact this),fun _=>⟨rfl,rfl⟩,fun _=>rfl,fun h=>(by simp [ZU] at h),fun _=>key,fun q b e=>(by cases e),fun dd off e => ?_,ZpL (by simp only [insK,Bool.and_eq_true] at hKi;exact hKi.2) hv htops⟩
   subst e
   obtain ⟨o',ho⟩:=ZpM hv htops
   obtain ⟨y,hy,hy2⟩:=List.mem_map.1 ho
   exact Zho (i:=.val d v xs) hK hy hy2
 | litP d sz xs =>
  simp only [ZI,Z5] at h
  cases hv:Zfl sz (xs.map (ev s.fr)) with
  | none=>simp [hv] at h
  | some r =>
   simp only [hv,Option.map_some,Option.some.injEq] at h
   subst h
   have key:∀ t:St,(∀ x ∈ ZaC (.litP d sz xs),get t.fr x=get s.fr x)→ZI P (.litP d sz xs) t ⟨put t.fr d (.p (.sl sz true r)),t.bx,t.H⟩:=fun t ht=>by
    simp only [ZI,Z5]
    rw [Zel (xs:=xs) ht,hv]
    rfl
   exact ⟨_,none,s.H,rfl,fun t ht _ e2=>(by have:=key t ht;rw [e2] at this;exact this),fun _=>⟨rfl,rfl⟩,fun _=>rfl,fun h=>(by simp [ZU] at h),fun _=>key,fun q b e=>(by cases e),fun dd off e=>(by cases e),rfl⟩
 | mkC d m zero bytes =>
  simp only [ZI,Z5] at h
  split at h
  ·rename_i hv
   simp only [Option.some.injEq] at h
   subst h
   have key:∀ t:St,(∀ x ∈ ZaC (.mkC d m zero bytes),get t.fr x=get s.fr x)→ZI P (.mkC d m zero bytes) t ⟨put t.fr d (.p (.sl zero.length false (List.replicate m zero))),t.bx,t.H⟩:=fun t ht=>by
    simp only [ZI,Z5]
    rw [if_pos hv]
   exact ⟨_,none,s.H,rfl,fun t ht _ e2=>(by have:=key t ht;rw [e2] at this;exact this),fun _=>⟨rfl,rfl⟩,fun _=>rfl,fun h=>(by simp [ZU] at h),fun _=>key,fun q b e=>(by cases e),fun dd off e=>(by cases e),rfl⟩
  ·cases h
 | callP d f xs =>
  simp only [ZI] at h
  obtain ⟨r,h2,rfl⟩:=h
  have key:∀ t:St,(∀ x ∈ ZaC (.callP d f xs),get t.fr x=get s.fr x)→ZI P (.callP d f xs) t ⟨put t.fr d r,t.bx,t.H⟩:=fun t ht=>by
   simp only [ZI]
   rw [Zel (xs:=xs) ht]
   exact ⟨r,h2,rfl⟩
  have hno:=h2.2.2.2.1
  exact ⟨r,none,s.H,rfl,fun t ht _ e2=>(by have:=key t ht;rw [e2] at this;exact this),fun _=>⟨rfl,rfl⟩,fun _=>rfl,fun h=>(by simp [ZU] at h),fun _=>key,fun q b e=>(by cases e),fun dd off e=>(by subst e;simp [ZX] at hno),ZM hno⟩
 | callQ d f xs =>
  simp only [ZI] at h
  obtain ⟨args,r,h1,h2,rfl⟩:=h
  have hno:=h2.2.2.2.1
  refine ⟨r,none,s.H,rfl,fun t ht _ e2 => ?_,fun _=>⟨rfl,rfl⟩,fun _=>rfl,fun h=>(by simp [ZU] at h),fun h=>(by simp [ZU] at h),fun q b e=>(by cases e),fun dd off e=>(by subst e;simp [ZX] at hno),ZM hno⟩
  simp only [ZI]
  rw [Zel (xs:=xs) ht,e2]
  exact ⟨args,r,h1,h2,rfl⟩
 | load d x m b =>
  simp only [ZI,Z5] at h
  cases hr:rd s.bx s.H m (ev s.fr x) with
  | none=>simp [hr] at h
  | some cs =>
   simp only [hr,Option.bind_some] at h
   split at h
   rotate_left
   ·cases h
   rename_i hok
   cases hmk:mk b cs with
   | none=>simp [hmk] at h
   | some r =>
    simp only [hmk,Option.map_some,Option.some.injEq] at h
    subst h
    have hno:ZX r=true:=Ziq hmk (ZH hok)
    refine ⟨r,none,s.H,rfl,fun t ht hb e2 => ?_,fun _=>⟨rfl,rfl⟩,fun _=>rfl,fun h=>(by simp [ZU] at h),fun h=>(by simp [ZU] at h),fun q b e=>(by cases e),fun dd off e=>(by subst e;simp [ZX] at hno),ZM hno⟩
    simp only [ZI,Z5]
    rw [ZbC (x:=x) (fun q hq=>ht q (by simp [ZaC,ZcS,hq])),e2,Zn7 (fun q o e=>hb q (Zho (i:=.load d x m b) hK (by simp [ZcS]) e)),hr]
    simp only [Option.bind_some,hok,if_true,hmk,Option.map_some]
    rfl
 | loadI d x m b =>
  simp only [ZI,Z5] at h
  split at h
  rotate_left
  ·cases h
  rename_i sz rows i off hx
  cases hr:rd [] [] m (.ppt sz rows i off) with
  | none=>simp [hr] at h
  | some cs =>
   simp only [hr,Option.bind_some] at h
   split at h
   rotate_left
   ·cases h
   rename_i hok
   cases hmk:mk b cs with
   | none=>simp [hmk] at h
   | some r =>
    simp only [hmk,Option.map_some,Option.some.injEq] at h
    subst h
    have hno:ZX r=true:=Ziq hmk (ZH hok)
    have key:∀ t:St,(∀ z ∈ ZaC (.loadI d x m b),get t.fr z=get s.fr z)→ZI P (.loadI d x m b) t ⟨put t.fr d r,t.bx,t.H⟩:=fun t ht=>by
     simp only [ZI,Z5]
     rw [ZbC (x:=x) (fun q hq=>ht q (by simp [ZaC,ZcS,hq])),hx]
     simp only [hr,Option.bind_some,hok,if_true,hmk,Option.map_some]
    exact ⟨r,none,s.H,rfl,fun t ht _ e2=>(by have:=key t ht;rw [e2] at this;exact this),fun _=>⟨rfl,rfl⟩,fun _=>rfl,fun h=>(by simp [ZU] at h),fun _=>key,fun q b e=>(by cases e),fun dd off e=>(by subst e;simp [ZX] at hno),ZM hno⟩
 | loadH d x m b =>
  simp only [ZI,Z5] at h
  split at h
  ·cases h
  rename_i hl
  cases hr:rd [] s.H m (ev s.fr x) with
  | none=>simp [hr] at h
  | some cs =>
   simp only [hr,Option.bind_some] at h
   split at h
   rotate_left
   ·cases h
   rename_i hok
   cases hmk:mk b cs with
   | none=>simp [hmk] at h
   | some r =>
    simp only [hmk,Option.map_some,Option.some.injEq] at h
    subst h
    have hno:ZX r=true:=Ziq hmk (ZH hok)
    refine ⟨r,none,s.H,rfl,fun t ht hb e2 => ?_,fun _=>⟨rfl,rfl⟩,fun _=>rfl,fun h=>(by simp [ZU] at h),fun h=>(by simp [ZU] at h),fun q b e=>(by cases e),fun dd off e=>(by subst e;simp [ZX] at hno),ZM hno⟩
    simp only [ZI,Z5]
    rw [ZbC (x:=x) (fun q hq=>ht q (by simp [ZaC,ZcS,hq])),if_neg hl,e2,hr]
    simp only [Option.bind_some,hok,if_true,hmk,Option.map_some]
    rfl
 | appN d x y z b =>
  simp only [ZI,Z5] at h
  split at h
  rotate_left
  ·cases h
  rename_i a0 b0 hx
  cases hr:ZfT s.H z (ev s.fr y) with
  | none=>simp [hr] at h
  | some new =>
   simp only [hr,Option.bind_some] at h
   cases ha:appV s.H z b (.p (.sl a0 true b0)) new with
   | none=>simp [ha] at h
   | some p =>
    obtain ⟨v,H2⟩:=p
    simp only [ha,Option.map_some,Option.some.injEq] at h
    subst h
    have hno:ZX v=true:=by
     unfold appV at ha
     simp only at ha
     split at ha
     ·split at ha
      ·simp only [Option.some.injEq,Prod.mk.injEq] at ha
       rw [← ha.1];rfl
      ·simp only [Option.some.injEq,Prod.mk.injEq] at ha
       rw [← ha.1];rfl
     ·cases ha
    refine ⟨v,none,H2,rfl,fun t ht _ e2 => ?_,fun h=>(by simp [ZU,Zf8] at h),fun _=>rfl,fun h=>(by simp [ZU] at h),fun h=>(by simp [ZU] at h),fun q b e=>(by cases e),fun dd off e=>(by subst e;simp [ZX] at hno),ZM hno⟩
    simp only [ZI,Z5]
    rw [ZbC (x:=y) (fun q hq=>ht q (by simp [ZaC,ZcS,hq])),ZbC (x:=x) (fun q hq=>ht q (by simp [ZaC,ZcS,hq])),e2,hx]
    simp only [hr,Option.bind_some,ha,Option.map_some]
    rfl
 | loadL d x m b =>
  simp only [ZI,Z5] at h
  split at h
  ·rename_i tt off hev
   cases hr:rd s.bx [] m (.loc tt off) with
   | none=>simp [hr] at h
   | some cs =>
    simp only [hr,Option.bind_some] at h
    split at h
    rotate_left
    ·cases h
    rename_i hok
    cases hmk:mk b cs with
    | none=>simp [hmk] at h
    | some r =>
     simp only [hmk,Option.map_some,Option.some.injEq] at h
     subst h
     have hno:ZX r=true:=Ziq hmk (ZH hok)
     have key:∀ t:St,(∀ z ∈ ZaC (.loadL d x m b),get t.fr z=get s.fr z)→(∀ q,ZgJ s.fr (ZaC (.loadL d x m b)) q→bget t.bx q=bget s.bx q)→ZI P (.loadL d x m b) t ⟨put t.fr d r,t.bx,t.H⟩:=fun t ht hb=>by
      simp only [ZI,Z5]
      rw [ZbC (x:=x) (fun q hq=>ht q (by simp [ZaC,ZcS,hq])),hev]
      simp only
      rw [Zn7 (bx:=s.bx) (fun q o e=>hb q (Zho (i:=.loadL d x m b) hK (x:=x) (by simp [ZcS]) (by rw [hev,e]))),hr]
      simp only [Option.bind_some,hok,if_true,hmk,Option.map_some]
     exact ⟨r,none,s.H,rfl,fun t ht hb e2=>(by have:=key t ht hb;rw [e2] at this;exact this),fun _=>⟨rfl,rfl⟩,fun h=>(by simp [ZU] at h),fun _=>key,fun h=>(by simp [ZU] at h),fun q b e=>(by cases e),fun dd off e=>(by subst e;simp [ZX] at hno),ZM hno⟩
  ·cases h
 | store x y m =>
  simp only [ZI,Z5] at h
  split at h
  ·rename_i hcond
   cases hw:wrt s.bx s.H (cellsOf (ev s.fr y)) (ev s.fr x) with
   | none=>simp [hw] at h
   | some mm =>
    simp only [hw,Option.map_some,Option.some.injEq] at h
    subst h
    obtain ⟨bw,w1,w2,w3⟩:=ZqJ hw
    refine ⟨.any,bw,mm.H,by rw [w1];rfl,fun t ht hb e2 => ?_,fun h=>(by simp [ZU,Zf8] at h),fun h=>(by simp [ZU] at h),fun h=>(by simp [ZU] at h),fun h=>(by simp [ZU] at h),fun q b e => ?_,fun dd off e=>(by cases e),rfl⟩
    ·simp only [ZI,Z5]
     rw [ZbC (x:=y) (fun q hq=>ht q (by simp [ZaC,ZcS,hq])),ZbC (x:=x) (fun q hq=>ht q (by simp [ZaC,ZcS,hq])),if_pos hcond,e2,w3 t.bx (fun q o e=>hb q (Zho (i:=.store x y m) hK (by simp [ZcS]) e))]
     rfl
    ·obtain ⟨o,ho⟩:=w2 q b e
     exact Zho (i:=.store x y m) hK (by simp [ZcS]) ho
  ·cases h
 | storeH x y m =>
  simp only [ZI,Z5] at h
  split at h
  ·rename_i hcond
   cases hw:wrt s.bx s.H (cellsOf (ev s.fr y)) (ev s.fr x) with
   | none=>simp [hw] at h
   | some mm =>
    simp only [hw,Option.map_some,Option.some.injEq] at h
    subst h
    obtain ⟨w1,w2⟩:=ZqK hcond.1 hw
    refine ⟨.any,none,mm.H,by rw [w1];rfl,fun t ht hb e2 => ?_,fun h=>(by simp [ZU,Zf8] at h),fun _=>rfl,fun h=>(by simp [ZU] at h),fun h=>(by simp [ZU] at h),fun q b e=>(by cases e),fun dd off e=>(by cases e),rfl⟩
    simp only [ZI,Z5]
    rw [ZbC (x:=y) (fun q hq=>ht q (by simp [ZaC,ZcS,hq])),ZbC (x:=x) (fun q hq=>ht q (by simp [ZaC,ZcS,hq])),if_pos hcond,e2,w2 t.bx]
    rfl
  ·cases h
 | newL=>simp [ZU] at hk
 | boxL=>simp [ZU] at hk
 | newH d z =>
  simp only [ZI,Z5,Option.some.injEq] at h
  subst h
  refine ⟨_,none,_,rfl,fun t ht _ e2 => ?_,fun h=>(by simp [ZU,Zf8] at h),fun _=>rfl,fun h=>(by simp [ZU] at h),fun h=>(by simp [ZU] at h),fun q b e=>(by cases e),fun dd off e=>(by cases e),rfl⟩
  simp only [ZI,Z5,e2]
  rfl
 | boxH d x =>
  simp only [ZI,Z5] at h
  split at h
  ·rename_i hcond
   simp only [Option.some.injEq] at h
   subst h
   refine ⟨_,none,_,rfl,fun t ht _ e2 => ?_,fun h=>(by simp [ZU,Zf8] at h),fun _=>rfl,fun h=>(by simp [ZU] at h),fun h=>(by simp [ZU] at h),fun q b e=>(by cases e),fun dd off e=>(by cases e),rfl⟩
   simp only [ZI,Z5]
   rw [ZbC (x:=x) (fun q hq=>ht q (by simp [ZaC,ZcS,hq])),if_pos hcond,e2]
   rfl
  ·cases h
 | mkSl d x y z b =>
  simp only [ZI,Z5] at h
  split at h
  ·rename_i m c hx hy
   split at h
   ·rename_i hcond
    simp only [Option.some.injEq] at h
    subst h
    refine ⟨_,none,_,rfl,fun t ht _ e2 => ?_,fun h=>(by simp [ZU,Zf8] at h),fun _=>rfl,fun h=>(by simp [ZU] at h),fun h=>(by simp [ZU] at h),fun q b e=>(by cases e),fun dd off e=>(by cases e),rfl⟩
    simp only [ZI,Z5]
    rw [ZbC (x:=y) (fun q hq=>ht q (by simp [ZaC,ZcS,hq])),ZbC (x:=x) (fun q hq=>ht q (by simp [ZaC,ZcS,hq])),hx,hy]
    simp only [hcond,and_self,if_true,e2]
    rfl
   ·cases h
  ·cases h
 | app d x y z b =>
  simp only [ZI,Z5] at h
  cases hr:ZfT s.H z (ev s.fr y) with
  | none=>simp [hr] at h
  | some new =>
   simp only [hr,Option.bind_some] at h
   cases ha:appV s.H z b (ev s.fr x) new with
   | none=>simp [ha] at h
   | some p =>
    obtain ⟨v,H2⟩:=p
    simp only [ha,Option.map_some,Option.some.injEq] at h
    subst h
    have hno:ZX v=true:=by
     unfold appV at ha
     split at ha
     ·split at ha
      ·split at ha
       ·rename_i hev _ _
        simp only [Option.some.injEq,Prod.mk.injEq] at ha
        rw [← ha.1,hev];rfl
       ·simp only [Option.some.injEq,Prod.mk.injEq] at ha
        rw [← ha.1];rfl
      ·cases ha
     ·split at ha
      ·split at ha
       ·simp only [Option.some.injEq,Prod.mk.injEq] at ha
        rw [← ha.1];rfl
       ·cases ha
      ·cases ha
     ·cases ha
    refine ⟨v,none,H2,rfl,fun t ht _ e2 => ?_,fun h=>(by simp [ZU,Zf8] at h),fun _=>rfl,fun h=>(by simp [ZU] at h),fun h=>(by simp [ZU] at h),fun q b e=>(by cases e),fun dd off e=>(by subst e;simp [ZX] at hno),ZM hno⟩
    simp only [ZI,Z5]
    rw [ZbC (x:=y) (fun q hq=>ht q (by simp [ZaC,ZcS,hq])),ZbC (x:=x) (fun q hq=>ht q (by simp [ZaC,ZcS,hq])),e2,hr]
    simp only [Option.bind_some,ha,Option.map_some]
    rfl
 | litSl d sz xs =>
  simp only [ZI,Z5] at h
  cases hv:Zfl sz (xs.map (ev s.fr)) with
  | none=>simp [hv] at h
  | some r =>
   simp only [hv,Option.map_some,Option.some.injEq] at h
   subst h
   refine ⟨_,none,_,rfl,fun t ht _ e2 => ?_,fun h=>(by simp [ZU,Zf8] at h),fun _=>rfl,fun h=>(by simp [ZU] at h),fun h=>(by simp [ZU] at h),fun q b e=>(by cases e),fun dd off e=>(by cases e),rfl⟩
   simp only [ZI,Z5]
   rw [Zel (xs:=xs) ht,hv,e2]
   rfl
 | call d f xs =>
  simp only [ZI] at h
  obtain ⟨args,H1,r,H2,h1,h2,rfl⟩:=h
  have hno:=h2.2.1
  refine ⟨r,none,H2,rfl,fun t ht _ e2 => ?_,fun h=>(by simp [ZU,Zf8] at h),fun _=>rfl,fun h=>(by simp [ZU] at h),fun h=>(by simp [ZU] at h),fun q b e=>(by cases e),fun dd off e=>(by subst e;simp [ZX] at hno),ZM hno⟩
  simp only [ZI]
  rw [Zel (xs:=xs) ht,e2]
  exact ⟨args,H1,r,H2,h1,h2,rfl⟩
 | callV d fx xs =>
  simp only [ZI] at h
  obtain ⟨f,first,cap,args,H1,r,H2,h0,h1,h2,rfl⟩:=h
  have hno:=h2.2.1
  refine ⟨r,none,H2,rfl,fun t ht _ e2 => ?_,fun h=>(by simp [ZU,Zf8] at h),fun _=>rfl,fun h=>(by simp [ZU] at h),fun h=>(by simp [ZU] at h),fun q b e=>(by cases e),fun dd off e=>(by subst e;simp [ZX] at hno),ZM hno⟩
  simp only [ZI]
  rw [ZbC (x:=fx) (fun q hq=>ht q (by simp [ZaC,ZcS,hq])),Zel (xs:=xs) (fun q hq=>ht q (by simp only [ZaC,ZcS,List.flatMap_cons,List.mem_append];exact .inr hq)),e2]
  exact ⟨f,first,cap,args,H1,r,H2,h0,h1,h2,rfl⟩
 | sp d q xs =>
  simp only [ZI] at h
  obtain ⟨v,H2,h1,rfl⟩:=h
  have hno:=h1.1
  refine ⟨v,none,H2,rfl,fun t ht _ e2 => ?_,fun h=>(by simp [ZU,Zf8] at h),fun _=>rfl,fun h=>(by simp [ZU] at h),fun h=>(by simp [ZU] at h),fun q b e=>(by cases e),fun dd off e=>(by subst e;simp [ZX] at hno),ZM hno⟩
  simp only [ZI]
  rw [Zel (xs:=xs) ht,e2]
  exact ⟨v,H2,h1,rfl⟩
 | callY d fx xs =>
  simp only [ZI] at h
  obtain ⟨id,args,H1,b,H2,h0,h1,h2,rfl⟩:=h
  have hno:ZX (.p (.bool b))=true:=rfl
  refine ⟨.p (.bool b),none,H2,rfl,fun t ht _ e2 => ?_,fun h=>(by simp [ZU,Zf8] at h),fun _=>rfl,fun h=>(by simp [ZU] at h),fun h=>(by simp [ZU] at h),fun q b e=>(by cases e),fun dd off e=>(by cases e),ZM hno⟩
  simp only [ZI]
  rw [ZbC (x:=fx) (fun q hq=>ht q (by simp [ZaC,ZcS,hq])),Zel (xs:=xs) (fun q hq=>ht q (by simp only [ZaC,ZcS,List.flatMap_cons,List.mem_append];exact .inr hq)),e2]
  exact ⟨id,args,H1,b,H2,h0,h1,h2,rfl⟩
def ioK (o:IOp):Bool:=insK o.i
theorem ZgJ.mono {fr:List (Nat × AV)} {l l':List Nat} (h:∀ x ∈ l,x ∈ l') {q:Nat} (hn:ZgJ fr l q):ZgJ fr l' q:=by
 obtain ⟨x,h1,h2⟩:=hn
 exact ⟨x,h x h1,h2⟩
theorem Zk5 {o:IOp} {fr fr':List (Nat × AV)} (h:∀ x ∈ ZaC o.i,get fr' x=get fr x):bnOK o fr'=bnOK o fr:=by
 unfold bnOK
 cases o.bn with
 | none=>rfl
 | some b =>
  simp only
  cases hx:adrI o.i with
  | none=>rfl
  | some x =>
   simp only
   rw [ZbC (x:=x) (fun q hq=>h q ?_)]
   unfold adrI at hx
   unfold ZaC
   split at hx<;>simp_all [ZcS]
theorem step6 {i:Ins} {s s':St} (h:ZI P i s s') (hk:ZU i=6):∃ e,s'.H=s.H++e:=by
 cases i with
 | newH d z=>simp only [ZI,Z5,Option.some.injEq] at h;subst h;exact ⟨_,rfl⟩
 | boxH d x =>
  simp only [ZI,Z5] at h
  split at h
  ·simp only [Option.some.injEq] at h;subst h;exact ⟨_,rfl⟩
  ·cases h
 | litSl d sz xs =>
  simp only [ZI,Z5] at h
  cases hv:Zfl sz (xs.map (ev s.fr)) with
  | none=>simp [hv] at h
  | some r=>simp only [hv,Option.map_some,Option.some.injEq] at h;subst h;exact ⟨_,rfl⟩
 | mkSl d x y z b =>
  simp only [ZI,Z5] at h
  split at h
  ·split at h
   ·simp only [Option.some.injEq] at h;subst h;exact ⟨_,rfl⟩
   ·cases h
  ·cases h
 | appN d x y z b =>
  simp only [ZI,Z5] at h
  split at h
  rotate_left
  ·cases h
  rename_i a0 b0 hx
  cases hr:ZfT s.H z (ev s.fr y) with
  | none=>simp [hr] at h
  | some new =>
   simp only [hr,Option.bind_some] at h
   cases ha:appV s.H z b (.p (.sl a0 true b0)) new with
   | none=>simp [ha] at h
   | some p =>
    obtain ⟨v,H2⟩:=p
    simp only [ha,Option.map_some,Option.some.injEq] at h
    subst h
    unfold appV at ha
    simp only at ha
    split at ha
    ·split at ha
     ·simp only [Option.some.injEq,Prod.mk.injEq] at ha;exact ⟨[],by rw [← ha.2];simp⟩
     ·simp only [Option.some.injEq,Prod.mk.injEq] at ha;exact ⟨_,by rw [← ha.2]⟩
    ·cases ha
 | _=>simp [ZU] at hk
theorem Zp0 {bx:List (Nat × List AV)} {H e:List HO} {n:Nat} {x:AV} {cs:List AV} (h:rd bx H n x=some cs):rd bx (H++e) n x=some cs:=by
 have key:∀ (id:Nat) o,H[id]? = some o→(H++e)[id]? = some o:=fun id o ho=>by rw [List.getElem?_append_left (List.getElem?_eq_some_iff.1 ho).1];exact ho
 unfold rd at h ⊢
 split at h
 ·exact h
 ·rename_i id off
  cases hH:H[id]? with
  | none=>simp [hH] at h
  | some o=>rw [hH] at h;simp only [key id o hH];exact h
 ·rename_i sz id ver i off
  cases hH:H[id]? with
  | none=>simp [hH] at h
  | some o=>rw [hH] at h;simp only [key id o hH];exact h
 ·exact h
 ·cases h
theorem Zks {fr:List (Nat × AV)} {d:Nat} {a b:AV} (h:put fr d a=put fr d b):a=b:=by
 have h1:get (put fr d a) d=get (put fr d b) d:=by rw [h]
 rw [Zao,Zao,if_pos rfl,if_pos rfl] at h1
 exact h1
theorem ZnB {i:Ins} {s s':St} (h:ZI P i s s') (hk:ZU i=7) {v:AV} (hs:s'=⟨putO s.fr (dstI i) v,s.bx,s.H⟩) (t:St) (ht:∀ x ∈ ZaC i,get t.fr x=get s.fr x) (hH:t.H=s.H) :
  ZI P i t ⟨putO t.fr (dstI i) v,t.bx,t.H⟩:=by
 cases i with
 | loadH d x m b =>
  simp only [ZI,Z5] at h
  split at h
  ·cases h
  rename_i hl
  cases hr:rd [] s.H m (ev s.fr x) with
  | none=>simp [hr] at h
  | some cs =>
   simp only [hr,Option.bind_some] at h
   split at h
   rotate_left
   ·cases h
   rename_i hok
   cases hmk:mk b cs with
   | none=>simp [hmk] at h
   | some r =>
    simp only [hmk,Option.map_some,Option.some.injEq] at h
    subst hs
    simp only [dstI,putO,St.mk.injEq,and_true] at h
    obtain rfl:=Zks h
    simp only [ZI,Z5,dstI,putO]
    rw [ZbC (x:=x) (fun q hq=>ht q (by simp [ZaC,ZcS,hq])),if_neg hl,hH,hr]
    simp only [Option.bind_some,hok,if_true,hmk,Option.map_some]
 | _=>simp [ZU] at hk
theorem ZnC {i:Ins} {s s':St} (h:ZI P i s s') (hk:ZU i=1∨ZU i=7) (hKi:insK i=true) {v:AV} (hs:s'=⟨putO s.fr (dstI i) v,s.bx,s.H⟩) (t:St) (e:List HO) (ht:∀ x ∈ ZaC i,get t.fr x=get s.fr x) (hb:∀ q,ZgJ s.fr (ZaC i) q→bget t.bx q=bget s.bx q) (hH:t.H=s.H++e) :
  ZI P i t ⟨putO t.fr (dstI i) v,t.bx,t.H⟩:=by
 have hK:(ZcS i).all ixK=true:=by simp only [insK,Bool.and_eq_true] at hKi;exact hKi.1
 cases i with
 | load d x m b =>
  simp only [ZI,Z5] at h
  cases hr:rd s.bx s.H m (ev s.fr x) with
  | none=>simp [hr] at h
  | some cs =>
   simp only [hr,Option.bind_some] at h
   split at h
   rotate_left
   ·cases h
   rename_i hok
   cases hmk:mk b cs with
   | none=>simp [hmk] at h
   | some r =>
    simp only [hmk,Option.map_some,Option.some.injEq] at h
    subst hs
    simp only [dstI,putO,St.mk.injEq,and_true] at h
    obtain rfl:=Zks h
    simp only [ZI,Z5,dstI,putO]
    rw [ZbC (x:=x) (fun q hq=>ht q (by simp [ZaC,ZcS,hq])),Zn7 (fun q o e=>hb q (Zho (i:=.load d x m b) hK (by simp [ZcS]) e)),hH,Zp0 hr]
    simp only [Option.bind_some,hok,if_true,hmk,Option.map_some]
 | loadH d x m b =>
  simp only [ZI,Z5] at h
  split at h
  ·cases h
  rename_i hl
  cases hr:rd [] s.H m (ev s.fr x) with
  | none=>simp [hr] at h
  | some cs =>
   simp only [hr,Option.bind_some] at h
   split at h
   rotate_left
   ·cases h
   rename_i hok
   cases hmk:mk b cs with
   | none=>simp [hmk] at h
   | some r =>
    simp only [hmk,Option.map_some,Option.some.injEq] at h
    subst hs
    simp only [dstI,putO,St.mk.injEq,and_true] at h
    obtain rfl:=Zks h
    simp only [ZI,Z5,dstI,putO]
    rw [ZbC (x:=x) (fun q hq=>ht q (by simp [ZaC,ZcS,hq])),if_neg hl,hH,Zp0 hr]
    simp only [Option.bind_some,hok,if_true,hmk,Option.map_some]
 | callQ d f xs =>
  simp only [ZI] at h
  obtain ⟨args,r,h1,h2,e1⟩:=h
  subst hs
  simp only [dstI,putO,St.mk.injEq,and_true] at e1
  obtain rfl:=Zks e1
  simp only [ZI,dstI,putO]
  rw [Zel (xs:=xs) ht,hH]
  exact ⟨args,_,h1.grow,h2,rfl⟩
 | _=>simp [ZU] at hk
theorem ZjW {o:IOp} {fr:List (Nat × AV)} {b:Nat} (h:bnOK o fr=true) (hb:o.bn=some b):∃ x off,adrI o.i=some x∧ev fr x = .loc b off:=by
 unfold bnOK at h
 rw [hb] at h
 simp only at h
 split at h
 ·rename_i x hx
  split at h
  ·rename_i t off he
   have:=eq_of_beq h
   subst this
   exact ⟨x,off,hx,he⟩
  ·cases h
 ·cases h
theorem Zm4 {i:Ins} {s s':St} (h:ZI P i s s') (hk:ZU i=2) {x:IX} {b off:Nat} (hx:adrI i=some x) (he:ev s.fr x = .loc b off):s'.H=s.H∧∀ q,q ≠ b→bget s'.bx q=bget s.bx q:=by
 cases i with
 | store x' y m =>
  simp only [adrI,Option.some.injEq] at hx
  subst hx
  simp only [ZI,Z5] at h
  split at h
  ·cases hw:wrt s.bx s.H (cellsOf (ev s.fr y)) (ev s.fr x') with
   | none=>simp [hw] at h
   | some mm =>
    simp only [hw,Option.map_some,Option.some.injEq] at h
    subst h
    rw [he] at hw
    simp only [wrt] at hw
    cases hg:bget s.bx b with
    | none=>simp [hg] at hw
    | some c =>
     simp only [hg,Option.bind_some] at hw
     cases hsp:Zbr off (cellsOf (ev s.fr y)) c with
     | none=>simp [hsp] at hw
     | some c' =>
      simp only [hsp,Option.map_some,Option.some.injEq] at hw
      subst hw
      exact ⟨rfl,fun q hq=>by simp only [ZbR];rw [if_neg (Ne.symm hq)]⟩
  ·cases h
 | _=>simp [ZU] at hk
theorem ZoK {i:Ins} {s s':St} (h:ZI P i s s') (hk:ZU i=4) {v:AV} (hs:s'=⟨putO s.fr (dstI i) v,s.bx,s.H⟩) {x:IX} {b off:Nat} (hx:adrI i=some x) (he:ev s.fr x = .loc b off) (t:St) (ht:∀ x ∈ ZaC i,get t.fr x=get s.fr x) (hb:bget t.bx b=bget s.bx b) :
  ZI P i t ⟨putO t.fr (dstI i) v,t.bx,t.H⟩:=by
 cases i with
 | loadL d x' m bb =>
  simp only [adrI,Option.some.injEq] at hx
  subst hx
  simp only [ZI,Z5,he] at h
  cases hr:rd s.bx [] m (.loc b off) with
  | none=>simp [hr] at h
  | some cs =>
   simp only [hr,Option.bind_some] at h
   split at h
   rotate_left
   ·cases h
   rename_i hok
   cases hmk:mk bb cs with
   | none=>simp [hmk] at h
   | some r =>
    simp only [hmk,Option.map_some,Option.some.injEq] at h
    subst hs
    simp only [dstI,putO,St.mk.injEq,and_true] at h
    obtain rfl:=Zks h
    have hr':rd t.bx [] m (.loc b off)=some cs:=by simp only [rd] at hr ⊢;rw [hb];exact hr
    simp only [ZI,Z5,dstI,putO]
    rw [ZbC (x:=x') (fun q hq=>ht q (by simp [ZaC,ZcS,hq])),he]
    simp only [hr',Option.bind_some,hok,if_true,hmk,Option.map_some]
 | _=>simp [ZU] at hk
theorem Zh1 {o:IOp} {s s':St} (h:AOp P o s s') (hk:ZU o.i ≠ 3) (hK:ioK o=true) (hT:Tops s.fr):∃ v bw H',Shape P o s s' v bw H'∧top v=true:=by
 have hro:∀ x,x ∈ ZaC o.i→x ∈ ZbG o:=fun x hx=>by simp [ZbG,hx]
 unfold AOp at h
 split at h
 ·rename_i hg
  obtain ⟨hbn,h⟩:=h
  obtain ⟨v,bw,H',h1,h2,h3,h3b,h3c,h4,h5,h6,h7⟩:=Zm5 h hk hK hT
  have hbs:∀ t:St,(∀ x ∈ ZbG o,get t.fr x=get s.fr x)→bnOK o t.fr=true:=fun t ht=>by rw [Zk5 (fun x hx=>ht x (hro x hx))];exact hbn
  have hquiet:Zf8 (ZU o.i)→s'=⟨putO s.fr (dstI o.i) v,s.bx,s.H⟩:=fun hst=>by obtain ⟨rfl,rfl⟩:=h3 hst;exact h1
  refine ⟨v,bw,H',⟨h1,fun t ht hb e2 => ?_,h3,h3b,fun hz => ?_,fun hz t ht e2 => ?_,fun hz t e ht hb e2 => ?_,fun hz b hb => ?_,fun hz b hb t ht e => ?_,fun hz t ht hb => ?_,fun hz t ht => ?_,fun q b e=>(h5 q b e).mono hro,fun d off e=>(h6 d off e).mono hro⟩,h7⟩
  ·unfold AOp;rw [hg];exact ⟨hbs t ht,h2 t (fun x hx=>ht x (hro x hx)) (fun q hq=>hb q (hq.mono hro)) e2⟩
  ·obtain ⟨e,he⟩:=step6 h hz;exact ⟨e,by rw [h1] at he;exact he⟩
  ·unfold AOp;rw [hg];exact ⟨hbs t ht,ZnB h hz (hquiet (.inr (.inr (.inr hz)))) t (fun x hx=>ht x (hro x hx)) e2⟩
  ·unfold AOp;rw [hg];exact ⟨hbs t ht,ZnC h hz hK (hquiet (hz.elim (fun h=>.inr (.inl h)) (fun h=>.inr (.inr (.inr h))))) t e (fun x hx=>ht x (hro x hx)) (fun q hq=>hb q (hq.mono hro)) e2⟩
  ·obtain ⟨x,off,hx,he⟩:=ZjW hbn hb
   have:=Zm4 h hz hx he
   rw [h1] at this
   exact this
  ·obtain ⟨x,off,hx,he⟩:=ZjW hbn hb
   unfold AOp;rw [hg];exact ⟨hbs t ht,ZoK h hz (hquiet (.inr (.inr (.inl hz)))) hx he t (fun x hx=>ht x (hro x hx)) e⟩
  ·unfold AOp;rw [hg];exact ⟨hbs t ht,h3c hz t (fun x hx=>ht x (hro x hx)) (fun q hq=>hb q (hq.mono hro))⟩
  ·unfold AOp;rw [hg];exact ⟨hbs t ht,h4 hz t (fun x hx=>ht x (hro x hx))⟩
 ·rename_i tg want hg
  have hrg:tg ∈ ZbG o:=by simp [ZbG,hg]
  split at h
  ·rename_i b hget
   split at h
   ·rename_i hb
    obtain ⟨hbn,h⟩:=h
    obtain ⟨v,bw,H',h1,h2,h3,h3b,h3c,h4,h5,h6,h7⟩:=Zm5 h hk hK hT
    have hbs:∀ t:St,(∀ x ∈ ZbG o,get t.fr x=get s.fr x)→bnOK o t.fr=true:=fun t ht=>by rw [Zk5 (fun x hx=>ht x (hro x hx))];exact hbn
    have hquiet:Zf8 (ZU o.i)→s'=⟨putO s.fr (dstI o.i) v,s.bx,s.H⟩:=fun hst=>by obtain ⟨rfl,rfl⟩:=h3 hst;exact h1
    refine ⟨v,bw,H',⟨h1,fun t ht hb' e2 => ?_,h3,h3b,fun hz => ?_,fun hz t ht e2 => ?_,fun hz t e ht hb' e2 => ?_,fun hz b' hb' => ?_,fun hz b' hb' t ht e => ?_,fun hz t ht hb' => ?_,fun hz t ht => ?_,fun q b e=>(h5 q b e).mono hro,fun d off e=>(h6 d off e).mono hro⟩,h7⟩
    ·unfold AOp;rw [hg];simp only;rw [ht tg hrg,hget];simp only;rw [if_pos hb];exact ⟨hbs t ht,h2 t (fun x hx=>ht x (hro x hx)) (fun q hq=>hb' q (hq.mono hro)) e2⟩
    ·obtain ⟨e,he⟩:=step6 h hz;exact ⟨e,by rw [h1] at he;exact he⟩
    ·unfold AOp;rw [hg];simp only;rw [ht tg hrg,hget];simp only;rw [if_pos hb];exact ⟨hbs t ht,ZnB h hz (hquiet (.inr (.inr (.inr hz)))) t (fun x hx=>ht x (hro x hx)) e2⟩
    ·unfold AOp;rw [hg];simp only;rw [ht tg hrg,hget];simp only;rw [if_pos hb];exact ⟨hbs t ht,ZnC h hz hK (hquiet (hz.elim (fun h=>.inr (.inl h)) (fun h=>.inr (.inr (.inr h))))) t e (fun x hx=>ht x (hro x hx)) (fun q hq=>hb' q (hq.mono hro)) e2⟩
    ·obtain ⟨x,off,hx,he⟩:=ZjW hbn hb'
     have:=Zm4 h hz hx he
     rw [h1] at this
     exact this
    ·obtain ⟨x,off,hx,he⟩:=ZjW hbn hb'
     unfold AOp;rw [hg];simp only;rw [ht tg hrg,hget];simp only;rw [if_pos hb];exact ⟨hbs t ht,ZoK h hz (hquiet (.inr (.inr (.inl hz)))) hx he t (fun x hx=>ht x (hro x hx)) e⟩
    ·unfold AOp;rw [hg];simp only;rw [ht tg hrg,hget];simp only;rw [if_pos hb];exact ⟨hbs t ht,h3c hz t (fun x hx=>ht x (hro x hx)) (fun q hq=>hb' q (hq.mono hro))⟩
    ·unfold AOp;rw [hg];simp only;rw [ht tg hrg,hget];simp only;rw [if_pos hb];exact ⟨hbs t ht,h4 hz t (fun x hx=>ht x (hro x hx))⟩
   ·rename_i hb
    subst h
    refine ⟨.nl .unit,none,s.H,⟨rfl,fun t ht _ e2 => ?_,fun _=>⟨rfl,rfl⟩,fun _=>rfl,fun _=>⟨[],by simp⟩,fun hz t ht _ => ?_,fun hz t e ht _ e2 => ?_,fun _ _ _=>⟨rfl,fun _ _=>rfl⟩,fun hz b' hb' t ht _ => ?_,fun hz t ht _ => ?_,fun hz t ht => ?_,fun q b e=>(by cases e),fun d off e=>(by cases e)⟩,rfl⟩
    ·unfold AOp;rw [hg];simp only;rw [ht tg hrg,hget];simp only;rw [if_neg hb,e2];rfl
    ·unfold AOp;rw [hg];simp only;rw [ht tg hrg,hget];simp only;rw [if_neg hb];trivial
    ·unfold AOp;rw [hg];simp only;rw [ht tg hrg,hget];simp only;rw [if_neg hb];trivial
    ·unfold AOp;rw [hg];simp only;rw [ht tg hrg,hget];simp only;rw [if_neg hb];trivial
    ·unfold AOp;rw [hg];simp only;rw [ht tg hrg,hget];simp only;rw [if_neg hb];trivial
    ·unfold AOp;rw [hg];simp only;rw [ht tg hrg,hget];simp only;rw [if_neg hb];trivial
  ·rename_i hget
   subst h
   refine ⟨.nl .unit,none,s.H,⟨rfl,fun t ht _ e2 => ?_,fun _=>⟨rfl,rfl⟩,fun _=>rfl,fun _=>⟨[],by simp⟩,fun hz t ht _ => ?_,fun hz t e ht _ e2 => ?_,fun _ _ _=>⟨rfl,fun _ _=>rfl⟩,fun hz b' hb' t ht _ => ?_,fun hz t ht _ => ?_,fun hz t ht => ?_,fun q b e=>(by cases e),fun d off e=>(by cases e)⟩,rfl⟩
   ·unfold AOp;rw [hg];simp only;rw [ht tg hrg,hget];simp only;rw [e2];rfl
   ·unfold AOp;rw [hg];simp only;rw [ht tg hrg,hget];trivial
   ·unfold AOp;rw [hg];simp only;rw [ht tg hrg,hget];trivial
   ·unfold AOp;rw [hg];simp only;rw [ht tg hrg,hget];trivial
   ·unfold AOp;rw [hg];simp only;rw [ht tg hrg,hget];trivial
   ·unfold AOp;rw [hg];simp only;rw [ht tg hrg,hget];trivial
  ·exact h.elim
def newD:Ins→Option Nat
 | .newL d _ | .boxL d _=>some d
 | _=>none
theorem Zhn {o:IOp} {s s':St} (hg:o.g=none) {d:Nat} (hd:newD o.i=some d) (h:AOp P o s s') :
  dstI o.i=some d∧∃ cs,s'=⟨put (ZeB d s.fr) d (.loc d 0),bput s.bx d cs,s.H⟩ ∧
   ∀ t:St,(∀ x ∈ ZbG o,get t.fr x=get s.fr x)→AOp P o t ⟨put (ZeB d t.fr) d (.loc d 0),bput t.bx d cs,t.H⟩:=by
 unfold AOp at h
 rw [hg] at h
 obtain ⟨hbn,h⟩:=h
 have hbs:∀ t:St,(∀ x ∈ ZbG o,get t.fr x=get s.fr x)→bnOK o t.fr=true:=fun t ht=>by rw [Zk5 (fun x hx=>ht x (by simp [ZbG,hx]))];exact hbn
 obtain ⟨g,i,pre,bn⟩:=o
 simp only at hg h hd
 subst hg
 cases i<;>simp only [newD,Option.some.injEq,reduceCtorEq] at hd
 ·rename_i d' z
  subst hd
  simp only [ZI,Z5,Option.some.injEq] at h
  exact ⟨rfl,z,h.symm,fun t ht=>⟨hbs t ht,rfl⟩⟩
 ·rename_i d' x
  subst hd
  simp only [ZI,Z5] at h
  split at h
  ·rename_i hcond
   simp only [Option.some.injEq] at h
   refine ⟨rfl,_,h.symm,fun t ht => ?_⟩
   have e:ev t.fr x=ev s.fr x:=ZbC fun q hq=>ht q (by simp [ZbG,ZaC,ZcS,hq])
   refine ⟨hbs t ht,?_⟩
   show ZI P (.boxL d' x) t _
   simp only [ZI,Z5,e,if_pos hcond]
  ·cases h
theorem Zq3 {i:Ins} {d:Nat} (h:newD i=some d):dstI i=some d:=by
 cases i<;>simp_all [newD,dstI]
theorem ZlM {i:Ins} (h:ZU i=3):∃ d,newD i=some d:=by
 cases i<;>simp_all [ZU,newD]
theorem Zc2 {d:Nat} {fr:List (Nat × AV)} (h:Zjh d fr) {u:Nat} (hu:u ≠ d):get (ZeB d fr) u=get fr u:=by
 rw [Zc3]
 split
 ·rename_i t' o e
  split
  ·rename_i ht;subst ht;exact absurd e (h u o hu)
  ·exact e.symm
 ·rfl
theorem ZjU {fr:List (Nat × AV)} {d:Option Nat} {v:AV} {l:List Nat} (h:ZlR d l=true):∀ x ∈ l,get (putO fr d v) x=get fr x:=by
 intro x hx
 cases d with
 | none=>rfl
 | some d =>
  simp only [putO,Zao]
  rw [if_neg]
  rintro rfl
  simp only [ZlR,Bool.not_eq_true',List.elem_eq_mem,decide_eq_false_iff_not] at h
  exact h hx
theorem ZcD {fr:List (Nat × AV)} {d e:Option Nat} {v u:AV} (h:(match d,e with | some d,some e=>decide (d ≠ e) | _,_=>true)=true) (x:Nat) :
  get (putO (putO fr d v) e u) x=get (putO (putO fr e u) d v) x:=by
 cases d with
 | none=>rfl
 | some d =>
  cases e with
  | none=>rfl
  | some e =>
   simp only [decide_eq_true_eq] at h
   simp only [putO,Zao]
   by_cases h1:e=x<;>by_cases h2:d=x
   ·exact absurd (h2.trans h1.symm) h
   ·simp [h1,h2]
   ·simp [h1,h2]
   ·simp [h1,h2]
theorem ZpF {bx bx':List (Nat × List AV)} {bw:Option (Nat × List AV)} (h:∀ x,bget bx x=bget bx' x) (x:Nat):bget (Zez bx bw) x=bget (Zez bx' bw) x:=by
 cases bw with
 | none=>exact h x
 | some p=>obtain ⟨q,b⟩:=p;simp only [Zez,ZbR,h x]
theorem Zk7 {bx:List (Nat × List AV)} {bw:Option (Nat × List AV)} {d:Nat} {cs:List AV} (h:∀ q b,bw=some (q,b)→q ≠ d) (x:Nat):bget (Zez (bput bx d cs) bw) x=bget (bput (Zez bx bw) d cs) x:=by
 cases bw with
 | none=>rfl
 | some p =>
  obtain ⟨q,b⟩:=p
  have:=h q b rfl
  simp only [Zez,ZbR]
  by_cases h1:q=x<;>by_cases h2:d=x
  ·exact absurd (h1.trans h2.symm) this
  ·simp [h1,h2]
  ·simp [h1,h2]
  ·simp [h1,h2]
theorem Zfx {d:Nat} {l:List Nat} (h:ZlR (some d) l=true):d ∉ l:=by
 simpa [ZlR] using h
theorem ZmF {fr:List (Nat × AV)} {l:List Nat} {d q:Nat} (hc:Zjh d fr) (hd:d ∉ l) (h:ZgJ fr l q):q ≠ d:=by
 rintro rfl
 obtain ⟨x,h1,o,h2⟩:=h
 exact hc x o (fun e=>hd (e ▸ h1)) h2
theorem ZkR {fr:List (Nat × AV)} {e:Option Nat} {v:AV} {u:Nat} (h:e ≠ some u):get (putO fr e v) u=get fr u:=by
 cases e with
 | none=>rfl
 | some e=>simp only [putO,Zao];rw [if_neg (fun h'=>h (by rw [h']))]
theorem Tops.putO {fr:List (Nat × AV)} (h:Tops fr) {e:Option Nat} {v:AV} (hv:top v=true):Tops (putO fr e v):=by
 intro t
 cases e with
 | none=>exact h t
 | some e =>
  simp only [Eng.putO,Zao]
  split
  ·exact hv
  ·exact h t
theorem Tops.new {fr:List (Nat × AV)} (h:Tops fr) (d:Nat):Tops (put (ZeB d fr) d (.loc d 0)):=by
 intro t
 simp only [Zao,Zc3]
 split
 ·rfl
 ·have ht:=h t
  generalize get fr t=x at ht
  cases x with
  | loc t' o=>simp only;split<;>rfl
  | _=>simpa using ht
theorem AOp.tops {o:IOp} {s s':St} (h:AOp P o s s') (hg:ZU o.i=3→o.g=none) (hK:ioK o=true) (hT:Tops s.fr):Tops s'.fr:=by
 by_cases hk:ZU o.i=3
 ·obtain ⟨d,hd⟩:=ZlM hk
  obtain ⟨_,cs,e,_⟩:=Zhn (hg hk) hd h
  rw [e]
  exact hT.new d
 ·obtain ⟨v,bw,H',sh,hv⟩:=Zh1 h hk hK hT
  rw [sh.out]
  exact hT.putO hv
theorem swap {x y:IOp} (hi:Zpv x y=true) (hgx:ZU x.i=3→x.g=none) (hgy:ZU y.i=3→y.g=none) (hKx:ioK x=true) (hKy:ioK y=true) {s s1 s2:St} (hT:Tops s.fr)
  (hcx:∀ d,newD x.i=some d→Zjh d s.fr) (hcy:∀ d,newD y.i=some d→Zjh d s.fr)
  (h1:AOp P x s s1) (h2:AOp P y s1 s2):∃ t1 t2,AOp P y s t1∧AOp P x t1 t2∧Eqv t2 s2:=by
 have hT1:Tops s1.fr:=h1.tops hgx hKx hT
 simp only [Zpv,Bool.and_eq_true] at hi
 obtain ⟨⟨⟨hk,hf1⟩,hf2⟩,hd⟩:=hi
 by_cases hx3:ZU x.i=3
 ·obtain ⟨d,hnd⟩:=ZlM hx3
  have hcl:=hcx d hnd
  obtain ⟨hdx,cs,e1,again1⟩:=Zhn (hgx hx3) hnd h1
  rw [hdx] at hf1 hd
  have hdy:=Zfx hf1
  by_cases hky:ZU y.i=3
  ·obtain ⟨e,hne⟩:=ZlM hky
   have hcle:=hcy e hne
   obtain ⟨hdy',cs',e2,again2⟩:=Zhn (hgy hky) hne h2
   rw [hdy'] at hf2 hd
   have hex:=Zfx hf2
   simp only [decide_eq_true_eq] at hd
   subst e1 e2
   have a1:=again2 s (fun q hq=>by
    have hnq:d ≠ q:=fun e=>hdy (e ▸ hq)
    simp only [Zao]
    rw [if_neg hnq,Zc2 hcl (Ne.symm hnq)])
   have a2:=again1 ⟨put (ZeB e s.fr) e (.loc e 0),bput s.bx e cs',s.H⟩ (fun q hq=>by
    have hnq:e ≠ q:=fun h=>hex (h ▸ hq)
    simp only [Zao]
    rw [if_neg hnq,Zc2 hcle (Ne.symm hnq)])
   refine ⟨_,_,a1,a2,fun q => ?_,fun q => ?_,rfl⟩
   ·have hget:∀ (a b:Nat),a ≠ b→Zjh a s.fr→Zjh b s.fr→∀ q,get (put (ZeB a (put (ZeB b s.fr) b (.loc b 0))) a (.loc a 0)) q=if q=a then .loc a 0 else if q=b then .loc b 0 else get s.fr q:=by
     intro a b hab ha hb q
     simp only [Zao]
     by_cases h1:a=q
     ·subst h1;simp
     ·rw [if_neg h1,if_neg (Ne.symm h1),Zc3]
      simp only [Zao]
      by_cases h2:b=q
      ·subst h2;simp [Ne.symm hab]
      ·simp only [if_neg h2,if_neg (Ne.symm h2)]
       rw [Zc2 hb (Ne.symm h2)]
       split
       ·rename_i t' o ht
        split
        ·rename_i e;subst e;exact absurd ht (ha q o (Ne.symm h1))
        ·exact ht.symm
       ·rfl
    show get (put (ZeB d (put (ZeB e s.fr) e (.loc e 0))) d (.loc d 0)) q=get (put (ZeB e (put (ZeB d s.fr) d (.loc d 0))) e (.loc e 0)) q
    rw [hget d e hd hcl hcle,hget e d (Ne.symm hd) hcle hcl]
    by_cases h1:q=d
    ·subst h1;simp [hd]
    ·simp [h1]
   ·show bget (bput (bput s.bx e cs') d cs) q=bget (bput (bput s.bx d cs) e cs') q
    simp only [ZbR]
    by_cases h1:d=q
    ·subst h1;simp [Ne.symm hd]
    ·simp [h1]
  obtain ⟨v,bw,H',sy,_⟩:=Zh1 h2 hky hKy hT1
  subst e1
  have hreads:∀ q ∈ ZbG y,get s.fr q=get (put (ZeB d s.fr) d (.loc d 0)) q:=fun q hq=>by
   have hne:d ≠ q:=fun e=>hdy (e ▸ hq)
   rw [Zao,if_neg hne,Zc2 hcl (Ne.symm hne)]
  have hnames:∀ q,ZgJ (put (ZeB d s.fr) d (.loc d 0)) (ZbG y) q→q ≠ d:=fun q ⟨x,hx,o,ho⟩=>by
   rw [← hreads x hx] at ho
   exact ZmF hcl hdy ⟨x,hx,o,ho⟩
  have a1:=sy.again s hreads (fun q hq=>by simp only [ZbR];rw [if_neg (Ne.symm (hnames q hq))]) rfl
  refine ⟨_,_,a1,again1 ⟨putO s.fr (dstI y.i) v,Zez s.bx bw,H'⟩ (fun q hq=>ZjU hf2 q hq),?_⟩
  rw [sy.out]
  have hv:∀ off,v ≠ .loc d off:=fun off e=>absurd rfl (hnames d (sy.src d off e))
  have hne:dstI y.i ≠ some d:=by
   intro e;rw [e] at hd;simp at hd
  refine ⟨fun q => ?_,fun q=>(Zk7 (fun q b e=>hnames q (sy.named q b e)) q).symm,rfl⟩
  simp only [Zao]
  by_cases hq:d=q
  ·subst hq
   rw [if_pos rfl,ZkR hne,Zao,if_pos rfl]
  ·rw [if_neg hq]
   cases hdy':dstI y.i with
   | none =>
    simp only [putO]
    rw [Zao,if_neg hq]
   | some e =>
    simp only [putO]
    rw [Zc3,Zao,Zao,Zao]
    by_cases he:e=q
    ·simp only [he,if_true]
     cases v with
     | loc t' o =>
      simp only
      rw [if_neg (fun e=>hv o (by rw [e]))]
     | _=>rfl
    ·simp only [he,if_false,if_neg hq]
     rw [Zc3]
 ·by_cases hy3:ZU y.i=3
  ·obtain ⟨d,hnd⟩:=ZlM hy3
   have hcl:=hcy d hnd
   obtain ⟨v,bw,H',sx,_⟩:=Zh1 h1 hx3 hKx hT
   obtain ⟨hdy,cs,e2,again2⟩:=Zhn (hgy hy3) hnd h2
   rw [hdy] at hf2 hd
   have hdx:=Zfx hf2
   have e1:=sx.out
   subst e1
   subst e2
   have a1:=again2 s (fun q hq=>(ZjU hf1 q hq).symm)
   have hreads:∀ q ∈ ZbG x,get (put (ZeB d s.fr) d (.loc d 0)) q=get s.fr q:=fun q hq=>by
    have hne:d ≠ q:=fun e=>hdx (e ▸ hq)
    rw [Zao,if_neg hne,Zc2 hcl (Ne.symm hne)]
   have hnames:∀ q,ZgJ s.fr (ZbG x) q→q ≠ d:=fun q hq=>ZmF hcl hdx hq
   have a2:=sx.again ⟨put (ZeB d s.fr) d (.loc d 0),bput s.bx d cs,s.H⟩ hreads (fun q hq=>by simp only [ZbR];rw [if_neg (Ne.symm (hnames q hq))]) rfl
   refine ⟨_,_,a1,a2,?_⟩
   have hv:∀ off,v ≠ .loc d off:=fun off e=>absurd rfl (hnames d (sx.src d off e))
   have hne:dstI x.i ≠ some d:=by
    intro e;rw [e] at hd;simp at hd
   refine ⟨fun q => ?_,fun q=>Zk7 (fun q b e=>hnames q (sx.named q b e)) q,rfl⟩
   simp only [Zao]
   by_cases hq:d=q
   ·subst hq
    rw [if_pos rfl,ZkR hne,Zao,if_pos rfl]
   ·rw [if_neg hq]
    cases hdx':dstI x.i with
    | none =>
     simp only [putO]
     rw [Zao,if_neg hq]
    | some e =>
     simp only [putO]
     rw [Zc3,Zao,Zao,Zao]
     by_cases he:e=q
     ·simp only [he,if_true]
      cases v with
      | loc t' o =>
       simp only
       rw [if_neg (fun e=>hv o (by rw [e]))]
      | _=>rfl
     ·simp only [he,if_false,if_neg hq]
      rw [Zc3]
  ·obtain ⟨v,bw,H',sx,hvt⟩:=Zh1 h1 hx3 hKx hT
   have e1:=sx.out
   subst e1
   obtain ⟨u,bw',H'',sy,_⟩:=Zh1 h2 hy3 hKy hT1
   have e2:=sy.out
   subst e2
   have hsy:∀ q ∈ ZbG y,get s.fr q=get (putO s.fr (dstI x.i) v) q:=fun q hq=>(ZjU hf1 q hq).symm
   have hsx:∀ (q:Nat),q ∈ ZbG x→get (putO s.fr (dstI y.i) u) q=get s.fr q:=fun q hq=>ZjU hf2 q hq
   by_cases hx0:ZU x.i=0
   ·obtain ⟨rfl,rfl⟩:=sx.quiet (.inl hx0)
    refine ⟨_,_,sy.again s hsy (fun q _=>rfl) rfl,sx.blind hx0 ⟨putO s.fr (dstI y.i) u,Zez s.bx bw',H''⟩ hsx,?_⟩
    exact ⟨fun q=>(ZcD hd q).symm,fun _=>rfl,rfl⟩
   ·by_cases hy0:ZU y.i=0
    ·obtain ⟨rfl,rfl⟩:=sy.quiet (.inl hy0)
     refine ⟨_,_,sy.blind hy0 s hsy,sx.again ⟨putO s.fr (dstI y.i) u,s.bx,s.H⟩ hsx (fun _ _=>rfl) rfl,?_⟩
     exact ⟨fun q=>(ZcD hd q).symm,fun _=>rfl,rfl⟩
    ·have hcases:((Zf8 (ZU x.i)∧Zf8 (ZU y.i))∨(ZU x.i=4∧ZU y.i=5)∨(ZU x.i=5∧ZU y.i=4))∨((ZU x.i=4∧ZU y.i=6)∨(ZU x.i=6∧ZU y.i=4))∨((ZU x.i=1∨ZU x.i=7)∧ZU y.i=6)∨Zop x y=true∨Zqk x y=true:=by
      simp only [Bool.or_eq_true] at hk
      rcases hk with (hk | hk) | hk
      ·unfold Zqf at hk
       split at hk<;>simp_all [Zf8]
      ·exact .inr (.inr (.inr (.inl hk)))
      ·exact .inr (.inr (.inr (.inr hk)))
     rcases hcases with (⟨hx1,hy1⟩ | ⟨hx4,hy5⟩ | ⟨hx5,hy4⟩) | (⟨hx4,hy5⟩ | ⟨hx5,hy4⟩) | ⟨hx1,hy6⟩ | hbx | hhp
     ·obtain ⟨rfl,rfl⟩:=sx.quiet hx1
      obtain ⟨rfl,rfl⟩:=sy.quiet hy1
      refine ⟨_,_,sy.again s hsy (fun q _=>rfl) rfl,sx.again ⟨putO s.fr (dstI y.i) u,s.bx,s.H⟩ hsx (fun _ _=>rfl) rfl,?_⟩
      exact ⟨fun q=>(ZcD hd q).symm,fun _=>rfl,rfl⟩
     ·obtain ⟨rfl,rfl⟩:=sx.quiet (.inr (.inr (.inl hx4)))
      have hb:=sy.boxed (.inl hy5)
      subst hb
      refine ⟨_,_,sy.again s hsy (fun q _=>rfl) rfl,sx.local4 hx4 ⟨putO s.fr (dstI y.i) u,s.bx,H''⟩ hsx (fun _ _=>rfl),?_⟩
      exact ⟨fun q=>(ZcD hd q).symm,fun _=>rfl,rfl⟩
     ·have hb:=sx.boxed (.inl hx5)
      subst hb
      obtain ⟨rfl,rfl⟩:=sy.quiet (.inr (.inr (.inl hy4)))
      refine ⟨_,_,sy.local4 hy4 s hsy (fun _ _=>rfl),sx.again ⟨putO s.fr (dstI y.i) u,s.bx,s.H⟩ hsx (fun _ _=>rfl) rfl,?_⟩
      exact ⟨fun q=>(ZcD hd q).symm,fun _=>rfl,rfl⟩
     ·obtain ⟨rfl,rfl⟩:=sx.quiet (.inr (.inr (.inl hx4)))
      have hb:=sy.boxed (.inr hy5)
      subst hb
      refine ⟨_,_,sy.again s hsy (fun q _=>rfl) rfl,sx.local4 hx4 ⟨putO s.fr (dstI y.i) u,s.bx,H''⟩ hsx (fun _ _=>rfl),?_⟩
      exact ⟨fun q=>(ZcD hd q).symm,fun _=>rfl,rfl⟩
     ·have hb:=sx.boxed (.inr hx5)
      subst hb
      obtain ⟨rfl,rfl⟩:=sy.quiet (.inr (.inr (.inl hy4)))
      refine ⟨_,_,sy.local4 hy4 s hsy (fun _ _=>rfl),sx.again ⟨putO s.fr (dstI y.i) u,s.bx,s.H⟩ hsx (fun _ _=>rfl) rfl,?_⟩
      exact ⟨fun q=>(ZcD hd q).symm,fun _=>rfl,rfl⟩
     ·obtain ⟨rfl,rfl⟩:=sx.quiet (hx1.elim (fun h=>.inr (.inl h)) (fun h=>.inr (.inr (.inr h))))
      have hb:=sy.boxed (.inr hy6)
      subst hb
      obtain ⟨e,he⟩:=sy.more6 hy6
      refine ⟨_,_,sy.again s hsy (fun q _=>rfl) rfl,sx.grow1 hx1 ⟨putO s.fr (dstI y.i) u,s.bx,H''⟩ e hsx (fun _ _=>rfl) he,?_⟩
      exact ⟨fun q=>(ZcD hd q).symm,fun _=>rfl,rfl⟩
     ·simp only [Zop,Bool.and_eq_true,Bool.or_eq_true,beq_iff_eq] at hbx
      obtain ⟨hkk,hbb⟩:=hbx
      split at hbb
      ·rename_i a b ha hb
       have hne:a ≠ b:=of_decide_eq_true hbb
       rcases hkk with ⟨hx2,hy4⟩ | ⟨hx4,hy2⟩
       ·obtain ⟨rfl,hw⟩:=sx.bnW hx2 a ha
        obtain ⟨rfl,rfl⟩:=sy.quiet (.inr (.inr (.inl hy4)))
        refine ⟨_,_,sy.bnR hy4 b hb s hsy (hw b (Ne.symm hne)).symm,sx.again ⟨putO s.fr (dstI y.i) u,s.bx,s.H⟩ hsx (fun _ _=>rfl) rfl,?_⟩
        exact ⟨fun q=>(ZcD hd q).symm,fun _=>rfl,rfl⟩
       ·obtain ⟨rfl,rfl⟩:=sx.quiet (.inr (.inr (.inl hx4)))
        obtain ⟨rfl,hw⟩:=sy.bnW hy2 b hb
        refine ⟨_,_,sy.again s hsy (fun q _=>rfl) rfl,sx.bnR hx4 a ha ⟨putO s.fr (dstI y.i) u,Zez s.bx bw',s.H⟩ hsx (hw a hne),?_⟩
        exact ⟨fun q=>(ZcD hd q).symm,fun _=>rfl,rfl⟩
      ·cases hbb
     ·simp only [Zqk,Bool.and_eq_true,Bool.or_eq_true,beq_iff_eq] at hhp
      rcases hhp with ⟨⟨hx2,hbn⟩,hy7⟩ | ⟨⟨hx7,hy2⟩,hbn⟩
      ·obtain ⟨b,hb⟩:=Option.isSome_iff_exists.1 hbn
       obtain ⟨rfl,_⟩:=sx.bnW hx2 b hb
       obtain ⟨rfl,rfl⟩:=sy.quiet (.inr (.inr (.inr hy7)))
       refine ⟨_,_,sy.heap7 hy7 s hsy rfl,sx.again ⟨putO s.fr (dstI y.i) u,s.bx,s.H⟩ hsx (fun _ _=>rfl) rfl,?_⟩
       exact ⟨fun q=>(ZcD hd q).symm,fun _=>rfl,rfl⟩
      ·obtain ⟨b,hb⟩:=Option.isSome_iff_exists.1 hbn
       obtain ⟨rfl,rfl⟩:=sx.quiet (.inr (.inr (.inr hx7)))
       obtain ⟨rfl,_⟩:=sy.bnW hy2 b hb
       refine ⟨_,_,sy.again s hsy (fun q _=>rfl) rfl,sx.heap7 hx7 ⟨putO s.fr (dstI y.i) u,Zez s.bx bw',s.H⟩ hsx rfl,?_⟩
       exact ⟨fun q=>(ZcD hd q).symm,fun _=>rfl,rfl⟩
theorem AOp.eqv {o:IOp} {s s' t:St} (h:AOp P o s s') (hg:ZU o.i=3→o.g=none) (hK:ioK o=true) (hT:Tops s.fr) (e:Eqv s t):∃ t',AOp P o t t'∧Eqv s' t':=by
 by_cases hk:ZU o.i=3
 ·obtain ⟨d,hd⟩:=ZlM hk
  obtain ⟨_,cs,e1,again⟩:=Zhn (hg hk) hd h
  refine ⟨_,again t (fun x _=>(e.fr x).symm),?_⟩
  rw [e1]
  refine ⟨fun x => ?_,fun x => ?_,e.H⟩
  ·simp only [Zao,Zc3,e.fr x]
  ·simp only [ZbR,e.bx x]
 ·obtain ⟨v,bw,H',sh,_⟩:=Zh1 h hk hK hT
  refine ⟨_,sh.again t (fun x _=>(e.fr x).symm) (fun q _=>(e.bx q).symm) e.H.symm,?_⟩
  rw [sh.out]
  refine ⟨fun x => ?_,ZpF e.bx,rfl⟩
  cases dstI o.i with
  | none=>exact e.fr x
  | some d=>simp only [putO,Zao,e.fr x]
def ZgI (P:Program) (ios:List IOp):List Nat→St→St→Prop
 | [],s,s'=>s'=s
 | i::l,s,s'=>∃ o s1,ios[i]? = some o∧AOp P o s s1∧ZgI P ios l s1 s'
def calm (ios:List IOp):Bool:=ios.all fun o=>(decide (ZU o.i ≠ 3)||decide (o.g=none))&&ioK o
theorem ZjV {ios:List IOp} (hc:calm ios=true) {i:Nat} {o:IOp} (h:ios[i]? = some o):(ZU o.i=3→o.g=none)∧ioK o=true:=by
 have:=List.all_eq_true.1 hc o (List.mem_of_getElem? h)
 simp only [Bool.and_eq_true,Bool.or_eq_true,decide_eq_true_eq] at this
 exact ⟨fun e=>this.1.resolve_left (fun h=>h e),this.2⟩
theorem ZgI.eqv {ios:List IOp} (hc:calm ios=true):∀ (l:List Nat) {s s' t:St},ZgI P ios l s s'→Tops s.fr→Eqv s t→∃ t',ZgI P ios l t t'∧Eqv s' t'
 | [],s,s',t,h,_,e=>by simp only [ZgI] at h;subst h;exact ⟨t,rfl,e⟩
 | i::l,s,s',t,h,hT,e=>by
  simp only [ZgI] at h
  obtain ⟨o,s1,h0,h1,h2⟩:=h
  obtain ⟨hg,hK⟩:=ZjV hc h0
  obtain ⟨t1,h3,e1⟩:=h1.eqv hg hK hT e
  obtain ⟨t',h4,e2⟩:=ZgI.eqv hc l h2 (h1.tops hg hK hT) e1
  exact ⟨t',⟨o,t1,h0,h3,h4⟩,e2⟩
def Cl (ios:List IOp) (l:List Nat) (s:St):Prop:=∀ m ∈ l,∀ om d,ios[m]? = some om→newD om.i=some d→Zjh d s.fr
theorem AOp.clear {o:IOp} {s s':St} (h:AOp P o s s') (hg:ZU o.i=3→o.g=none) (hK:ioK o=true) (hT:Tops s.fr) {d:Nat} (hc:Zjh d s.fr) (hr:d ∉ ZbG o) (hn:newD o.i ≠ some d):Zjh d s'.fr:=by
 by_cases hk:ZU o.i=3
 ·obtain ⟨d',hd'⟩:=ZlM hk
  obtain ⟨_,cs,e1,_⟩:=Zhn (hg hk) hd' h
  rw [e1]
  intro u off hu e
  simp only [Zao] at e
  split at e
  ·simp only [AV.loc.injEq] at e;exact hn (by rw [hd',e.1])
  ·rw [Zc3] at e
   split at e
   ·rename_i t' o' e'
    split at e
    ·cases e
    ·simp only [AV.loc.injEq] at e;exact hc u o' hu (by rw [e',e.1])
   ·exact hc u off hu e
 ·obtain ⟨v,bw,H',sh,_⟩:=Zh1 h hk hK hT
  rw [sh.out]
  intro u off hu e
  cases hd:dstI o.i with
  | none=>rw [hd] at e;exact hc u off hu e
  | some q =>
   rw [hd] at e
   simp only [putO,Zao] at e
   split at e
   ·exact absurd rfl (ZmF hc hr (sh.src d off e))
   ·exact hc u off hu e
def bef:Option (List Nat)→Nat→Nat→Bool
 | none,a,b=>decide (a<b)
 | some o,a,b=>decide (o.idxOf a<o.idxOf b)
theorem Zl2 {ord:Option (List Nat)} {a b:Nat} (h:bef ord a b=true):a ≠ b:=by
 rintro rfl
 cases ord<;>simp [bef] at h
theorem Zrk {ord:Option (List Nat)} {a b:Nat} (h:bef ord a b=true):¬ bef ord b a=true:=by
 cases ord<;>simp only [bef,decide_eq_true_eq] at h ⊢<;>omega
def newOK (ord:Option (List Nat)) (ios:List IOp):Bool :=
 (List.range ios.length).all fun m=>match ios[m]? with
  | some om=>(match newD om.i with
   | some d=>(List.range ios.length).all fun j=>match ios[j]? with
    | some oj=>(!bef ord j m || !(ZbG oj).elem d)&&(decide (j=m)||decide (newD oj.i ≠ some d))
    | none=>true
   | none=>true)
  | none=>true
theorem Zny {ord:Option (List Nat)} {ios:List IOp} (h:newOK ord ios=true) {m j:Nat} {om oj:IOp} {d:Nat} (hm:ios[m]? = some om) (hj:ios[j]? = some oj) (hd:newD om.i=some d):(bef ord j m=true→d ∉ ZbG oj)∧(j ≠ m→newD oj.i ≠ some d):=by
 have hml:=(List.getElem?_eq_some_iff.1 hm).1
 have hjl:=(List.getElem?_eq_some_iff.1 hj).1
 have h1:=List.all_eq_true.1 h m (List.mem_range.2 hml)
 rw [hm] at h1
 simp only [hd] at h1
 have h2:=List.all_eq_true.1 h1 j (List.mem_range.2 hjl)
 rw [hj] at h2
 simp only [Bool.and_eq_true,Bool.or_eq_true,decide_eq_true_eq,Bool.not_eq_true'] at h2
 refine ⟨fun hlt => ?_,fun hne=>h2.2.resolve_left hne⟩
 have:=h2.1.resolve_left (by rw [hlt];simp)
 simpa using this
theorem ZgI.first {ord:Option (List Nat)} {ios:List IOp} (hc:calm ios=true) (hnw:newOK ord ios=true) {i:Nat} {oi:IOp} (hi:ios[i]? = some oi):∀ (l1 l2:List Nat) {s s':St},(∀ j ∈ l1,∀ oj,ios[j]? = some oj→Zpv oj oi=true)→(l1++i::l2).Pairwise (fun a b=>bef ord a b=true)→Tops s.fr→Cl ios (l1++i::l2) s→ZgI P ios (l1++i::l2) s s' →
  ∃ s1 s'',AOp P oi s s1∧ZgI P ios (l1++l2) s1 s''∧Eqv s'' s'
 | [],l2,s,s',_,_,_,_,h=>by
  simp only [List.nil_append,ZgI] at h
  obtain ⟨o,s1,h0,h1,h2⟩:=h
  rw [hi] at h0
  cases h0
  exact ⟨s1,s',h1,h2,Eqv.refl _⟩
 | j::l1,l2,s,s',hind,hsort,hT,hcl,h=>by
  simp only [List.cons_append,ZgI] at h
  obtain ⟨oj,t,h0,h1,h2⟩:=h
  obtain ⟨hgj,hKj⟩:=ZjV hc h0
  obtain ⟨hgi,hKi⟩:=ZjV hc hi
  have hsort':=List.pairwise_cons.1 hsort
  have hTt:=h1.tops hgj hKj hT
  have hclt:Cl ios (l1++i::l2) t:=fun m hm om d hom hd=>by
   have hjm:bef ord j m=true:=hsort'.1 m hm
   obtain ⟨n1,n2⟩:=Zny hnw hom h0 hd
   exact h1.clear hgj hKj hT (hcl m (by simp only [List.cons_append,List.mem_cons];exact .inr hm) om d hom hd) (n1 hjm) (n2 (Zl2 hjm))
  obtain ⟨t1,s'',h3,h4,h5⟩:=ZgI.first hc hnw hi l1 l2 (fun q hq=>hind q (by simp [hq])) hsort'.2 hTt hclt h2
  obtain ⟨u1,u2,h6,h7,h8⟩:=swap (hind j (by simp) oj h0) hgj hgi hKj hKi hT (fun d hd=>hcl j (by simp) oj d h0 hd) (fun d hd=>hcl i (by simp) oi d hi hd) h1 h3
  obtain ⟨s3,h9,h10⟩:=ZgI.eqv hc _ h4 (h3.tops hgi hKi hTt) h8.symm
  exact ⟨u1,s3,h6,⟨oj,u2,h0,h7,h9⟩,h10.symm.trans h5⟩
def preOK (ord:Option (List Nat)) (ops:Array Oper) (ios:List IOp):Bool :=
 (List.range ios.length).all fun i=>match ops[i]?,ios[i]? with
  | some o,some io=>(o.after.all fun e => !Region.binds .any e||(bef ord e.on i&&decide (e.on<ios.length)))&&io.pre.all fun j=>decide (1000000≤j)||o.after.any fun e=>Region.binds .any e&&(decide (e.on=j)||(match ios[e.on]? with
   | some ie=>ie.pre.elem j
   | none=>false))
  | _,_=>false
def Zqh (ord:Option (List Nat)) (ios:List IOp):Bool :=
 (List.range ios.length).all fun i=>(List.range ios.length).all fun j => !bef ord j i||match ios[j]?,ios[i]? with
  | some oj,some oi=>(oi.pre.elem j&&decide (j<1000000))||Zpv oj oi
  | _,_=>false
def Zqq (ord:Option (List Nat)) (ops:Array Oper) (ios:List IOp):Bool:=calm ios&&preOK ord ops ios&&Zqh ord ios&&newOK ord ios
def posO (o:IOp):Option Nat:=(o.pre.find? fun x=>decide (1000000≤x)).map (· - 1000000)
def ordL (iw:List IOp):Option (List Nat):=if iw.all (fun o=>(posO o).isSome) then some (iw.map fun o=>(posO o).getD 0) else none
def srtL (iw:List IOp):List IOp:=match ordL iw with
 | none=>iw
 | some o=>(List.range iw.length).map fun p=>iw.getD (o.idxOf p) ⟨none,.newL 0 [],[],none⟩
def ordK (iw:List IOp):Bool:=match ordL iw with
 | none=>true
 | some o=>(List.range iw.length).all fun k=>o.contains k&&decide (o.idxOf (o.getD k 0)=k)&&decide (o.getD k 0<iw.length)
def ZoT (ops:Array Oper) (iw:List IOp):Bool:=ordK iw&&Zqq (ordL iw) ops (srtL iw)
def Zl9 (iw:List IOp):List Nat:=match ordL iw with
 | none=>List.range iw.length
 | some o=>o
theorem Zim {iw:List IOp} {o:List Nat} (h:ordL iw=some o):o.length=iw.length:=by
 unfold ordL at h
 split at h
 ·simp only [Option.some.injEq] at h;subst h;simp
 ·cases h
theorem Zhm {iw:List IOp} {o:List Nat} (h:ordK iw=true) (ho:ordL iw=some o) {k:Nat} (hk:k<iw.length):k ∈ o∧o.idxOf (o.getD k 0)=k∧o.getD k 0<iw.length:=by
 unfold ordK at h
 rw [ho] at h
 have:=List.all_eq_true.1 h k (List.mem_range.2 hk)
 simp only [Bool.and_eq_true,decide_eq_true_eq,List.contains_iff_mem] at this
 exact ⟨this.1.1,this.1.2,this.2⟩
theorem ZqX (iw:List IOp):(srtL iw).length=iw.length:=by
 unfold srtL
 split<;>simp
theorem ZqW {iw:List IOp} (h:ordK iw=true) {o:IOp} (ho:o ∈ srtL iw):o ∈ iw:=by
 unfold srtL at ho
 split at ho
 ·exact ho
 ·rename_i od hod
  obtain ⟨p,hp,rfl⟩:=List.mem_map.1 ho
  have hp':=List.mem_range.1 hp
  have h1:=(Zhm h hod hp').1
  have h2:od.idxOf p<od.length:=List.idxOf_lt_length_iff.2 h1
  rw [Zim hod] at h2
  rw [List.getD_eq_getElem?_getD,List.getElem?_eq_getElem h2]
  exact List.getElem_mem h2
theorem srtL_at {iw:List IOp} (h:ordK iw=true) {k:Nat} (hk:k<iw.length):∃ p,(Zl9 iw)[k]? = some p∧(srtL iw)[p]? = iw[k]?:=by
 unfold Zl9 srtL
 cases ho:ordL iw with
 | none=>exact ⟨k,by simp [hk],rfl⟩
 | some o =>
  obtain ⟨_,h2,h3⟩:=Zhm h ho hk
  have hl:=Zim ho
  refine ⟨o.getD k 0,?_,?_⟩
  ·simp only [List.getD_eq_getElem?_getD,List.getElem?_eq_getElem (show k<o.length by omega),Option.getD_some]
  ·simp only
   rw [List.getElem?_map,List.getElem?_range h3,Option.map_some,h2,List.getD_eq_getElem?_getD,List.getElem?_eq_getElem hk]
   rfl
theorem ZmW (iw:List IOp):(Zl9 iw).length=iw.length:=by
 unfold Zl9
 cases ho:ordL iw with
 | none=>simp
 | some o=>exact Zim ho
theorem ZpK {iw:List IOp} (h:ordK iw=true) {i:Nat}:i ∈ Zl9 iw↔i<iw.length:=by
 unfold Zl9
 cases ho:ordL iw with
 | none=>simp
 | some o =>
  constructor
  ·intro hi
   obtain ⟨k,hk,rfl⟩:=List.getElem_of_mem hi
   have:=(Zhm h ho (by rw [← Zim ho];exact hk)).2.2
   rwa [List.getD_eq_getElem?_getD,List.getElem?_eq_getElem hk] at this
  ·intro hi;exact (Zhm h ho hi).1
theorem ZmV {iw:List IOp} (h:ordK iw=true):(Zl9 iw).Pairwise (fun a b=>bef (ordL iw) a b=true):=by
 unfold Zl9
 cases ho:ordL iw with
 | none =>
  simp only [bef,decide_eq_true_eq]
  exact List.pairwise_lt_range
 | some o =>
  rw [List.pairwise_iff_getElem]
  intro i j hi hj hij
  change i<o.length at hi
  change j<o.length at hj
  have hl:=Zim ho
  have h1:=(Zhm h ho (show i<iw.length by omega)).2.1
  have h2:=(Zhm h ho (show j<iw.length by omega)).2.1
  rw [List.getD_eq_getElem?_getD,List.getElem?_eq_getElem hi,Option.getD_some] at h1
  rw [List.getD_eq_getElem?_getD,List.getElem?_eq_getElem hj,Option.getD_some] at h2
  simp only [bef,decide_eq_true_eq,h1,h2]
  exact hij
theorem Zl7 {ios:List IOp}:∀ (iw:List IOp) (l:List Nat) {s s':St},l.length=iw.length→(∀ k,k<iw.length→∃ p,l[k]? = some p∧ios[p]? = iw[k]?)→Za P iw s s'→ZgI P ios l s s'
 | [],l,s,s',hl,_,h=>by
  have:l=[]:=List.eq_nil_of_length_eq_zero hl
  subst this
  exact h
 | o::iw,[],s,s',hl,_,h=>by simp at hl
 | o::iw,p::l,s,s',hl,hk,h=>by
  simp only [Za] at h
  obtain ⟨s1,h1,h2⟩:=h
  obtain ⟨q,e1,e2⟩:=hk 0 (by simp)
  simp only [List.getElem?_cons_zero,Option.some.injEq] at e1 e2
  subst e1
  exact ⟨o,s1,e2,h1,Zl7 iw l (by simpa using hl) (fun k hk'=>by simpa using hk (k+1) (by simpa using hk')) h2⟩
variable {k:K0} {n:Nat} {ops:Array Oper}
theorem Zqz {ord:Option (List Nat)} {ios:List IOp} (hlen:ops.size=ios.length) (hchk:∀ (i:Nat) o io,ops[i]? = some o→ios[i]? = some io→ZnP P n ops o io=true) (hd:Zqq ord ops ios=true) {r:Option Nat} {Q:Exit→Act→World→Prop} :
  ∀ (fuel:Nat) (listed:Array Bool) (l:List Nat) {g:G} {s s':St} {a:Act} {w:World},l.length=fuel→l.Pairwise (fun a b=>bef ord a b=true)→listed.size=ops.size→(∀ i,i ∈ l↔listed[i]? = some false) →
   (∀ (i:Nat) io j,ios[i]? = some io→listed[i]? = some true→j ∈ io.pre→j<1000000→listed[j]? = some true) →
   Rel k n g s a w→Cl ios l s→ZgI P ios l s s'→(∀ g' t a' w',Eqv s' t→Rel k n g' t a' w'→Q .normal a' w')→wpAnyIn (FR r) 0 P .any ops Q fuel listed a w:=by
 simp only [Zqq,Bool.and_eq_true] at hd
 obtain ⟨⟨⟨hcalm,hpre⟩,hind⟩,hnw⟩:=hd
 simp only [preOK,List.all_eq_true,List.mem_range] at hpre
 simp only [Zqh,List.all_eq_true,List.mem_range] at hind
 intro fuel
 induction fuel with
 | zero =>
  intro listed l g s s' a w hl _ hsz hmem _ hr _ hp hQ
  have hl0:l=[]:=List.eq_nil_of_length_eq_zero hl
  subst hl0
  simp only [ZgI] at hp
  subst hp
  refine ⟨?_,hQ g _ a w (Eqv.refl _) hr⟩
  unfold Region.ready
  rw [List.filter_eq_nil_iff]
  intro i hi hcon
  simp only [List.mem_range] at hi
  simp only [Bool.and_eq_true,Bool.not_eq_true'] at hcon
  have hf:listed.getD i true=false:=hcon.1
  rw [Array.getD_eq_getD_getElem?,Array.getElem?_eq_getElem (by omega)] at hf
  have:=(hmem i).2 (by rw [Array.getElem?_eq_getElem (by omega)];simpa using hf)
  cases this
 | succ fuel ih =>
  intro listed l g s s' a w hl hsort hsz hmem hcl hr hclr hp hQ
  have hlt:∀ i,i ∈ l→i<ops.size:=fun i hi=>by
   have:=(Array.getElem?_eq_some_iff.1 ((hmem i).1 hi)).1
   omega
  refine ⟨fun hready => ?_,fun i hi => ?_⟩
  ·
   exfalso
   cases l with
   | nil=>simp at hl
   | cons i l' =>
    have hil:=hlt i (by simp)
    have:i ∈ Region.ready .any ops listed:=by
     unfold Region.ready
     rw [List.mem_filter]
     refine ⟨List.mem_range.2 hil,?_⟩
     have hf:=(hmem i).1 (by simp)
     simp only [Bool.and_eq_true,Bool.not_eq_true']
     refine ⟨by rw [Array.getD_eq_getD_getElem?,hf];rfl,?_⟩
     rw [Array.getElem?_eq_getElem hil]
     simp only [Option.map_some,Option.getD_some]
     rw [Array.all_eq_true_iff_forall_mem]
     intro e he
     have hp0:=hpre i (by omega)
     rw [Array.getElem?_eq_getElem hil,List.getElem?_eq_getElem (by omega)] at hp0
     simp only [Bool.and_eq_true] at hp0
     have he1:=(Array.all_eq_true_iff_forall_mem.1 hp0.1) e he
     simp only [Bool.or_eq_true,Bool.and_eq_true,Bool.not_eq_true',decide_eq_true_eq] at he1 ⊢
     rcases he1 with he1 | he1
     ·exact .inl he1
     ·right
      have hno:e.on ∉ i::l':=by
       intro hm
       rcases List.mem_cons.1 hm with h | h
       ·exact Zl2 he1.1 h
       ·exact Zrk (List.rel_of_pairwise_cons hsort h) he1.1
      have hne:listed[e.on]? ≠ some false:=fun h=>hno ((hmem e.on).2 h)
      have hlt2:e.on<listed.size:=by omega
      rw [Array.getElem?_eq_getElem hlt2] at hne
      rw [Array.getD_eq_getD_getElem?,Array.getElem?_eq_getElem hlt2]
      simpa using hne
    rw [hready] at this
    cases this
  ·
   unfold Region.ready at hi
   rw [List.mem_filter] at hi
   obtain ⟨hi0,hi1⟩:=hi
   simp only [List.mem_range] at hi0
   simp only [Bool.and_eq_true,Bool.not_eq_true'] at hi1
   obtain ⟨hi1,hi2⟩:=hi1
   have hfi:listed[i]? = some false:=by
    rw [Array.getD_eq_getD_getElem?,Array.getElem?_eq_getElem (by omega)] at hi1
    rw [Array.getElem?_eq_getElem (by omega)]
    simpa using hi1
   have him:i ∈ l:=(hmem i).2 hfi
   obtain ⟨l1,l2,rfl⟩:=List.append_of_mem him
   have hoi:ops[i]? = some ops[i]:=Array.getElem?_eq_getElem hi0
   have hio:ios[i]? = some (ios[i]'(by omega)):=List.getElem?_eq_getElem (by omega)
   generalize hoe:ops[i]=o at hoi
   generalize hie:ios[i]'(by omega)=io at hio
   rw [hoi] at hi2
   simp only [Option.map_some,Option.getD_some] at hi2
   have hedges:=Array.all_eq_true_iff_forall_mem.1 hi2
   have hp0:=hpre i (by omega)
   rw [hoi,hio] at hp0
   simp only [Bool.and_eq_true] at hp0
   have hclosed:∀ j ∈ io.pre,j<1000000→listed[j]? = some true:=by
    intro j hj hjM
    have h1:=(List.all_eq_true.1 hp0.2) j hj
    simp only [Bool.or_eq_true,decide_eq_true_eq] at h1
    replace h1:=h1.resolve_left (by omega)
    rw [Array.any_eq_true] at h1
    obtain ⟨q,hq,h1⟩:=h1
    have he:o.after[q] ∈ o.after:=Array.getElem_mem hq
    generalize o.after[q]=e at he h1
    simp only [Bool.and_eq_true,Bool.or_eq_true,decide_eq_true_eq] at h1
    obtain ⟨hb,h1⟩:=h1
    have h2:=hedges e he
    simp only [hb,Bool.not_true,Bool.false_or] at h2
    have h3:listed[e.on]? = some true:=by
     rw [Array.getD_eq_getD_getElem?] at h2
     cases h4:listed[e.on]? with
     | none=>rw [h4] at h2;simp at h2
     | some b=>rw [h4] at h2;simp at h2;rw [h2]
    rcases h1 with h1 | h1
    ·rw [← h1];exact h3
    ·split at h1
     ·rename_i ie hie
      exact hcl e.on ie j hie h3 (by simpa using h1) hjM
     ·cases h1
   have hpw:=List.pairwise_append.1 hsort
   have hindl:∀ j ∈ l1,∀ oj,ios[j]? = some oj→Zpv oj io=true:=fun j hj oj hoj=>by
    have hji:bef ord j i=true:=hpw.2.2 j hj i (by simp)
    have h4:=hind i (by omega) j (List.getElem?_eq_some_iff.1 hoj).1
    rw [hoj,hio,hji] at h4
    simp only [Bool.not_true,Bool.false_or,Bool.or_eq_true,Bool.and_eq_true,decide_eq_true_eq] at h4
    rcases h4 with h4 | h4
    ·have h5:=hclosed j (by simpa using h4.1) h4.2
     have h6:=(hmem j).1 (by simp [hj])
     rw [h5] at h6
     cases h6
    ·exact h4
   obtain ⟨s1,s'',h1,h2,h3⟩:=ZgI.first hcalm hnw hio l1 l2 hindl hsort hr.tops hclr hp
   have hcl1:Cl ios (l1++l2) s1:=fun m hm om d hom hd=>by
    obtain ⟨hgi,hKi⟩:=ZjV hcalm hio
    obtain ⟨n1,n2⟩:=Zny hnw hom hio hd
    have hcm:Zjh d s.fr:=hclr m (by simp only [List.mem_append,List.mem_cons] at hm ⊢;rcases hm with h | h;exact .inl h;exact .inr (.inr h)) om d hom hd
    rcases List.mem_append.1 hm with hm1 | hm2
    ·have hmi:bef ord m i=true:=hpw.2.2 m hm1 i (by simp)
     have hin:=hindl m hm1 om hom
     simp only [Zpv,Bool.and_eq_true] at hin
     have hdst:dstI om.i=some d:=Zq3 hd
     rw [hdst] at hin
     exact h1.clear hgi hKi hr.tops hcm (Zfx hin.1.1.2) (n2 (Zl2 hmi).symm)
    ·have hmi:bef ord i m=true:=List.rel_of_pairwise_cons hpw.2.1 hm2
     exact h1.clear hgi hKi hr.tops hcm (n1 hmi) (n2 (Zl2 hmi))
   refine ZmA hr hoi (hchk i o io hoi hio) h1 r (fun g' a' w' h4 => ?_)
   refine ih (listed.setIfInBounds i true) (l1++l2) ?_ ?_ (by simpa using hsz) (fun j => ?_) (fun j ij q hj hjt hq hqM => ?_) h4 hcl1 h2 (fun g2 t a2 w2 e=>hQ g2 t a2 w2 (h3.symm.trans e))
   ·simp only [List.length_append,List.length_cons] at hl ⊢;omega
   ·refine List.pairwise_append.2 ⟨hpw.1,(List.pairwise_cons.1 hpw.2.1).2,fun x hx y hy=>hpw.2.2 x hx y (by simp [hy])⟩
   ·by_cases hij:i=j
    ·subst hij
     rw [Array.getElem?_setIfInBounds_self_of_lt (by omega)]
     constructor
     ·intro hm
      exfalso
      rcases List.mem_append.1 hm with h | h
      ·exact Zl2 (hpw.2.2 i h i (by simp)) rfl
      ·exact Zl2 (List.rel_of_pairwise_cons hpw.2.1 h) rfl
     ·intro h;simp at h
    ·rw [Array.getElem?_setIfInBounds_ne hij,← hmem]
     simp only [List.mem_append,List.mem_cons]
     constructor
     ·rintro (h | h)
      ·exact .inl h
      ·exact .inr (.inr h)
     ·rintro (h | h | h)
      ·exact .inl h
      ·exact absurd h.symm hij
      ·exact .inr h
   ·by_cases hqi:i=q
    ·subst hqi
     rw [Array.getElem?_setIfInBounds_self_of_lt (by omega)]
    ·rw [Array.getElem?_setIfInBounds_ne hqi]
     by_cases hji:i=j
     ·subst hji
      rw [hio] at hj
      cases hj
      exact hclosed q hq hqM
     ·rw [Array.getElem?_setIfInBounds_ne hji] at hjt
      exact hcl j ij q hj hjt hq hqM
theorem ZlV {r:Option Nat} {g:G} {s s':St} {a:Act} {w:World} (hm:P.follows .mixedOrders=true) (h:Rel k n g s a w) {id:Nat} {ios:List IOp} (hc:Zcp P n ops ops.toList (srtL ios)=true) (hd:ZoT ops ios=true) (hst:∀ o ∈ ios,∀ d,newD o.i=some d→Zjh d s.fr) (hp:Za P ios s s') {Q:Exit→Act→World→Prop}
  (hQ:∀ g' t a' w',Eqv s' t→Rel k n g' t a' w'→Q .normal a' w'):(Code.region id ops true).wpIn (FR r) 0 P Q a w:=by
 simp only [ZoT,Bool.and_eq_true] at hd
 obtain ⟨hK,hd⟩:=hd
 obtain ⟨hlen,hget⟩:=ZlY hc
 simp only [Array.length_toList] at hlen
 refine wpIn_region_any hm ?_
 have hr:Rel k n g s a w.drew:=h.grow (Grow.drew w)
 have hpl:=Zl7 (ios:=srtL ios) ios (Zl9 ios) (ZmW ios) (fun k hk=>srtL_at hK hk) hp
 have hlen2:=ZqX ios
 refine Zqz hlen (fun i o io h1 h2=>hget i o io (by simpa using h1) h2) hd ops.size _ _ ?_ (ZmV hK) (by simp) (fun i => ?_) (fun i io j _ hf => ?_) hr (fun m _ om d hom hd=>hst om (ZqW hK (List.mem_of_getElem? hom)) d hd) hpl hQ
 ·rw [ZmW];omega
 ·rw [ZpK hK]
  simp only [Array.getElem?_replicate]
  constructor
  ·intro hi;rw [if_pos (by omega)]
  ·intro h
   split at h
   ·omega
   ·cases h
 ·simp only [Array.getElem?_replicate] at hf
  split at hf
  ·simp at hf
  ·cases hf
end
end Go.Eng

