/- Part of the proof; written by a program out of the texts in wip/. -/
import Derived.Test.YthipedbbcjemhaaGreatPlanCoversE9
import Derived.Deep.AppendSrc
import Derived.IntWalk
set_option linter.unusedVariables false
set_option linter.unusedSimpArgs false
namespace Go.Eng
open Go
def Zog (P:Program) (t:TypeId) (sz len:Nat) (parts:List (Nat × Operand)):Bool :=
 (match P.underlying t with
  | some (.slice e)=>ZcA P e sz&&(match P.info? e with
   | some i=>(match i.zero with
    | some z=>decide (z.cells.size=sz)
    | none=>false)
   | none=>false)
  | _=>false)&&decide (parts.map (·.1)=List.range len)&&decide (len * sz≤16777216)
def chkS (P:Program) (n:Nat) (o:Oper):Ins→Bool
 | .mkSl d x y zero bytes=>decide (o.dst=some d)&&decide (d<n)&&(match o.op with
  | .makeSlice t X Y=>(match P.underlying t with
   | some (.slice e)=>Zh6 P e (zero.map .p)&&ZcA P e zero.length&&(match P.info? e with
    | some i=>decide (i.bytes=bytes)
    | none=>false)
   | _=>false)&&Zdu X x&&Zdu Y y
  | _=>false)
 | .app d x y sz bytes=>decide (o.dst=some d)&&decide (d<n)&&(match o.op with
  | .call { callee:=.builtin .append,args:=args,argTypes:=ts }=>(match ts.toList with
   | [t,t']=>(match P.underlying t with
    | some (.slice e)=>ZcA P e sz&&(match P.info? e with
     | some i=>decide (i.bytes=bytes)&&(match i.zero with
      | some z=>decide (z.cells.size=sz)
      | none=>false)
     | none=>false)
    | _=>false)&&(match P.underlying t' with
     | some (.slice _)=>true
     | _=>false)
   | _=>false)&&Z3 args.toList [x,y]
  | _=>false)
 | .litSl d sz xs=>decide (o.dst=some d)&&decide (d<n)&&(match o.op with
  | .buildSlice t len parts=>Zog P t sz len parts.toList&&Z3 (parts.toList.map (·.2)) xs
  | _=>false)
 | .litP d sz xs=>decide (o.dst=some d)&&decide (d<n)&&(match o.op with
  | .buildSlice t len parts=>Zog P t sz len parts.toList&&Z3 (parts.toList.map (·.2)) xs
  | _=>false)
 | _=>false
section
variable {P:Program} {k:K0} {n:Nat} {g:G} {s:St} {a:Act} {w:World}
def Zgt (ok:Addr→Prop) (w:World) (sz:Nat) (rows:List (List PC)) (us:List Value):Prop :=
 us.length=rows.length * sz∧∀ (i:Nat) r,rows[i]? = some r→r.length=sz∧∀ (j:Nat) x,r[j]? = some x→∃ u,us[i * sz+j]? = some u∧PR ok w x u
theorem Zki {c:Cx} {sz:Nat}:∀ (rows:List (List PC)) (Q:Nat→Value→Prop),(∀ (i:Nat) r,rows[i]? = some r→r.length=sz∧∀ (j:Nat) x,r[j]? = some x→∃ u,Q (i * sz+j) u∧PR c.ok c.w x u) →
  ∃ us:List Value,Zgt c.ok c.w sz rows us∧∀ (q:Nat) u,us[q]? = some u→Q q u
 | [],Q,_=>⟨[],⟨by simp,by simp⟩,by simp⟩
 | r::rows,Q,h=>by
  obtain ⟨h0,h0'⟩:=h 0 r rfl
  simp only [Nat.zero_mul,Nat.zero_add] at h0'
  obtain ⟨us0,a1,a2,a3⟩:=Zmn (c:=c) (Q:=Q) h0'
  obtain ⟨us,⟨b1,b2⟩,b3⟩:=Zki rows (fun q=>Q (sz+q)) (fun i r hi=>by
   obtain ⟨c1,c2⟩:=h (i+1) r (by simpa using hi)
   refine ⟨c1,fun j x hj => ?_⟩
   obtain ⟨u,hu1,hu2⟩:=c2 j x hj
   refine ⟨u,?_,hu2⟩
   rwa [show (i+1) * sz+j=sz+(i * sz+j) by rw [Nat.add_mul];omega] at hu1)
  have hl0:us0.length=sz:=by omega
  refine ⟨us0++us,⟨by simp [b1,hl0,Nat.add_mul];omega,fun i r' hi => ?_⟩,fun q u hq => ?_⟩
  ·cases i with
   | zero =>
    simp at hi
    subst hi
    refine ⟨h0,fun j x hj => ?_⟩
    have hjl:j<us0.length:=by rw [a1];exact (List.getElem?_eq_some_iff.1 hj).1
    refine ⟨us0[j],?_,a3 j x _ hj (List.getElem?_eq_getElem hjl)⟩
    rw [Nat.zero_mul,Nat.zero_add,List.getElem?_append_left hjl,List.getElem?_eq_getElem hjl]
   | succ i =>
    obtain ⟨c1,c2⟩:=b2 i r' (by simpa using hi)
    refine ⟨c1,fun j x hj => ?_⟩
    obtain ⟨u,hu1,hu2⟩:=c2 j x hj
    refine ⟨u,?_,hu2⟩
    rw [show (i+1) * sz+j=sz+(i * sz+j) by rw [Nat.add_mul];omega,List.getElem?_append_right (by omega),hl0,show sz+(i * sz+j) - sz=i * sz+j by omega]
    exact hu1
  ·by_cases hlt:q<us0.length
   ·rw [List.getElem?_append_left hlt] at hq
    exact a2 q u hq
   ·rw [List.getElem?_append_right (by omega),hl0] at hq
    have:=b3 _ u hq
    rwa [show sz+(q - sz)=q by omega] at this
theorem ZmB {ok:Addr→Prop} {x:PC} {u:Value} (h:PR ok w x u):u.oneCell'=true:=by
 cases x with
 | int k n=>rw [PR] at h;subst h;rfl
 | bool b=>rw [PR] at h;subst h;rfl
 | sl sz full rows=>rw [PR] at h;obtain ⟨A,cap,e,_⟩:=h;subst e;rfl
theorem Zgt.one {ok:Addr→Prop} {sz:Nat} {rows:List (List PC)} {us:List Value} (h:Zgt ok w sz rows us):∀ u ∈ us,u.oneCell'=true:=by
 intro u hu
 obtain ⟨q,hq,rfl⟩:=List.getElem_of_mem hu
 have hsz:0<sz:=by
  rcases Nat.eq_zero_or_pos sz with e | e
  ·subst e;have:=h.1;omega
  ·exact e
 have hi:q / sz<rows.length:=by
  rw [h.1] at hq
  exact Nat.div_lt_of_lt_mul (by rw [Nat.mul_comm];exact hq)
 obtain ⟨c1,c2⟩:=h.2 (q / sz) rows[q / sz] (List.getElem?_eq_getElem hi)
 have hj:q % sz<rows[q / sz].length:=by rw [c1];exact Nat.mod_lt _ hsz
 obtain ⟨u,hu1,hu2⟩:=c2 (q % sz) _ (List.getElem?_eq_getElem hj)
 have:q / sz * sz+q % sz=q:=by rw [Nat.mul_comm];exact Nat.div_add_mod q sz
 rw [this,List.getElem?_eq_getElem hq] at hu1
 cases hu1
 exact ZmB hu2
theorem Zgt.mono {ok ok':Addr→Prop} {w w':World} (hs:Stay ok ok' w w') {sz:Nat} {rows:List (List PC)} {us:List Value} (h:Zgt ok w sz rows us):Zgt ok' w' sz rows us :=
 ⟨h.1,fun i r hi=>⟨(h.2 i r hi).1,fun j x hj=>let ⟨u,h1,h2⟩:=(h.2 i r hi).2 j x hj; ⟨u,h1,PR.mono hs x u h2⟩⟩⟩
theorem Zgt.append {ok:Addr→Prop} {sz:Nat} {r1 r2:List (List PC)} {u1 u2:List Value} (h1:Zgt ok w sz r1 u1) (h2:Zgt ok w sz r2 u2):Zgt ok w sz (r1++r2) (u1++u2):=by
 refine ⟨by simp [h1.1,h2.1,Nat.add_mul],fun i r hi => ?_⟩
 by_cases hlt:i<r1.length
 ·rw [List.getElem?_append_left hlt] at hi
  obtain ⟨c1,c2⟩:=h1.2 i r hi
  refine ⟨c1,fun j x hj => ?_⟩
  obtain ⟨u,hu1,hu2⟩:=c2 j x hj
  exact ⟨u,by rw [List.getElem?_append_left (List.getElem?_eq_some_iff.1 hu1).1];exact hu1,hu2⟩
 ·rw [List.getElem?_append_right (by omega)] at hi
  obtain ⟨c1,c2⟩:=h2.2 _ r hi
  refine ⟨c1,fun j x hj => ?_⟩
  obtain ⟨u,hu1,hu2⟩:=c2 j x hj
  refine ⟨u,?_,hu2⟩
  have hle:r1.length * sz≤i * sz:=Nat.mul_le_mul_right _ (by omega)
  rw [List.getElem?_append_right (by rw [h1.1];omega),h1.1]
  rwa [show i * sz+j - r1.length * sz=(i - r1.length) * sz+j by rw [Nat.sub_mul];omega]
theorem Zos {c:Cx} {b sz:Nat} {rows:List (List PC)} {us:List Value} {vs:Array Value} (hb:c.blk b vs) (h:Zgt c.ok c.w sz rows us) (hp:∀ (q:Nat) u,us[q]? = some u→vs[q]? = some u):ArrR c b sz rows:=by
 refine ⟨vs,hb,?_,fun i r hi=>⟨(h.2 i r hi).1,fun j x hj=>let ⟨u,h1,h2⟩:=(h.2 i r hi).2 j x hj; ⟨u,hp _ u h1,h2⟩⟩⟩
 rcases Nat.eq_zero_or_pos (rows.length * sz) with e | e
 ·omega
 ·have hlt:rows.length * sz - 1<us.length:=by rw [h.1];omega
  have:=hp _ _ (List.getElem?_eq_getElem hlt)
  have:=(Array.getElem?_eq_some_iff.1 this).1
  omega
theorem ZgT (h:Rel k n g s a w) {sz:Nat} {x:AV} {rows:List (List PC)} {v:Value} (hr:ZfT s.H sz x=some rows) (hv:VR (cx k g s.H w) x v) :
  ∃ A cap us,v = .slice A rows.length cap∧Zgt (okOf k s.H g) w sz rows us∧(rows ≠ []→∃ ad,A=some ad∧∀ (j:Nat) u,us[j]? = some u→w.cell? (ad.add j)=some u):=by
 unfold ZfT at hr
 split at hr
 ·rename_i sz' full rows'
  split at hr
  ·rename_i hsz
   subst hsz
   simp only [Option.some.injEq] at hr
   subst hr
   rw [VR,PR] at hv
   obtain ⟨A,cap,rfl,_,_,hA⟩:=hv
   by_cases hne:rows'=[]
   ·subst hne
    exact ⟨A,cap,[],rfl,⟨by simp,by simp⟩,fun h=>absurd rfl h⟩
   ·obtain ⟨ad,rfl,hrows⟩:=hA hne
    rw [ZeA] at hrows
    obtain ⟨us,h1,h2⟩:=Zki (c:=cx k g s.H w) (sz:=sz') rows' (fun q u=>w.cell? (ad.add q)=some u) (fun i r hi=>by
     obtain ⟨c1,c2⟩:=hrows i r hi
     rw [Zgu] at c2
     refine ⟨c1,fun j x hj => ?_⟩
     obtain ⟨u,hu1,_,hu2⟩:=c2 j x hj
     rw [ZdY] at hu1
     exact ⟨u,hu1,hu2⟩)
    exact ⟨_,cap,us,rfl,h1,fun _=>⟨ad,rfl,h2⟩⟩
  ·cases hr
 ·rename_i sz0 id ver off len
  split at hr
  ·rename_i sz' ver' frz rows' hH
   split at hr
   ·rename_i hcond
    obtain ⟨rfl,rfl,rfl⟩:=hcond
    rw [VR] at hv
    obtain ⟨ver0,frz0,rows0,b,cap,hH0,_,rfl,hcap,hcur⟩:=hv
    have e0:s.H[id]? = some (HO.arr sz' ver0 frz0 rows0):=hH0
    rw [hH] at e0
    simp only [Option.some.injEq,HO.arr.injEq] at e0
    obtain ⟨vs,hρ,_,_,_⟩:=hcur e0.2.1
    obtain ⟨b',hρ',vs',hblk,hsz,hrow⟩:=h.heap id _ hH
    have:b'=b:=by
     have:g.ρ[id]? = some b:=hρ
     rw [hρ'] at this;cases this;rfl
    subst this
    obtain ⟨hle,rfl⟩:=Zf6 hr
    obtain ⟨us,h1,h2⟩:=Zki (c:=cx k g s.H w) (sz:=sz') ((rows'.drop off).take len) (fun q u=>vs'[off * sz'+q]? = some u) (fun i r hi=>by
     rw [List.getElem?_take] at hi
     split at hi
     ·rw [List.getElem?_drop] at hi
      obtain ⟨c1,c2⟩:=hrow _ r hi
      refine ⟨c1,fun j x hj => ?_⟩
      obtain ⟨u,hu1,hu2⟩:=c2 j x hj
      refine ⟨u,?_,hu2⟩
      rwa [Nat.add_mul,Nat.add_assoc] at hu1
     ·cases hi)
    refine ⟨some ⟨b',off * sz',none⟩,cap,us,?_,h1,fun _=>⟨⟨b',off * sz',none⟩,rfl,fun j u hj => ?_⟩⟩
    ·congr 1
     simp;omega
    ·have hcb:w.cell? ⟨b',off * sz'+j,none⟩=_:=Ziw hblk (off * sz'+j)
     rw [ZeM,hcb];exact h2 j u hj
   ·cases hr
  ·cases hr
 ·cases hr
theorem src_of {A:Option Addr} {cap sz:Nat} {rows:List (List PC)} {us:List Value} {ok:Addr→Prop} {t e:TypeId} (ht:P.underlying t=some (.slice e)) (h:Zgt ok w sz rows us)
  (hA:rows ≠ []→∃ ad,A=some ad∧∀ (j:Nat) u,us[j]? = some u→w.cell? (ad.add j)=some u):Src P sz t (.slice A rows.length cap) rows.length us w:=by
 by_cases hne:rows=[]
 ·subst hne
  have:us=[]:=List.eq_nil_of_length_eq_zero (by simpa using h.1)
  subst this
  cases A with
  | none=>exact Src.ofNil w ht cap
  | some ad=>exact Src.ofSlice w ht ad 0 cap [] (by simp) (by simp) (by simp)
 ·obtain ⟨ad,rfl,hc⟩:=hA hne
  exact Src.ofSlice w ht ad rows.length cap us h.1 hc h.one
theorem Zit {A:Option Addr} {cap sz:Nat} {rows:List (List PC)} {us:List Value} {ok:Addr→Prop} (h:Zgt ok w sz rows us)
  (hA:rows ≠ []→∃ ad,A=some ad∧∀ (j:Nat) u,us[j]? = some u→w.cell? (ad.add j)=some u):(Builtin.firstCells sz rows.length (.slice A rows.length cap)).run P w.drew = .ok us.toArray w.drew:=by
 by_cases hne:rows=[]
 ·subst hne
  have:us=[]:=List.eq_nil_of_length_eq_zero (by simpa using h.1)
  subst this
  cases A with
  | none=>simp [Builtin.firstCells]
  | some ad=>exact run_firstCells_some w.drew sz 0 ad 0 cap [] (by simp) (by simp)
 ·obtain ⟨ad,rfl,hc⟩:=hA hne
  exact run_firstCells_some w.drew sz rows.length ad rows.length cap us h.1 (by simpa using hc)
theorem getElem?_append_prefix {us:List Value} {rest:Array Value} (q:Nat) (u:Value) (h:us[q]? = some u):(us.toArray++rest)[q]? = some u:=by
 have hlt:=(List.getElem?_eq_some_iff.1 h).1
 rw [Array.getElem?_append_left (by simpa using hlt)]
 simpa using h
theorem ZnU (h:Rel k n g s a w) {o:Oper} {d:Nat} {x y:IX} {sz bytes:Nat} (hc:chkS P n o (.app d x y sz bytes)=true) {s':St} (hx:Z5 (.app d x y sz bytes) s=some s'):Did P k n s' a w o:=by
 simp only [chkS,Bool.and_eq_true,decide_eq_true_eq] at hc
 obtain ⟨⟨hd,hn⟩,hc⟩:=hc
 split at hc
 ·rename_i args ts hop
  simp only [Bool.and_eq_true] at hc
  obtain ⟨hty,hm⟩:=hc
  split at hty
  ·rename_i t t' hts
   have hts':ts = #[t,t']:=Ze0 hts
   subst hts'
   simp only [Bool.and_eq_true] at hty
   obtain ⟨hty,hty'⟩:=hty
   obtain ⟨e',ht'⟩:∃ e',P.underlying t'=some (.slice e'):=by
    split at hty'
    ·exact ⟨_,by assumption⟩
    ·cases hty'
   split at hty
   ·rename_i e ht
    simp only [Bool.and_eq_true] at hty
    obtain ⟨hsz,hty⟩:=hty
    split at hty
    ·rename_i i hi
     simp only [Bool.and_eq_true,decide_eq_true_eq] at hty
     obtain ⟨hby,hty⟩:=hty
     split at hty
     ·rename_i z hz
      simp only [decide_eq_true_eq] at hty
      have hisz:i.size=sz:=by
       have hsz':=hsz
       unfold ZcA at hsz'
       simpa [hi] using hsz'
      subst hisz
      obtain ⟨X,Y,hargs,hmX,hmY⟩:∃ X Y,args = #[X,Y]∧Zdu X x=true∧Zdu Y y=true:=by
       cases hl:args.toList with
       | nil=>rw [hl] at hm;simp [Z3] at hm
       | cons X l =>
        cases l with
        | nil=>rw [hl] at hm;simp [Z3] at hm
        | cons Y l =>
         cases l with
         | cons=>rw [hl] at hm;simp [Z3] at hm
         | nil =>
          rw [hl] at hm
          simp only [Z3,Bool.and_true,Bool.and_eq_true] at hm
          exact ⟨X,Y,Ze0 hl,hm.1,hm.2⟩
      subst hargs
      have hvX:=Zbx h hmX
      have hvY:=Zbx h hmY
      simp only [Z5] at hx
      cases hr:ZfT s.H i.size (ev s.fr y) with
      | none=>simp [hr] at hx
      | some new =>
       simp only [hr,Option.bind_some] at hx
       obtain ⟨AY,capY,usY,eY,hRY,hAY⟩:=ZgT h hr hvY
       have hsrc:Src P i.size t' (a.eval Y) new.length usY w:=by rw [eY];exact src_of ht' hRY hAY
       have hexec:∀ v' w',(Builtin.append_ #[t,t'] o.type #[a.eval X,a.eval Y]).run P w = .ok v' w'→(execOp a.eval o).run P w = .ok (.value v') w':=by
        intro v' w' hrun
        simp [execOp,hop,resolve,invoke,builtin,hrun]
       unfold appV at hx
       split at hx
       ·rename_i szq full rows hev
        split at hx
        ·rename_i hcond
         obtain ⟨rfl,rfl,hb1,hb2⟩:=hcond
         have hvX':=hvX
         rw [hev,VR,PR] at hvX'
         obtain ⟨A,cap,eX,hcap,hfull,hA⟩:=hvX'
         have hfull:=hfull rfl
         subst hfull
         have hrX:ZfT s.H i.size (ev s.fr x)=some rows:=by rw [hev];simp [ZfT]
         obtain ⟨AX,capX,usX,eX',hRX,hAX⟩:=ZgT h hrX hvX
         rw [eX] at eX'
         cases eX'
         split at hx
         ·rename_i hnil
          subst hnil
          simp only [Option.map_some,Option.some.injEq] at hx
          subst hx
          have hus:usY=[]:=List.eq_nil_of_length_eq_zero (by simpa using hRY.1)
          subst hus
          refine ⟨a.eval X,w,g,.inl (hexec _ _ ?_),?_⟩
          ·rw [eX]
           have hcs0:=hsrc.cells
           have hln0:=hsrc.len
           simp only [List.length_nil] at hcs0 hln0
           cases A<;>simp [Builtin.append_,run_underlying ht,run_underlying ht',sizeOf,typeInfo,hi,hln0,hcs0,storeCells]
          ·rw [hd]
           exact h.put hn hvX (by rw [hev];rfl)
         ·rename_i hnil
          simp only [Option.map_some,Option.some.injEq] at hx
          subst hx
          have hnew:0<new.length:=List.length_pos_iff.2 hnil
          have hrun:=run_append_grow_src (P:=P) w t t' o.type e i z ht hi hz A rows.length rows.length usX (Zit hRX hAX) (a.eval Y) new.length usY hsrc (by omega) (by omega) (growslice_fits (by omega) (by rw [hby];exact hb1))
          rw [eX] at hexec
          have hge:=grownCap_ge w (rows.length+new.length) rows.length e
          generalize grownCap w (rows.length+new.length) rows.length e=cap' at *
          have h1:=h.grow (Grow.drew w)
          have hRall:Zgt (okOf k s.H g) w.drew i.size (rows++new) (usX++usY):=(Zgt.append hRX hRY).mono (ZdI (k:=k) (g:=g) (Grow.drew w) s.H).stay
          generalize hvs:(usX++usY).toArray++Builtin.zeroCells z.cells (cap' - (rows.length+new.length))=vs at *
          have hl:=h1.laterNew (o:=.arr i.size 0 false (rows++new)) (vs:=vs) e
          have hblk:(cx k ⟨g.ρ++[w.drew.heap.size],g.β⟩ (s.H++[.arr i.size 0 false (rows++new)]) (w.drew.alloc (.cells vs e))).blk w.drew.heap.size vs:=⟨e,heap_alloc_new w.drew _⟩
          obtain ⟨h2,_⟩:=h1.newObj (o:=.arr i.size 0 false (rows++new)) (vs:=vs) e (Zos hblk (hRall.mono hl.stay) (fun q u hq=>by rw [← hvs];exact getElem?_append_prefix q u hq))
          refine ⟨_,_,⟨g.ρ++[w.drew.heap.size],g.β⟩,.inl (hexec _ _ hrun),?_⟩
          rw [hd]
          refine h2.put hn ?_ rfl
          rw [VR]
          refine ⟨0,false,rows++new,w.heap.size,cap',?_,Nat.le_refl _,by simp,hge,fun _=>⟨vs,?_,by simp,hblk,?_⟩⟩
          ·show (s.H++[HO.arr i.size 0 false (rows++new)])[s.H.length]? = _
           simp
          ·show (g.ρ++[w.drew.heap.size])[s.H.length]? = _
           rw [← h.len];simp
          ·rw [← hvs]
           simp only [Array.size_append,List.size_toArray,List.length_append,hRX.1,hRY.1,size_zeroCells,hty,← Nat.add_mul,Nat.zero_add]
           apply Nat.mul_le_mul_right
           omega
        ·cases hx
       ·rename_i sz0 id ver off len hev
        split at hx
        ·rename_i szq ver' frz rows hH
         split at hx
         ·rename_i hcond
          obtain ⟨rfl,rfl,rfl,rfl,hb1,hb2,rfl⟩:=hcond
          simp only [Option.map_some,Option.some.injEq] at hx
          subst hx
          have hvX':=hvX
          rw [hev,VR] at hvX'
          obtain ⟨ver0,frz0,rows0,b,cap,hH0,_,eX,hcap,hcur⟩:=hvX'
          have e0:s.H[id]? = some (HO.arr i.size ver0 frz0 rows0):=hH0
          rw [hH] at e0
          simp only [Option.some.injEq,HO.arr.injEq] at e0
          obtain ⟨vs0,hρ,_,hblk0,hsize⟩:=hcur e0.2.1
          have hρ':g.ρ[id]? = some b:=hρ
          have hrX:ZfT s.H i.size (ev s.fr x)=some rows:=by
           rw [hev]
           simp [ZfT,hH,sub]
          obtain ⟨AX,capX,usX,eX',hRX,hAX⟩:=ZgT h hrX hvX
          rw [eX] at eX'
          simp only [Value.slice.injEq] at eX'
          obtain ⟨rfl,_,rfl⟩:=eX'
          simp only [Nat.zero_mul,Nat.zero_add] at eX hsize hAX
          by_cases hroom:rows.length+new.length≤cap
          ·
           have hblk1:=hblk0
           obtain ⟨et,hblk'⟩:=hblk1
           have hul:usY.length=new.length * i.size:=hRY.1
           have hfit:rows.length * i.size+usY.length≤vs0.size:=by
            have:(rows.length+new.length) * i.size≤cap * i.size:=Nat.mul_le_mul_right _ hroom
            rw [Nat.add_mul] at this
            omega
           have hst:=run_storeCells_at P b (rows.length * i.size) et usY 0 vs0 w hblk' (by omega) hRY.one
           simp only [Nat.add_zero] at hst
           have hrun:(Builtin.append_ #[t,t'] o.type #[a.eval X,a.eval Y]).run P w = .ok (.slice (some ⟨b,0,none⟩) (rows.length+new.length) cap) (w.setRow b (vs0.toList.take (rows.length * i.size)++usY++vs0.toList.drop (rows.length * i.size+usY.length)).toArray):=by
            rw [eX]
            simp [Builtin.append_,run_underlying ht,run_underlying ht',sizeOf,typeInfo,hi,hsrc.len,hroom,hsrc.cells,ZeM,hst]
           have hnew:∀ (j:Nat),(vs0.toList.take (rows.length * i.size)++usY++vs0.toList.drop (rows.length * i.size+usY.length)).toArray[j]? = if j<rows.length * i.size then vs0[j]? else if j<rows.length * i.size+usY.length then usY[j - rows.length * i.size]? else vs0[j]?:=by
            intro j
            have hs2:Zbr (rows.length * i.size) usY vs0.toList=some (vs0.toList.take (rows.length * i.size)++usY++vs0.toList.drop (rows.length * i.size+usY.length)):=by
             unfold Zbr;rw [if_pos (by simpa using hfit)]
            have:=Zeh hs2 j
            simpa using this
           have hup:=Upd.setRow (c:=cx k g s.H w) hblk0 (vs0.toList.take (rows.length * i.size)++usY++vs0.toList.drop (rows.length * i.size+usY.length)).toArray
           have hvsz:(vs0.toList.take (rows.length * i.size)++usY++vs0.toList.drop (rows.length * i.size+usY.length)).toArray.size=vs0.size:=by simp;omega
           generalize hvs':(vs0.toList.take (rows.length * i.size)++usY++vs0.toList.drop (rows.length * i.size+usY.length)).toArray=vs' at *
           have h2:=h.appendIn (new:=new) hρ' hH hblk0 hvsz hup (fun j hj=>by rw [hnew,if_pos hj]) (fun hl=>by
            have hRall:=(Zgt.append hRX hRY).mono hl.stay
            refine Zos hup.here hRall (fun q u hq => ?_)
            rw [hnew]
            by_cases hlt:q<usX.length
            ·rw [List.getElem?_append_left hlt] at hq
             rw [if_pos (by rw [← hRX.1];exact hlt)]
             obtain ⟨ad,ead,hcell⟩:=hAX (by intro e;have:=hRX.1;rw [e] at this;simp only [List.length_nil,Nat.zero_mul] at this;omega)
             cases ead
             have:=hcell q u hq
             rw [ZeM,Nat.zero_add] at this
             have hcb:w.cell? ⟨b,q,none⟩=_:=Ziw hblk0 q
             rwa [hcb] at this
            ·have hlt2:=(List.getElem?_eq_some_iff.1 hq).1
             simp only [List.length_append] at hlt2
             rw [List.getElem?_append_right (by omega)] at hq
             have:=hRX.1
             rw [if_neg (by omega),if_pos (by omega),← this]
             exact hq)
           refine ⟨_,_,g,.inl (hexec _ _ hrun),?_⟩
           rw [hd]
           refine h2.put hn ?_ rfl
           rw [VR]
           refine ⟨ver'+1,frz,rows++new,b,cap,?_,Nat.le_refl _,by simp,hroom,fun _=>⟨vs',hρ',by simp,hup.here,by simp only [Nat.zero_add];omega⟩⟩
           show (s.H.set id _)[id]? = _
           rw [Zev _ hH,if_pos rfl]
          ·
           have hrun:=run_append_grow_src (P:=P) w t t' o.type e i z ht hi hz (some ⟨b,0,none⟩) rows.length cap usX (Zit hRX hAX) (a.eval Y) new.length usY hsrc (by omega) (by omega) (growslice_fits (by omega) (by rw [hby];exact hb1))
           rw [eX] at hexec
           have hge:=grownCap_ge w (rows.length+new.length) cap e
           generalize grownCap w (rows.length+new.length) cap e=cap' at *
           have h1:=h.grow (Grow.drew w)
           generalize hvs:(usX++usY).toArray++Builtin.zeroCells z.cells (cap' - (rows.length+new.length))=vs at *
           have hblk:(cx k ⟨g.ρ.set id w.drew.heap.size,g.β⟩ (s.H.set id (.arr i.size (ver'+1) frz (rows++new))) (w.drew.alloc (.cells vs e))).blk w.drew.heap.size vs:=⟨e,heap_alloc_new w.drew _⟩
           have h2:=h1.appendNew (new:=new) (vs:=vs) hρ' hH e (fun hl=>by
            have hR1:Zgt (okOf k s.H g) w.drew i.size (rows++new) (usX++usY):=(Zgt.append hRX hRY).mono (ZdI (k:=k) (g:=g) (Grow.drew w) s.H).stay
            exact Zos hblk (hR1.mono hl.stay) (fun q u hq=>by rw [← hvs];exact getElem?_append_prefix q u hq))
           refine ⟨_,_,⟨g.ρ.set id w.drew.heap.size,g.β⟩,.inl (hexec _ _ hrun),?_⟩
           rw [hd]
           refine h2.put hn ?_ rfl
           rw [VR]
           refine ⟨ver'+1,frz,rows++new,w.heap.size,cap',?_,Nat.le_refl _,by simp,hge,fun _=>⟨vs,?_,by simp,hblk,?_⟩⟩
           ·show (s.H.set id _)[id]? = _
            rw [Zev _ hH,if_pos rfl]
           ·show (g.ρ.set id w.drew.heap.size)[id]? = _
            rw [List.getElem?_set_self (List.getElem?_eq_some_iff.1 hρ').1];rfl
           ·rw [← hvs]
            simp only [Array.size_append,List.size_toArray,List.length_append,hRX.1,hRY.1,size_zeroCells,hty,← Nat.add_mul,Nat.zero_add]
            apply Nat.mul_le_mul_right
            omega
         ·cases hx
        ·cases hx
       ·cases hx
     ·cases hty
    ·cases hty
   ·cases hty
  ·cases hty
 ·cases hc
theorem Zou {x:Int} (h0:0≤x) (h1:x≤140737488355328):IntKind.i64.wrap x=x:=IntWalk.i64_in x (by omega)
theorem Zie {t e:TypeId} {i:TypeInfo} {z:Value} {m c:Int} (ht:P.underlying t=some (.slice e)) (hi:P.info? e=some i) (hz:i.zero=some z) (h0:0≤m) (h1:m≤c) (h2:c * i.bytes≤140737488355328) (h3:c≤140737488355328) :
  (Instr.makeSlice t (.int .i64 m) (.int .i64 c)).run P w = .ok (.slice (some ⟨w.heap.size,0,none⟩) m.toNat c.toNat)
   (w.alloc (.cells ((Array.range (c.toNat * i.size)).map ((if c.toNat * i.size=0 then #[] else z.cells)[· % (if c.toNat * i.size=0 then #[] else z.cells).size]!)) e)):=by
 have e1:IntKind.i64.wrap m=m:=Zou h0 (by omega)
 have e2:IntKind.i64.wrap c=c:=Zou (by omega) h3
 have h4:¬ (281474976710656<(i.bytes:Int) * c):=by rw [Int.mul_comm];omega
 have h5:¬ c<0:=by omega
 have h6:¬ m<0:=by omega
 have h7:¬ c<m:=by omega
 unfold Instr.makeSlice
 by_cases hn:c.toNat * i.size=0
 ·simp [run_underlying ht,asInt,asIntOf,typeInfo,hi,e1,e2,h4,h5,h6,h7,sizeOf,hn,newRow]
 ·simp only [hn,if_false]
  simp [run_underlying ht,asInt,asIntOf,typeInfo,hi,e1,e2,h4,h5,h6,h7,sizeOf,hn,newRow,zeroValue,hz]
theorem Zpl (h:Rel k n g s a w) {o:Oper} {d:Nat} {x y:IX} {zero:List PC} {bytes:Nat} (hc:chkS P n o (.mkSl d x y zero bytes)=true) {s':St} (hx:Z5 (.mkSl d x y zero bytes) s=some s'):Did P k n s' a w o:=by
 simp only [chkS,Bool.and_eq_true,decide_eq_true_eq] at hc
 obtain ⟨⟨hd,hn⟩,hc⟩:=hc
 split at hc
 ·rename_i t X Y hop
  simp only [Bool.and_eq_true] at hc
  obtain ⟨⟨hty,hmX⟩,hmY⟩:=hc
  split at hty
  ·rename_i e ht
   simp only [Bool.and_eq_true] at hty
   obtain ⟨⟨hz,hsz⟩,hty⟩:=hty
   split at hty
   ·rename_i i hi
    simp only [decide_eq_true_eq] at hty
    subst hty
    have hisz:i.size=zero.length:=by
     unfold ZcA at hsz
     simpa [hi] using hsz
    simp only [Z5] at hx
    split at hx
    ·rename_i m c hevx hevy
     split at hx
     ·rename_i hcond
      obtain ⟨h0,h1,h2,h3⟩:=hcond
      simp only [Option.some.injEq] at hx
      subst hx
      have eX:a.eval X = .int .i64 m:=Zcd (c:=cx k g s.H w) (by rw [← hevx];exact Zbx h hmX)
      have eY:a.eval Y = .int .i64 c:=Zcd (c:=cx k g s.H w) (by rw [← hevy];exact Zbx h hmY)
      unfold Zh6 at hz
      rw [hi] at hz
      simp only at hz
      split at hz
      ·rename_i z hiz
       have hrun:=Zie (P:=P) (w:=w) ht hi hiz h0 h1 h2 h3
       obtain ⟨hzl,_⟩:=ZfA (c:=cx k g s.H w) hz
       have hzlen:=hzl.length
       simp only [Array.length_toList,List.length_map] at hzlen
       generalize hvs:(Array.range (c.toNat * i.size)).map ((if c.toNat * i.size=0 then #[] else z.cells)[· % (if c.toNat * i.size=0 then #[] else z.cells).size]!)=vs at hrun
       have hvget:∀ q,q<c.toNat * i.size→vs[q]? = z.cells[q % zero.length]?:=by
        intro q hq
        have hne:¬ c.toNat * i.size=0:=by omega
        have hpos:0<zero.length:=by
         rcases Nat.eq_zero_or_pos zero.length with e | e
         ·rw [hisz,e] at hq;simp at hq
         ·exact e
        rw [← hvs]
        simp only [hne,if_false,hzlen]
        have hlt:q % zero.length<z.cells.size:=by rw [hzlen];exact Nat.mod_lt _ hpos
        simp [hq,hlt]
       have hl:=h.laterNew (o:=.arr zero.length 0 false (List.replicate m.toNat zero)) (vs:=vs) e
       have hblk:(cx k ⟨g.ρ++[w.heap.size],g.β⟩ (s.H++[.arr zero.length 0 false (List.replicate m.toNat zero)]) (w.alloc (.cells vs e))).blk w.heap.size vs:=⟨e,heap_alloc_new w _⟩
       have hvsz:vs.size=c.toNat * i.size:=by rw [← hvs];simp
       have hmc:m.toNat≤c.toNat:=by omega
       obtain ⟨h5,_⟩:=h.newObj (o:=.arr zero.length 0 false (List.replicate m.toNat zero)) (vs:=vs) e (by
        refine ⟨vs,hblk,?_,fun q r hq => ?_⟩
        ·rw [hvsz,hisz,List.length_replicate];exact Nat.mul_le_mul_right _ hmc
        ·rw [List.getElem?_replicate] at hq
         split at hq
         ·rename_i hlt
          cases hq
          refine ⟨rfl,fun j x hj => ?_⟩
          have hjl:=(List.getElem?_eq_some_iff.1 hj).1
          have hfit:q * zero.length+j<c.toNat * i.size:=by
           have:(q+1) * zero.length≤c.toNat * zero.length:=Nat.mul_le_mul_right _ (by omega)
           rw [Nat.add_mul] at this
           rw [hisz];omega
          have hmod:(q * zero.length+j) % zero.length=j:=by
           rw [Nat.mul_comm,Nat.mul_add_mod,Nat.mod_eq_of_lt hjl]
          rw [Zd0] at hzl
          have hju:j<z.cells.size:=by omega
          refine ⟨z.cells[j],?_,?_⟩
          ·rw [hvget _ hfit,hmod];simp [hju]
          ·have:=hzl.2 j (.p x) z.cells[j] (by simp [hj]) (by simp [hju])
           rw [VR] at this
           exact PR.mono hl.stay x _ this
         ·cases hq)
       refine ⟨_,_,⟨g.ρ++[w.heap.size],g.β⟩,.inl (by simp only [execOp,hop,eX,eY,Sem.run_bind];rw [hrun];rfl),?_⟩
       rw [hd]
       refine h5.put hn ?_ rfl
       rw [VR]
       refine ⟨0,false,List.replicate m.toNat zero,w.heap.size,c.toNat,?_,Nat.le_refl _,by simp,hmc,fun _=>⟨vs,?_,by simp,hblk,?_⟩⟩
       ·show (s.H++[HO.arr _ _ _ _])[s.H.length]? = _
        simp
       ·show (g.ρ++[w.heap.size])[s.H.length]? = _
        rw [← h.len];simp
       ·rw [hvsz,hisz,Nat.zero_add];exact Nat.le_refl _
      ·cases hz
     ·cases hx
    ·cases hx
   ·cases hty
  ·cases hty
 ·cases hc
theorem ZlD {c:Cx} {sz:Nat}:∀ (ps:List (Nat × Operand)) (xs:List AV) (us:List Value) (rows:List (List PC)) (st:Nat) (cells:Array Value),
  VRL c xs us→Zfl sz xs=some rows→ps.map (·.1)=List.range' st ps.length→ps.length=us.length→cells.size=(st+ps.length) * sz →
  ∃ arr,Instr.fill (fun i=>some (i * sz,sz)) cells ((ps.map (·.1)).zip us)=some arr∧arr.size=cells.size∧(∀ q,q<st * sz→arr[q]? = cells[q]?)∧rows.length=ps.length ∧
   ∀ (i:Nat) r,rows[i]? = some r→r.length=sz∧∀ (j:Nat) x,r[j]? = some x→∃ u,arr[(st+i) * sz+j]? = some u∧PR c.ok c.w x u
 | [],xs,us,rows,st,cells,hx,hr,hp,hl,hs=>by
  cases us with
  | cons=>simp at hl
  | nil =>
   have hx0:xs=[]:=by have:=hx.length;simp at this;exact List.eq_nil_of_length_eq_zero this.symm
   subst hx0
   simp only [Zfl,Option.some.injEq] at hr
   subst hr
   exact ⟨cells,rfl,rfl,fun _ _=>rfl,rfl,by simp⟩
 | p::ps,xs,us,rows,st,cells,hx,hr,hp,hl,hs=>by
  cases us with
  | nil=>simp at hl
  | cons u us =>
   cases xs with
   | nil=>have:=hx.length;simp at this
   | cons x xs =>
    rw [VRL] at hx
    obtain ⟨u',us',e,hx1,hx2⟩:=hx
    cases e
    simp only [Zfl] at hr
    split at hr
    ·rename_i hcl
     cases hu:unP (cellsOf x) with
     | none=>simp [hu] at hr
     | some r0 =>
      simp only [hu,Option.bind_some] at hr
      cases hrs:Zfl sz xs with
      | none=>simp [hrs] at hr
      | some rows' =>
       simp only [hrs,Option.map_some,Option.some.injEq] at hr
       subst hr
       obtain ⟨ecl,eco,ecs⟩:=Zm1 hu
       have hcu:=Zfd eco hx1
       have hlen:=hcu.length
       simp only [Array.length_toList] at hlen
       simp only [List.map_cons,List.length_cons,List.range'_succ,List.cons.injEq] at hp
       obtain ⟨hp0,hp1⟩:=hp
       simp only [List.length_cons] at hs
       have hfit:st * sz+0+u.cells.toList.length≤cells.size:=by
        have e1:(st+(ps.length+1)) * sz=st * sz+(ps.length+1) * sz:=by rw [Nat.add_mul]
        have e2:(ps.length+1) * sz=ps.length * sz+sz:=by rw [Nat.add_mul,Nat.one_mul]
        simp only [Array.length_toList]
        omega
       have hfold:=ZkU (st * sz) u.cells.toList 0 cells hfit
       simp only [Nat.add_zero,Array.length_toList] at hfold
       have hfold':(u.cells.zipIdx.foldl (fun cs (p:Value × Nat)=>cs.setIfInBounds (st * sz+p.2) p.1) cells).toList=cells.toList.take (st * sz)++u.cells.toList++cells.toList.drop (st * sz+u.cells.size):=by
        rw [← Array.foldl_toList,Array.toList_zipIdx]
        simpa using hfold
       generalize hc2:u.cells.zipIdx.foldl (fun cs (p:Value × Nat)=>cs.setIfInBounds (st * sz+p.2) p.1) cells=cells2 at hfold'
       have hget2:∀ (j:Nat),cells2[j]? = if j<st * sz then cells[j]? else if j<st * sz+u.cells.size then u.cells[j - st * sz]? else cells[j]?:=by
        intro j
        have hs2:Zbr (st * sz) u.cells.toList cells.toList=some cells2.toList:=by
         unfold Zbr
         rw [if_pos (by simpa using hfit),hfold']
         simp
        have:=Zeh hs2 j
        simpa using this
       have hsz2:cells2.size=cells.size:=by
        have:=congrArg List.length hfold'
        simp only [Array.length_toList,List.length_append,List.length_take,List.length_drop] at this
        simp only [Array.length_toList] at hfit
        omega
       obtain ⟨arr,a1,a2,a3,a4,a5⟩:=ZlD ps xs us rows' (st+1) cells2 hx2 hrs hp1 (by simpa using hl) (by rw [hsz2,hs];congr 1;omega)
       refine ⟨arr,?_,by rw [a2,hsz2],fun q hq => ?_,by simp [a4],fun i r hi => ?_⟩
       ·simp only [List.map_cons,List.zip_cons_cons,Instr.fill,hp0]
        rw [if_neg (by simp only [Array.length_toList] at hfit;simp;omega),hc2]
        exact a1
       ·have e1:(st+1) * sz=st * sz+sz:=by rw [Nat.add_mul,Nat.one_mul]
        rw [a3 q (by omega),hget2,if_pos hq]
       ·cases i with
        | zero =>
         simp at hi
         subst hi
         have hr0:r0.length=sz:=by rw [← hcl];exact ecl.symm
         refine ⟨hr0,fun j y hj => ?_⟩
         have hjl:=(List.getElem?_eq_some_iff.1 hj).1
         have e1:(st+1) * sz=st * sz+sz:=by rw [Nat.add_mul,Nat.one_mul]
         have hju:j<u.cells.size:=by omega
         have hcu:=ecs _ _ hcu
         rw [Zd0] at hcu
         refine ⟨u.cells[j],?_,?_⟩
         ·rw [Nat.add_zero,a3 _ (by omega),hget2,if_neg (by omega),if_pos (by omega),show st * sz+j - st * sz=j by omega]
          simp [hju]
         ·have:=hcu.2 j (.p y) u.cells[j] (by simp [hj]) (by simp [hju])
          rwa [VR] at this
        | succ i =>
         obtain ⟨b1,b2⟩:=a5 i r (by simpa using hi)
         refine ⟨b1,fun j y hj => ?_⟩
         obtain ⟨v,v1,v2⟩:=b2 j y hj
         exact ⟨v,by rw [show st+(i+1)=st+1+i by omega];exact v1,v2⟩
    ·cases hr
theorem ZpW (h:Rel k n g s a w) {t:TypeId} {sz len:Nat} {parts:Array (Nat × Operand)} {xs:List IX} {rows:List (List PC)} (hl:Zog P t sz len parts.toList=true) (hm:Z3 (parts.toList.map (·.2)) xs=true)
  (hr:Zfl sz (xs.map (ev s.fr))=some rows) :
  ∃ vs e,(Instr.buildSlice t len (parts.map fun (i,x)=>(i,a.eval x))).run P w = .ok (.slice (some ⟨w.heap.size,0,none⟩) rows.length rows.length) (w.alloc (.cells vs e))∧vs.size=rows.length * sz ∧
   ∀ (i:Nat) r,rows[i]? = some r→r.length=sz∧∀ (j:Nat) x,r[j]? = some x→∃ u,vs[i * sz+j]? = some u∧PR (okOf k s.H g) w x u:=by
 simp only [Zog,Bool.and_eq_true,decide_eq_true_eq] at hl
 obtain ⟨⟨hty,hix⟩,hsmall⟩:=hl
 have hv:=ZQ h hm
 have hplen:parts.toList.length=len:=by
  have:=congrArg List.length hix
  simpa using this
 split at hty
 ·rename_i e ht
  simp only [Bool.and_eq_true] at hty
  obtain ⟨hsz,hty⟩:=hty
  split at hty
  ·rename_i i hi
   split at hty
   ·rename_i z hz
    simp only [decide_eq_true_eq] at hty
    generalize hcells:(Array.range (len * sz)).map ((if len * sz=0 then #[] else z.cells)[· % (if len * sz=0 then #[] else z.cells).size]!)=cells
    have hcsz:cells.size=(0+parts.toList.length) * sz:=by rw [← hcells,hplen];simp
    obtain ⟨arr,a1,a2,_,a4,a5⟩:=ZlD (c:=cx k g s.H w) parts.toList (xs.map (ev s.fr)) ((parts.toList.map (·.2)).map a.eval) rows 0 cells hv hr (by rw [hix,hplen,List.range_eq_range']) (by simp) hcsz
    refine ⟨arr,e,?_,by rw [a2,hcsz,a4];simp,fun q r hq => ?_⟩
    ·have elist:(parts.map fun (p:Nat × Operand)=>(p.1,a.eval p.2)).toList=(parts.toList.map (·.1)).zip ((parts.toList.map (·.2)).map a.eval):=by
      rw [Array.toList_map,List.map_map,List.zip_map']
      rfl
     have hsz':=Zci (P:=P) (w:=w) hsz
     have hzv:(zeroValue e).run P w = .ok z w:=by simp [zeroValue,typeInfo,hi,hz]
     have hn:¬ (16777216<len * sz):=by omega
     unfold Instr.buildSlice
     have hrl:rows.length=len:=by rw [a4,hplen]
     by_cases h0:len * sz=0
     ·simp only [h0,if_true] at hcells
      simp only [Sem.run_bind,run_underlying ht,Result.andThen_ok,hsz',h0,if_true,Sem.run_pure,Nat.not_lt_zero,gt_iff_lt,if_false]
      rw [elist,hcells,a1]
      simp [newRow,hrl]
     ·simp only [h0,if_false] at hcells
      simp only [Sem.run_bind,run_underlying ht,Result.andThen_ok,hsz',h0,if_false,Sem.run_pure,gt_iff_lt,hzv,show (2 ^ 24:Nat)=16777216 from rfl,hn]
      rw [elist,hcells,a1]
      simp [newRow,hrl]
    ·obtain ⟨b1,b2⟩:=a5 q r hq
     refine ⟨b1,fun j x hj => ?_⟩
     obtain ⟨u,u1,u2⟩:=b2 j x hj
     rw [Nat.zero_add] at u1
     exact ⟨u,u1,u2⟩
   ·cases hty
  ·cases hty
 ·cases hty
theorem Zof (h:Rel k n g s a w) {o:Oper} {d sz:Nat} {xs:List IX} (hc:chkS P n o (.litSl d sz xs)=true) {s':St} (hx:Z5 (.litSl d sz xs) s=some s'):Did P k n s' a w o:=by
 simp only [chkS,Bool.and_eq_true,decide_eq_true_eq] at hc
 obtain ⟨⟨hd,hn⟩,hc⟩:=hc
 split at hc
 ·rename_i t len parts hop
  simp only [Bool.and_eq_true] at hc
  simp only [Z5] at hx
  cases hr:Zfl sz (xs.map (ev s.fr)) with
  | none=>simp [hr] at hx
  | some rows =>
   simp only [hr,Option.map_some,Option.some.injEq] at hx
   subst hx
   obtain ⟨vs,e,hrun,hvsz,hrow⟩:=ZpW h hc.1 hc.2 hr
   have hl:=h.laterNew (o:=.arr sz 0 false rows) (vs:=vs) e
   have hblk:(cx k ⟨g.ρ++[w.heap.size],g.β⟩ (s.H++[.arr sz 0 false rows]) (w.alloc (.cells vs e))).blk w.heap.size vs:=⟨e,heap_alloc_new w _⟩
   obtain ⟨h5,_⟩:=h.newObj (o:=.arr sz 0 false rows) (vs:=vs) e ⟨vs,hblk,by omega,fun i r hi=>⟨(hrow i r hi).1,fun j x hj=>let ⟨u,u1,u2⟩:=(hrow i r hi).2 j x hj; ⟨u,u1,PR.mono hl.stay x u u2⟩⟩⟩
   refine ⟨_,_,⟨g.ρ++[w.heap.size],g.β⟩,.inl (by simp only [execOp,hop,Sem.run_bind];rw [hrun];rfl),?_⟩
   rw [hd]
   refine h5.put hn ?_ rfl
   rw [VR]
   refine ⟨0,false,rows,w.heap.size,rows.length,?_,Nat.le_refl _,by simp,Nat.le_refl _,fun _=>⟨vs,?_,by simp,hblk,by rw [hvsz,Nat.zero_add];exact Nat.le_refl _⟩⟩
   ·show (s.H++[HO.arr _ _ _ _])[s.H.length]? = _
    simp
   ·show (g.ρ++[w.heap.size])[s.H.length]? = _
    rw [← h.len];simp
 ·cases hc
theorem Zps (h:Rel k n g s a w) {o:Oper} {d sz:Nat} {xs:List IX} (hc:chkS P n o (.litP d sz xs)=true) {s':St} (hx:Z5 (.litP d sz xs) s=some s'):Did P k n s' a w o:=by
 simp only [chkS,Bool.and_eq_true,decide_eq_true_eq] at hc
 obtain ⟨⟨hd,hn⟩,hc⟩:=hc
 split at hc
 ·rename_i t len parts hop
  simp only [Bool.and_eq_true] at hc
  simp only [Z5] at hx
  cases hr:Zfl sz (xs.map (ev s.fr)) with
  | none=>simp [hr] at hx
  | some rows =>
   simp only [hr,Option.map_some,Option.some.injEq] at hx
   subst hx
   obtain ⟨vs,e,hrun,hvsz,hrow⟩:=ZpW h hc.1 hc.2 hr
   have hg:=Grow.alloc w (.cells vs e)
   have h1:=h.grow hg
   have hl:=ZdI (k:=k) (g:=g) hg s.H
   refine ⟨_,_,g,.inl (by simp only [execOp,hop,Sem.run_bind];rw [hrun];rfl),?_⟩
   rw [hd]
   refine h1.put hn ?_ rfl
   rw [VR,PR]
   refine ⟨_,rows.length,rfl,Nat.le_refl _,fun _=>rfl,fun _=>⟨_,rfl,?_⟩⟩
   rw [ZeA]
   intro i r hi
   refine ⟨(hrow i r hi).1,?_⟩
   rw [Zgu]
   intro j x hj
   obtain ⟨u,u1,u2⟩:=(hrow i r hi).2 j x hj
   have hcell:(w.alloc (.cells vs e)).cell? ⟨w.heap.size,i * sz+j,none⟩=some u:=by
    unfold World.cell?
    rw [heap_alloc_new]
    simpa using u1
   refine ⟨u,?_,?_,PR.mono hl.stay x u u2⟩
   ·rw [ZdY,ZeM,Nat.zero_add];exact hcell
   ·rw [ZdY,ZeM,Nat.zero_add]
    refine ⟨.inr (.inl h.keep.size),fun t e' => ?_,fun id e' => ?_⟩
    ·exact Nat.lt_irrefl _ (β_lt h e')
    ·exact absurd (ρ_lt h e') (Nat.lt_irrefl _)
 ·cases hc
theorem Zp8 (h:Rel k n g s a w) {o:Oper} {d m:Nat} {zero:List PC} {bytes:Nat} (hc:chkS P n o (.mkSl d (.k (.p (.int .i64 m))) (.k (.p (.int .i64 m))) zero bytes)=true) {s':St} (hx:Z5 (.mkC d m zero bytes) s=some s'):Did P k n s' a w o:=by
 simp only [chkS,Bool.and_eq_true,decide_eq_true_eq] at hc
 obtain ⟨⟨hd,hn⟩,hc⟩:=hc
 split at hc
 ·rename_i t X Y hop
  simp only [Bool.and_eq_true] at hc
  obtain ⟨⟨hty,hmX⟩,hmY⟩:=hc
  split at hty
  ·rename_i e ht
   simp only [Bool.and_eq_true] at hty
   obtain ⟨⟨hz,hsz⟩,hty⟩:=hty
   split at hty
   ·rename_i i hi
    simp only [decide_eq_true_eq] at hty
    subst hty
    have hisz:i.size=zero.length:=by
     unfold ZcA at hsz
     simpa [hi] using hsz
    simp only [Z5] at hx
    split at hx
    ·rename_i hcond
     obtain ⟨hb1,hb2⟩:=hcond
     simp only [Option.some.injEq] at hx
     subst hx
     obtain ⟨c,ec⟩:∃ c:Int,c=(m:Int):=⟨_,rfl⟩
     have h0:(0:Int)≤c:=by omega
     have h1:c≤c:=Int.le_refl _
     have h2:c * (i.bytes:Int)≤140737488355328:=by
      rw [ec,← Int.natCast_mul]
      generalize m * i.bytes=q at hb1 ⊢
      omega
     have h3:c≤140737488355328:=by omega
     have hcm:c.toNat=m:=by omega
     have eX:a.eval X = .int .i64 c:=Zcd (c:=cx k g s.H w) (by rw [ec];exact Zbx h hmX)
     have eY:a.eval Y = .int .i64 c:=Zcd (c:=cx k g s.H w) (by rw [ec];exact Zbx h hmY)
     unfold Zh6 at hz
     rw [hi] at hz
     simp only at hz
     split at hz
     ·rename_i z hiz
      have hrun:=Zie (P:=P) (w:=w) ht hi hiz h0 h1 h2 h3
      obtain ⟨hzl,_⟩:=ZfA (c:=cx k g s.H w) hz
      have hzlen:=hzl.length
      simp only [Array.length_toList,List.length_map] at hzlen
      generalize hvs:(Array.range (c.toNat * i.size)).map ((if c.toNat * i.size=0 then #[] else z.cells)[· % (if c.toNat * i.size=0 then #[] else z.cells).size]!)=vs at hrun
      have hvget:∀ q,q<c.toNat * i.size→vs[q]? = z.cells[q % zero.length]?:=by
       intro q hq
       have hne:¬ c.toNat * i.size=0:=by omega
       have hpos:0<zero.length:=by
        rcases Nat.eq_zero_or_pos zero.length with e | e
        ·rw [hisz,e] at hq;simp at hq
        ·exact e
       rw [← hvs]
       simp only [hne,if_false,hzlen]
       have hlt:q % zero.length<z.cells.size:=by rw [hzlen];exact Nat.mod_lt _ hpos
       simp [hq,hlt]
      have hg:=Grow.alloc w (.cells vs e)
      have h9:=h.grow hg
      have hl:=ZdI (k:=k) (g:=g) hg s.H
      refine ⟨_,_,g,.inl (by simp only [execOp,hop,eX,eY,Sem.run_bind];rw [hrun];rfl),?_⟩
      rw [hd]
      refine h9.put hn ?_ rfl
      rw [VR,PR]
      have hlen:((List.replicate m zero).length:Int)=c:=by rw [List.length_replicate,ec]
      refine ⟨_,c.toNat,by rw [← hcm];simp;rfl,by rw [hcm,List.length_replicate];exact Nat.le_refl _,fun e=>(by cases e),fun _=>⟨_,rfl,?_⟩⟩
      rw [ZeA]
      intro q r hq
      rw [List.getElem?_replicate] at hq
      split at hq
      ·rename_i hlt
       cases hq
       refine ⟨rfl,?_⟩
       rw [Zgu]
       intro j x hj
       have hjl:=(List.getElem?_eq_some_iff.1 hj).1
       have hfit:q * zero.length+j<c.toNat * i.size:=by
        have:(q+1) * zero.length≤c.toNat * zero.length:=Nat.mul_le_mul_right _ (by omega)
        rw [Nat.add_mul] at this
        rw [hisz];omega
       have hmod:(q * zero.length+j) % zero.length=j:=by
        rw [Nat.mul_comm,Nat.mul_add_mod,Nat.mod_eq_of_lt hjl]
       rw [Zd0] at hzl
       have hju:j<z.cells.size:=by omega
       have u2:=hzl.2 j (.p x) z.cells[j] (by simp [hj]) (by simp [hju])
       rw [VR] at u2
       have hcell:(w.alloc (.cells vs e)).cell? ⟨w.heap.size,q * zero.length+j,none⟩=some z.cells[j]:=by
        unfold World.cell?
        rw [heap_alloc_new]
        have:=hvget _ hfit
        rw [hmod] at this
        simpa [hju] using this
       refine ⟨z.cells[j],?_,?_,PR.mono hl.stay x _ u2⟩
       ·rw [ZdY,ZeM,Nat.zero_add];exact hcell
       ·rw [ZdY,ZeM,Nat.zero_add]
        refine ⟨.inr (.inl h.keep.size),fun t e' => ?_,fun id e' => ?_⟩
        ·exact Nat.lt_irrefl _ (β_lt h e')
        ·exact absurd (ρ_lt h e') (Nat.lt_irrefl _)
      ·cases hq
     ·cases hz
    ·cases hx
   ·cases hty
  ·cases hty
 ·cases hc
end
end Go.Eng

