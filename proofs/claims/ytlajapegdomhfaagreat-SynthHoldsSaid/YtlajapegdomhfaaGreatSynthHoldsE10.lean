/-Part of the proof. -/
import Derived.Test.YtlajapegdomhfaaGreatSynthHoldsE1
import Derived.Deep.AppendSrc
import Derived.IntWalk
import Derived.RangeFuncRecord
import Derived.OrdersIn
set_option linter.all false
namespace Go.Eng
open Go
def Zul (P:Program)(t:TypeId)(sz len:Nat)(parts:List (Nat×Operand)):Bool:=
 (match P.underlying t with
  |some (.slice e)=>Zdh P e sz&&(match P.info? e with
   |some i=>(match i.zero with
    |some z=>decide (z.cells.size=sz)
    |none=>false)
   |none=>false)
  |_=>false)&&decide (parts.map (·.1)=List.range len)&&decide (len*sz<=16777216)
def chkS (P:Program)(n:Nat)(o:Oper):Ins->Bool
 |.mkSl d x y zero bytes=>decide (o.dst=some d)&&decide (d<n)&&(match o.op with
  |.makeSlice t X Y=>(match P.underlying t with
   |some (.slice e)=>Zj2 P e (zero.map .p)&&Zdh P e zero.length&&(match P.info? e with
    |some i=>decide (i.bytes=bytes)
    |none=>false)
   |_=>false)&&ZeK X x&&ZeK Y y
  |_=>false)
 |.app d x y sz bytes=>decide (o.dst=some d)&&decide (d<n)&&(match o.op with
  |.call {callee:=.builtin .append,args:=args,argTypes:=ts}=>(match ts.toList with
   |[t,t']=>(match P.underlying t with
    |some (.slice e)=>Zdh P e sz&&(match P.info? e with
     |some i=>decide (i.bytes=bytes)&&(match i.zero with
      |some z=>decide (z.cells.size=sz)
      |none=>false)
     |none=>false)
    |_=>false)&&(match P.underlying t' with
     |some (.slice _)=>true
     |_=>false)
   |_=>false)&&Za7 args.toList [x,y]
  |_=>false)
 |.litSl d sz xs=>decide (o.dst=some d)&&decide (d<n)&&(match o.op with
  |.buildSlice t len parts=>Zul P t sz len parts.toList&&Za7 (parts.toList.map (·.2)) xs
  |_=>false)
 |.litP d sz xs=>decide (o.dst=some d)&&decide (d<n)&&(match o.op with
  |.buildSlice t len parts=>Zul P t sz len parts.toList&&Za7 (parts.toList.map (·.2)) xs
  |_=>false)
 |_=>false
section
variable {P:Program} {k:K0} {n:Nat} {g:G} {s:St} {a:Act} {w:World}
def ZiM (c:Cx)(sz:Nat)(rows:List (List PC))(us:List Value):Prop:=
 us.length=rows.length*sz/\∀(i:Nat) r,rows[i]?=some r->r.length=sz/\∀(j:Nat) x,r[j]?=some x->∃u,us[i*sz+j]?=some u/\VR c (up x) u
theorem Zo6 {c:Cx}{sz:Nat}:∀(rows:List (List PC)) (Q:Nat->Value->Prop),(∀(i:Nat) r,rows[i]?=some r->r.length=sz/\∀(j:Nat) x,r[j]?=some x->∃u,Q (i*sz+j) u/\VR c (up x) u)→
  ∃us:List Value,ZiM c sz rows us/\∀(q:Nat) u,us[q]?=some u->Q q u
 |[],Q,_=>⟨[],⟨by simp,by simp⟩,by simp⟩
 |r::rows,Q,h=>by
  obtain⟨h0,h0'⟩:=h 0 r rfl;simp only[Nat.zero_mul,Z7]at h0';obtain⟨us0,a1,a2,a3⟩:=ZrH (R:=λx u=>VR c (up x) u) (Q:=Q) h0';obtain⟨us,⟨b1,b2⟩,b3⟩:=Zo6 rows (λq=>Q (sz+q)) (λi r hi=>by
   obtain⟨c1,c2⟩:=h (i+1) r (by simpa using hi);refine⟨c1,λj x hj=>?_⟩;obtain⟨u,hu1,hu2⟩:=c2 j x hj;refine⟨u,?_,hu2⟩
   rwa [show(i+1)*sz+j=sz+(i*sz+j)by rw[Z6];omega]at hu1)
  have hl0:us0.length=sz:=by omega
  refine⟨us0++us,⟨by simp[b1,hl0,Z6];omega,λi r' hi=>?_⟩,λq u hq=>?_⟩
  ·cases i with
   |zero=>
    simp at hi;subst hi;refine⟨h0,λj x hj=>?_⟩;have hjl:j<us0.length:=by rw[a1];exact(List.getElem?_eq_some_iff.1 hj).1
    refine⟨us0[j],?_,a3 j x _ hj (ZF hjl)⟩;rw[Nat.zero_mul,Z7,ZA hjl,ZF hjl]
   |succ i=>
    obtain⟨c1,c2⟩:=b2 i r' (by simpa using hi);refine⟨c1,λj x hj=>?_⟩;obtain⟨u,hu1,hu2⟩:=c2 j x hj;refine⟨u,?_,hu2⟩;rw[show(i+1)*sz+j=sz+(i*sz+j)by rw[Z6];omega,ZB (by omega),hl0,show sz+(i*sz+j)-sz=i*sz+j by omega];exact hu1
  by_cases hlt:q<us0.length
  ·rw[ZA hlt]at hq;exact a2 q u hq
  rw[ZB (by omega),hl0]at hq;have:=b3 _ u hq
  rwa [show sz+(q-sz)=q by omega]at this
theorem ZrZ {ok:Addr->Prop}{x:PC}{u:Value}(h:PR ok w x u):u.oneCell'=true:=by
 cases x with
 |int k n=>rw[PR]at h;subst h;rfl
 |bool b=>rw[PR]at h;subst h;rfl
 |sl sz full rows=>rw[PR]at h;obtain⟨A,cap,e,_⟩:=h;subst e;rfl
 |ow sz id ver len=>rw[PR]at h;obtain⟨A,cap,e⟩:=h;subst e;rfl
theorem ZiM.one {c:Cx}{sz:Nat}{rows:List (List PC)}{us:List Value}(h:ZiM c sz rows us):∀u∈us,u.oneCell'=true:=by
 intro u hu;obtain⟨q,hq,rfl⟩:=List.getElem_of_mem hu;have hsz:0<sz:=by
  rcases Nat.eq_zero_or_pos sz with e|e
  ·subst e;have:=h.1;omega
  exact e
 have hi:q/sz<rows.length:=by
  rw[h.1]at hq;exact Nat.div_lt_of_lt_mul (by rw[Nat.mul_comm];exact hq)
 obtain⟨c1,c2⟩:=h.2 (q/sz) rows[q/sz] (ZF hi);have hj:q%sz<rows[q/sz].length:=by rw[c1];exact Nat.mod_lt _ hsz
 obtain⟨u,hu1,hu2⟩:=c2 (q%sz) _ (ZF hj);have:q/sz*sz+q%sz=q:=by rw[Nat.mul_comm];exact Nat.div_add_mod q sz
 rw[this,ZF hq]at hu1;cases hu1;exact ZrZ (Zst hu2)
theorem ZiM.mono {c c':Cx}(hs:Zbl c c'){sz:Nat}{rows:List (List PC)}{us:List Value}(h:ZiM c sz rows us):ZiM c' sz rows us:=
 ⟨h.1,λi r hi=>⟨(h.2 i r hi).1,λj x hj=>let ⟨u,h1,h2⟩:=(h.2 i r hi).2 j x hj;⟨u,h1,VR.later hs _ u (ZgP x) h2⟩⟩⟩
theorem ZiM.append {c:Cx}{sz:Nat}{r1 r2:List (List PC)}{u1 u2:List Value}(h1:ZiM c sz r1 u1)(h2:ZiM c sz r2 u2):ZiM c sz (r1++r2) (u1++u2):=by
 refine⟨by simp[h1.1,h2.1,Z6],λi r hi=>?_⟩;by_cases hlt:i<r1.length
 ·rw[ZA hlt]at hi;obtain⟨c1,c2⟩:=h1.2 i r hi;refine⟨c1,λj x hj=>?_⟩;obtain⟨u,hu1,hu2⟩:=c2 j x hj;exact⟨u,by rw[ZA (List.getElem?_eq_some_iff.1 hu1).1];exact hu1,hu2⟩
 rw[ZB (by omega)]at hi;obtain⟨c1,c2⟩:=h2.2 _ r hi;refine⟨c1,λj x hj=>?_⟩;obtain⟨u,hu1,hu2⟩:=c2 j x hj;refine⟨u,?_,hu2⟩;have hle:r1.length*sz<=i*sz:=Nat.mul_le_mul_right _ (by omega);rw[ZB (by rw[h1.1];omega),h1.1]
 rwa [show i*sz+j-r1.length*sz=(i-r1.length)*sz+j by rw[Nat.sub_mul];omega]
theorem Zuy {c:Cx}{b sz:Nat}{rows:List (List PC)}{us:List Value}{vs:Array Value}(hb:c.blk b vs)(h:ZiM c sz rows us)(hp:∀(q:Nat) u,us[q]?=some u->vs[q]?=some u):ArrR c b sz rows:=by
 refine⟨vs,hb,?_,λi r hi=>⟨(h.2 i r hi).1,λj x hj=>let ⟨u,h1,h2⟩:=(h.2 i r hi).2 j x hj;⟨u,hp _ u h1,h2⟩⟩⟩;rcases Nat.eq_zero_or_pos (rows.length*sz)with e|e
 ·omega
 have hlt:rows.length*sz-1<us.length:=by rw[h.1];omega
 have:=hp _ _ (ZF hlt);have:=(Array.getElem?_eq_some_iff.1 this).1;omega
theorem Zkd (h:Rel k n g s a w){sz:Nat}{x:AV}{rows:List (List PC)}{v:Value}(hr:Zgw s.H sz x=some rows)(hok:Zna x=true)(hv:VR (cx k g s.H w) x v):
  ∃A cap us,v=.slice A rows.length cap/\ZiM (cx k g s.H w) sz rows us/\(rows≠[]->∃ad,A=some ad/\∀(j:Nat) u,us[j]?=some u->w.cell? (ad.add j)=some u):=by
 unfold Zgw at hr;split at hr
 ·rename_i sz' full rows';split at hr
  ·rename_i hsz;subst hsz;simp only[Zab]at hr;subst hr;rw[VR,PR]at hv;obtain⟨A,cap,rfl,_,_,hA⟩:=hv;by_cases hne:rows'=[]
   ·subst hne;exact⟨A,cap,[],rfl,⟨by simp,by simp⟩,λh=>absurd rfl h⟩
   obtain⟨ad,rfl,hrows⟩:=hA hne;rw[Zgf]at hrows;obtain⟨us,h1,h2⟩:=Zo6 (c:=cx k g s.H w) (sz:=sz') rows' (λq u=>w.cell? (ad.add q)=some u) (λi r hi=>by
    obtain⟨c1,c2⟩:=hrows i r hi;rw[ZjJ]at c2;refine⟨c1,λj x hj=>?_⟩;obtain⟨u,hu1,_,hu2⟩:=c2 j x hj;rw[Zfp]at hu1;exact⟨u,hu1,Zss (Zr1 (ZxX hok hi) hj) hu2⟩)
   exact⟨_,cap,us,rfl,h1,λ_=>⟨ad,rfl,h2⟩⟩
  cases hr
 ·rename_i sz0 id ver off len;split at hr
  ·rename_i sz' ver' frz rows' hH;split at hr
   ·rename_i hcond;obtain⟨rfl,rfl,rfl⟩:=hcond;rw[VR]at hv;obtain⟨ver0,frz0,rows0,b,cap,hH0,_,rfl,hcap,hcur⟩:=hv;have e0:s.H[id]?=some (HO.arr sz' ver0 frz0 rows0):=hH0;rw[hH]at e0;simp only[Zab,HO.arr.injEq]at e0;obtain⟨vs,hρ,_,_,_⟩:=hcur e0.2.1;obtain⟨b',hρ',vs',hblk,hsz,hrow⟩:=h.heap id _ hH;have:b'=b:=by
     have:g.ρ[id]?=some b:=hρ;rw[hρ']at this;cases this;rfl
    subst this;obtain⟨hle,rfl⟩:=ZiT hr;obtain⟨us,h1,h2⟩:=Zo6 (c:=cx k g s.H w) (sz:=sz') ((rows'.drop off).take len) (λq u=>vs'[off*sz'+q]?=some u) (λi r hi=>by
     rw[ZL]at hi;split at hi
     ·rw[ZE]at hi;obtain⟨c1,c2⟩:=hrow _ r hi;refine⟨c1,λj x hj=>?_⟩;obtain⟨u,hu1,hu2⟩:=c2 j x hj;refine⟨u,?_,hu2⟩
      rwa [Z6,Nat.add_assoc]at hu1
     cases hi)
    refine⟨some ⟨b',off*sz',none⟩,cap,us,?_,h1,λ_=>⟨⟨b',off*sz',none⟩,rfl,λj u hj=>?_⟩⟩
    ·congr 1
     simp;omega
    have hcb:w.cell? ⟨b',off*sz'+j,none⟩=_:=ZmQ hblk (off*sz'+j);rw[Zgz,hcb];exact h2 j u hj
   cases hr
  cases hr
 cases hr
theorem ZAa {A:Option Addr}{cap sz:Nat}{rows:List (List PC)}{us:List Value}{c:Cx}{t e:TypeId}(ht:P.underlying t=some (.slice e))(h:ZiM c sz rows us)
  (hA:rows≠[]->∃ad,A=some ad/\∀(j:Nat) u,us[j]?=some u->w.cell? (ad.add j)=some u):Src P sz t (.slice A rows.length cap) rows.length us w:=by
 by_cases hne:rows=[]
 ·subst hne;have:us=[]:=List.eq_nil_of_length_eq_zero (by simpa using h.1);subst this;cases A with
  |none=>exact Src.ofNil w ht cap
  |some ad=>exact Src.ofSlice w ht ad 0 cap [] (by simp) (by simp) (by simp)
 obtain⟨ad,rfl,hc⟩:=hA hne;exact Src.ofSlice w ht ad rows.length cap us h.1 hc h.one
theorem ZmL {A:Option Addr}{cap sz:Nat}{rows:List (List PC)}{us:List Value}{c:Cx}(h:ZiM c sz rows us)
  (hA:rows≠[]->∃ad,A=some ad/\∀(j:Nat) u,us[j]?=some u->w.cell? (ad.add j)=some u):(Builtin.firstCells sz rows.length (.slice A rows.length cap)).run P w.drew=.ok us.toArray w.drew:=by
 by_cases hne:rows=[]
 ·subst hne;have:us=[]:=List.eq_nil_of_length_eq_zero (by simpa using h.1);subst this;cases A with
  |none=>simp[Builtin.firstCells]
  |some ad=>exact run_firstCells_some w.drew sz 0 ad 0 cap [] (by simp) (by simp)
 obtain⟨ad,rfl,hc⟩:=hA hne;exact run_firstCells_some w.drew sz rows.length ad rows.length cap us h.1 (by simpa using hc)
theorem getElem?_append_prefix {us:List Value}{rest:Array Value}(q:Nat)(u:Value)(h:us[q]?=some u):(us.toArray++rest)[q]?=some u:=by
 have hlt:=(List.getElem?_eq_some_iff.1 h).1;rw[Array.getElem?_append_left (by simpa using hlt)];simpa using h
theorem ZzZ (h:Rel k n g s a w){t t' ty e e':TypeId}{i:TypeInfo}{z:Value}{bytes:Nat}(ht:P.underlying t=some (.slice e))(ht':P.underlying t'=some (.slice e'))(hi:P.info? e=some i)(hz:i.zero=some z)(hty:z.cells.size=i.size)(hby:i.bytes=bytes)
  {id ver':Nat} {frz:Bool} {rows new:List (List PC)} {vX vY:Value} {usY:List Value} (hH:s.H[id]?=some (.arr i.size ver' frz rows)) (hvX:VR (cx k g s.H w) (.osl i.size id ver' 0 rows.length) vX) (hRY:ZiM (cx k g s.H w) i.size new usY) (hsrc:Src P i.size t' vY new.length usY w)
  (hb1:(rows.length+new.length)*bytes<=140737488355328) (hb2:rows.length+new.length<=140737488355328):
  ∃v' w' g',(Builtin.append_ #[t,t'] ty #[vX,vY]).run P w=.ok v' w'/\Rel k n g' ⟨s.fr,s.bx,s.H.set id (.arr i.size (ver'+1) frz (rows++new))⟩ a w'∧
   VR (cx k g' (s.H.set id (.arr i.size (ver'+1) frz (rows++new))) w') (.osl i.size id (ver'+1) 0 (rows.length+new.length)) v':=by
 have hvX':=hvX;rw[VR]at hvX';obtain⟨ver0,frz0,rows0,b,cap,hH0,_,eX,hcap,hcur⟩:=hvX';have e0:s.H[id]?=some (HO.arr i.size ver0 frz0 rows0):=hH0;rw[hH]at e0;simp only[Zab,HO.arr.injEq]at e0;obtain⟨vs0,hρ,_,hblk0,hsize⟩:=hcur e0.2.1;have hρ':g.ρ[id]?=some b:=hρ;have hrX:Zgw s.H i.size (.osl i.size id ver' 0 rows.length)=some rows:=by simp[Zgw,hH,sub]
 obtain⟨AX,capX,usX,eX',hRX,hAX⟩:=Zkd h hrX rfl hvX;rw[eX]at eX';simp only[Value.slice.injEq]at eX';obtain⟨rfl,_,rfl⟩:=eX';simp only[Nat.zero_mul,Z7]at eX hsize hAX;by_cases hroom:rows.length+new.length<=cap
 ·
  have hblk1:=hblk0;obtain⟨et,hblk'⟩:=hblk1;have hul:usY.length=new.length*i.size:=hRY.1;have hfit:rows.length*i.size+usY.length<=vs0.size:=by
   have:(rows.length+new.length)*i.size<=cap*i.size:=Nat.mul_le_mul_right _ hroom;rw[Z6]at this;omega
  have hst:=run_storeCells_at P b (rows.length*i.size) et usY 0 vs0 w hblk' (by omega) hRY.one;simp only[Nat.add_zero]at hst;have hrun:(Builtin.append_ #[t,t'] ty #[vX,vY]).run P w=.ok (.slice (some ⟨b,0,none⟩) (rows.length+new.length) cap) (w.setRow b (vs0.toList.take (rows.length*i.size)++usY++vs0.toList.drop (rows.length*i.size+usY.length)).toArray):=by
   rw[eX];simp[Builtin.append_,run_underlying ht,run_underlying ht',sizeOf,typeInfo,hi,hsrc.len,hroom,hsrc.cells,Zgz,hst]
  have hnew:∀(j:Nat),(vs0.toList.take (rows.length*i.size)++usY++vs0.toList.drop (rows.length*i.size+usY.length)).toArray[j]?=if j<rows.length*i.size then vs0[j]? else if j<rows.length*i.size+usY.length then usY[j-rows.length*i.size]? else vs0[j]?:=by
   intro j;have hs2:ZbU (rows.length*i.size) usY vs0.toList=some (vs0.toList.take (rows.length*i.size)++usY++vs0.toList.drop (rows.length*i.size+usY.length)):=by
    unfold ZbU;rw[Zaj (by simpa using hfit)]
   have:=ZfM hs2 j;simpa using this
  have hup:=Upd.setRow (c:=cx k g s.H w) hblk0 (vs0.toList.take (rows.length*i.size)++usY++vs0.toList.drop (rows.length*i.size+usY.length)).toArray;have hvsz:(vs0.toList.take (rows.length*i.size)++usY++vs0.toList.drop (rows.length*i.size+usY.length)).toArray.size=vs0.size:=by simp;omega
  generalize hvs':(vs0.toList.take (rows.length*i.size)++usY++vs0.toList.drop (rows.length*i.size+usY.length)).toArray=vs' at*;have h2:=h.appendIn (new:=new) hρ' hH hblk0 hvsz hup (λj hj=>by rw[hnew,Zaj hj]) (λhl=>by
   have hRall:=(ZiM.append hRX hRY).mono hl;refine Zuy hup.here hRall (λq u hq=>?_);rw[hnew];by_cases hlt:q<usX.length
   ·rw[ZA hlt]at hq;rw[Zaj (by rw[←hRX.1];exact hlt)];obtain⟨ad,ead,hcell⟩:=hAX (by intro e;have:=hRX.1;rw[e]at this;simp only[ZP,Nat.zero_mul]at this;omega);cases ead;have:=hcell q u hq;rw[Zgz,Z7]at this;have hcb:w.cell? ⟨b,q,none⟩=_:=ZmQ hblk0 q
    rwa [hcb]at this
   have hlt2:=(List.getElem?_eq_some_iff.1 hq).1;simp only[ZM]at hlt2;rw[ZB (by omega)]at hq;have:=hRX.1;rw[Zai (by omega),Zaj (by omega),←this];exact hq)
  refine⟨_,_,g,hrun,h2,?_⟩;rw[VR];refine⟨ver'+1,frz,rows++new,b,cap,?_,Nat.le_refl _,by simp,hroom,λ_=>⟨vs',hρ',by simp,hup.here,by simp only[Z7];omega⟩⟩;show(s.H.set id _)[id]?=_;rw[Zgb _ hH,Zaj rfl]
 ·
  have hrun:=run_append_grow_src (P:=P) w t t' ty e i z ht hi hz (some ⟨b,0,none⟩) rows.length cap usX (ZmL hRX hAX) vY new.length usY hsrc (by omega) (by omega) (growslice_fits (by omega) (by rw[hby];exact hb1));have hge:=grownCap_ge w (rows.length+new.length) cap e;generalize grownCap w (rows.length+new.length) cap e=cap' at*;have h1:=h.grow (Grow.drew w);generalize hvs:(usX++usY).toArray++Builtin.zeroCells z.cells (cap'-(rows.length+new.length))=vs at*;have hblk:(cx k ⟨g.ρ.set id w.drew.heap.size,g.β⟩ (s.H.set id (.arr i.size (ver'+1) frz (rows++new))) (w.drew.alloc (.cells vs e))).blk w.drew.heap.size vs:=⟨e,heap_alloc_new w.drew _⟩;have h2:=h1.appendNew (new:=new) (vs:=vs) hρ' hH e (λhl=>by
   have hR1:ZiM (cx k g s.H w.drew) i.size (rows++new) (usX++usY):=(ZiM.append hRX hRY).mono (Ze3 (k:=k) (g:=g) (Grow.drew w) s.H);exact Zuy hblk (hR1.mono hl) (λq u hq=>by rw[←hvs];exact getElem?_append_prefix q u hq))
  rw[←eX]at hrun;refine⟨_,_,⟨g.ρ.set id w.drew.heap.size,g.β⟩,hrun,h2,?_⟩;rw[VR];refine⟨ver'+1,frz,rows++new,w.heap.size,cap',?_,Nat.le_refl _,by simp,hge,λ_=>⟨vs,?_,by simp,hblk,?_⟩⟩
  ·show(s.H.set id _)[id]?=_;rw[Zgb _ hH,Zaj rfl]
  ·show(g.ρ.set id w.drew.heap.size)[id]?=_;rw[List.getElem?_set_self (List.getElem?_eq_some_iff.1 hρ').1];rfl
  rw[←hvs];simp only[Array.size_append,List.size_toArray,ZM,hRX.1,hRY.1,size_zeroCells,hty,←Z6,Z7];apply Nat.mul_le_mul_right;omega
theorem ZtJ (h:Rel k n g s a w){o:Oper}{d:Nat}{x y:IX}{sz bytes:Nat}(hc:chkS P n o (.app d x y sz bytes)=true){s':St}(hx:Za0 (.app d x y sz bytes) s=some s'):Did P k n s' a w o:=by
 simp only[chkS,Ze,Zag]at hc;obtain⟨⟨hd,hn⟩,hc⟩:=hc;split at hc
 ·rename_i args ts hop;simp only[Ze]at hc;obtain⟨hty,hm⟩:=hc;split at hty
  ·rename_i t t' hts;have hts':ts=#[t,t']:=Zg1 hts;subst hts';simp only[Ze]at hty;obtain⟨hty,hty'⟩:=hty;obtain⟨e',ht'⟩:∃e',P.underlying t'=some (.slice e'):=by
    split at hty'
    ·exact⟨_,by assumption⟩
    cases hty'
   split at hty
   ·rename_i e ht;simp only[Ze]at hty;obtain⟨hsz,hty⟩:=hty;split at hty
    ·rename_i i hi;simp only[Ze,Zag]at hty;obtain⟨hby,hty⟩:=hty;split at hty
     ·rename_i z hz;simp only[Zag]at hty;have hisz:i.size=sz:=by
       have hsz':=hsz;unfold Zdh at hsz';simpa[hi]using hsz'
      subst hisz;obtain⟨X,Y,hargs,hmX,hmY⟩:∃X Y,args=#[X,Y]/\ZeK X x=true/\ZeK Y y=true:=by
       cases hl:args.toList with
       |nil=>rw[hl]at hm;simp[Za7]at hm
       |cons X l=>
        cases l with
        |nil=>rw[hl]at hm;simp[Za7]at hm
        |cons Y l=>
         cases l with
         |cons=>rw[hl]at hm;simp[Za7]at hm
         |nil=>
          rw[hl]at hm;simp only[Za7,Bool.and_true,Ze]at hm;exact⟨X,Y,Zg1 hl,hm.1,hm.2⟩
      subst hargs;have hvX:=Zca h hmX;have hvY:=Zca h hmY;simp only[Za0]at hx;by_cases hsrcY:Zna (ev s.fr y)=true
      case neg=>rw[Zai hsrcY]at hx;cases hx
      rw[Zaj hsrcY]at hx;cases hr:Zgw s.H i.size (ev s.fr y)with
      |none=>simp[hr]at hx
      |some new=>
       simp only[hr,Z8]at hx;obtain⟨AY,capY,usY,eY,hRY,hAY⟩:=Zkd h hr hsrcY hvY;have hsrc:Src P i.size t' (a.eval Y) new.length usY w:=by rw[eY];exact ZAa ht' hRY hAY
       have hexec:∀v' w',(Builtin.append_ #[t,t'] o.type #[a.eval X,a.eval Y]).run P w=.ok v' w'->(execOp a.eval o).run P w=.ok (.value v') w':=by
        intro v' w' hrun;simp[execOp,hop,resolve,invoke,builtin,hrun]
       unfold appV at hx;split at hx
       ·rename_i szq full rows hev;split at hx
        ·rename_i hcond;obtain⟨hnow,rfl,rfl,hb1,hb2⟩:=hcond;have hsrcX:Zna (ev s.fr x)=true:=by rw[hev];exact hnow
         have hvX':=hvX;rw[hev,VR,PR]at hvX';obtain⟨A,cap,eX,hcap,hfull,hA⟩:=hvX';have hfull:=hfull rfl;subst hfull;have hrX:Zgw s.H i.size (ev s.fr x)=some rows:=by rw[hev];simp[Zgw]
         obtain⟨AX,capX,usX,eX',hRX,hAX⟩:=Zkd h hrX hsrcX hvX;rw[eX]at eX';cases eX';split at hx
         ·rename_i hnil;subst hnil;simp only[Zaa,Zab]at hx;subst hx;have hus:usY=[]:=List.eq_nil_of_length_eq_zero (by simpa using hRY.1);subst hus;refine⟨a.eval X,w,g,.inl (hexec _ _ ?_),?_⟩
          ·rw[eX];have hcs0:=hsrc.cells;have hln0:=hsrc.len;simp only[ZP]at hcs0 hln0;cases A<;>simp[Builtin.append_,run_underlying ht,run_underlying ht',sizeOf,typeInfo,hi,hln0,hcs0,storeCells]
          rw[hd];exact h.put hn hvX (by rw[hev];rfl)
         rename_i hnil;simp only[Zaa,Zab]at hx;subst hx;have hnew:0<new.length:=List.length_pos_iff.2 hnil;have hrun:=run_append_grow_src (P:=P) w t t' o.type e i z ht hi hz A rows.length rows.length usX (ZmL hRX hAX) (a.eval Y) new.length usY hsrc (by omega) (by omega) (growslice_fits (by omega) (by rw[hby];exact hb1));rw[eX]at hexec;have hge:=grownCap_ge w (rows.length+new.length) rows.length e;generalize grownCap w (rows.length+new.length) rows.length e=cap' at*;have h1:=h.grow (Grow.drew w);have hRall:ZiM (cx k g s.H w.drew) i.size (rows++new) (usX++usY):=(ZiM.append hRX hRY).mono (Ze3 (k:=k) (g:=g) (Grow.drew w) s.H);generalize hvs:(usX++usY).toArray++Builtin.zeroCells z.cells (cap'-(rows.length+new.length))=vs at*;have hl:=h1.laterNew (o:=.arr i.size 0 false (rows++new)) (vs:=vs) e;have hblk:(cx k ⟨g.ρ++[w.drew.heap.size],g.β⟩ (s.H++[.arr i.size 0 false (rows++new)]) (w.drew.alloc (.cells vs e))).blk w.drew.heap.size vs:=⟨e,heap_alloc_new w.drew _⟩;obtain⟨h2,_⟩:=h1.newObj (o:=.arr i.size 0 false (rows++new)) (vs:=vs) e (Zuy hblk (hRall.mono hl) (λq u hq=>by rw[←hvs];exact getElem?_append_prefix q u hq));refine⟨_,_,⟨g.ρ++[w.drew.heap.size],g.β⟩,.inl (hexec _ _ hrun),?_⟩;rw[hd];refine h2.put hn ?_ rfl;rw[VR];refine⟨0,false,rows++new,w.heap.size,cap',?_,Nat.le_refl _,by simp,hge,λ_=>⟨vs,?_,by simp,hblk,?_⟩⟩
         ·show(s.H++[HO.arr i.size 0 false (rows++new)])[s.H.length]?=_;simp
         ·show(g.ρ++[w.drew.heap.size])[s.H.length]?=_;rw[←h.len];simp
         rw[←hvs];simp only[Array.size_append,List.size_toArray,ZM,hRX.1,hRY.1,size_zeroCells,hty,←Z6,Z7];apply Nat.mul_le_mul_right;omega
        cases hx
       ·rename_i sz0 id ver off len hev;split at hx
        ·rename_i szq ver' frz rows hH;split at hx
         ·rename_i hcond;obtain⟨rfl,rfl,rfl,rfl,hb1,hb2,rfl⟩:=hcond;simp only[Zaa,Zab]at hx;subst hx;have hvX':=hvX;rw[hev]at hvX';obtain⟨v',w',g',hrun,h2,hv2⟩:=ZzZ (ty:=o.type) h ht ht' hi hz hty hby hH hvX' hRY hsrc hb1 hb2;refine⟨v',w',g',.inl (hexec _ _ hrun),?_⟩;rw[hd];exact h2.put hn hv2 rfl
         cases hx
        cases hx
       cases hx
     cases hty
    cases hty
   cases hty
  cases hty
 cases hc
theorem ZuB {x:Int}(h0:0<=x)(h1:x<=140737488355328):IntKind.i64.wrap x=x:=IntWalk.i64_in x (by omega)
theorem Zi1 {t e:TypeId}{i:TypeInfo}{z:Value}{m c:Int}(ht:P.underlying t=some (.slice e))(hi:P.info? e=some i)(hz:i.zero=some z)(h0:0<=m)(h1:m<=c)(h2:c*i.bytes<=140737488355328)(h3:c<=140737488355328):
  (Instr.makeSlice t (.int .i64 m) (.int .i64 c)).run P w=.ok (.slice (some ⟨w.heap.size,0,none⟩) m.toNat c.toNat)
   (w.alloc (.cells ((Array.range (c.toNat*i.size)).map ((if c.toNat*i.size=0 then #[]else z.cells)[· %(if c.toNat*i.size=0 then #[]else z.cells).size]!)) e)):=by
 have e1:IntKind.i64.wrap m=m:=ZuB h0 (by omega);have e2:IntKind.i64.wrap c=c:=ZuB (by omega) h3;have h4:¬(281474976710656<(i.bytes:Int)*c):=by rw[Zm];omega
 have h5:¬c<0:=by omega
 have h6:¬m<0:=by omega
 have h7:¬c<m:=by omega
 unfold Instr.makeSlice;by_cases hn:c.toNat*i.size=0
 ·simp[run_underlying ht,asInt,asIntOf,typeInfo,hi,e1,e2,h4,h5,h6,h7,sizeOf,hn,newRow]
 simp only[hn,Zah];simp[run_underlying ht,asInt,asIntOf,typeInfo,hi,e1,e2,h4,h5,h6,h7,sizeOf,hn,newRow,zeroValue,hz]
theorem ZvJ (h:Rel k n g s a w){o:Oper}{d:Nat}{x y:IX}{zero:List PC}{bytes:Nat}(hc:chkS P n o (.mkSl d x y zero bytes)=true){s':St}(hx:Za0 (.mkSl d x y zero bytes) s=some s'):Did P k n s' a w o:=by
 simp only[chkS,Ze,Zag]at hc;obtain⟨⟨hd,hn⟩,hc⟩:=hc;split at hc
 ·rename_i t X Y hop;simp only[Ze]at hc;obtain⟨⟨hty,hmX⟩,hmY⟩:=hc;split at hty
  ·rename_i e ht;simp only[Ze]at hty;obtain⟨⟨hz,hsz⟩,hty⟩:=hty;split at hty
   ·rename_i i hi;simp only[Zag]at hty;subst hty;have hisz:i.size=zero.length:=by
     unfold Zdh at hsz;simpa[hi]using hsz
    simp only[Za0]at hx;split at hx
    ·rename_i m c hevx hevy;split at hx
     ·rename_i hcond;obtain⟨h0,h1,h2,h3⟩:=hcond;simp only[Zab]at hx;subst hx;have eX:a.eval X=.int .i64 m:=ZcM (c:=cx k g s.H w) (by rw[←hevx];exact Zca h hmX);have eY:a.eval Y=.int .i64 c:=ZcM (c:=cx k g s.H w) (by rw[←hevy];exact Zca h hmY);unfold Zj2 at hz;rw[hi]at hz;simp only at hz;split at hz
      ·rename_i z hiz;have hrun:=Zi1 (P:=P) (w:=w) ht hi hiz h0 h1 h2 h3;obtain⟨hzl,_⟩:=Zgc (c:=cx k g s.H w) hz;have hzno:=ZmM hz;have hzlen:=hzl.length;simp only[Zd,ZO]at hzlen;generalize hvs:(Array.range (c.toNat*i.size)).map ((if c.toNat*i.size=0 then #[]else z.cells)[· %(if c.toNat*i.size=0 then #[]else z.cells).size]!)=vs at hrun;have hvget:∀q,q<c.toNat*i.size->vs[q]?=z.cells[q%zero.length]?:=by
        intro q hq;have hne:¬c.toNat*i.size=0:=by omega
        have hpos:0<zero.length:=by
         rcases Nat.eq_zero_or_pos zero.length with e|e
         ·rw[hisz,e]at hq;simp at hq
         exact e
        rw[←hvs];simp only[hne,Zah,hzlen];have hlt:q%zero.length<z.cells.size:=by rw[hzlen];exact Nat.mod_lt _ hpos
        simp[hq,hlt]
       have hl:=h.laterNew (o:=.arr zero.length 0 false (List.replicate m.toNat zero)) (vs:=vs) e;have hblk:(cx k ⟨g.ρ++[w.heap.size],g.β⟩ (s.H++[.arr zero.length 0 false (List.replicate m.toNat zero)]) (w.alloc (.cells vs e))).blk w.heap.size vs:=⟨e,heap_alloc_new w _⟩;have hvsz:vs.size=c.toNat*i.size:=by rw[←hvs];simp
       have hmc:m.toNat<=c.toNat:=by omega
       obtain⟨h5,_⟩:=h.newObj (o:=.arr zero.length 0 false (List.replicate m.toNat zero)) (vs:=vs) e (by
        refine⟨vs,hblk,?_,λq r hq=>?_⟩
        ·rw[hvsz,hisz,List.length_replicate];exact Nat.mul_le_mul_right _ hmc
        rw[ZI]at hq;split at hq
        ·rename_i hlt;cases hq;refine⟨rfl,λj x hj=>?_⟩;have hjl:=(List.getElem?_eq_some_iff.1 hj).1;have hfit:q*zero.length+j<c.toNat*i.size:=by
          have:(q+1)*zero.length<=c.toNat*zero.length:=Nat.mul_le_mul_right _ (by omega);rw[Z6]at this;rw[hisz];omega
         have hmod:(q*zero.length+j)%zero.length=j:=by
          rw[Nat.mul_comm,Nat.mul_add_mod,Nat.mod_eq_of_lt hjl]
         rw[Zed]at hzl;have hju:j<z.cells.size:=by omega
         refine⟨z.cells[j],?_,?_⟩
         ·rw[hvget _ hfit,hmod];simp[hju]
         have:=hzl.2 j (.p x) z.cells[j] (by simp[hj]) (by simp[hju]);rw[VR]at this;exact VR.later hl _ _ (ZgP x) (Zss (Zr1 hzno hj) this)
        cases hq)
       refine⟨_,_,⟨g.ρ++[w.heap.size],g.β⟩,.inl (by simp only[execOp,hop,eX,eY,Sem.run_bind];rw[hrun];rfl),?_⟩;rw[hd];refine h5.put hn ?_ rfl;rw[VR];refine⟨0,false,List.replicate m.toNat zero,w.heap.size,c.toNat,?_,Nat.le_refl _,by simp,hmc,λ_=>⟨vs,?_,by simp,hblk,?_⟩⟩
       ·show(s.H++[HO.arr _ _ _ _])[s.H.length]?=_;simp
       ·show(g.ρ++[w.heap.size])[s.H.length]?=_;rw[←h.len];simp
       rw[hvsz,hisz,Z7];exact Nat.le_refl _
      cases hz
     cases hx
    cases hx
   cases hty
  cases hty
 cases hc
theorem ZqW {c:Cx}{sz:Nat}{un:List AV->Option (List PC)}(hun:∀cs ps,un cs=some ps->cs.length=ps.length/\ZaL cs=true/\∀(c:Cx) (us:List Value),VRL c cs us->VRL c (ps.map up) us):∀(ps:List (Nat×Operand)) (xs:List AV) (us:List Value) (rows:List (List PC)) (st:Nat) (cells:Array Value),
  VRL c xs us->Zj8 un sz xs=some rows->ps.map (·.1)=List.range' st ps.length->ps.length=us.length->cells.size=(st+ps.length)*sz→
  ∃arr,Instr.fill (λi=>some (i*sz,sz)) cells ((ps.map (·.1)).zip us)=some arr/\arr.size=cells.size/\(∀q,q<st*sz->arr[q]?=cells[q]?)/\rows.length=ps.length∧
   ∀(i:Nat) r,rows[i]?=some r->r.length=sz/\∀(j:Nat) x,r[j]?=some x->∃u,arr[(st+i)*sz+j]?=some u/\VR c (up x) u
 |[],xs,us,rows,st,cells,hx,hr,hp,hl,hs=>by
  cases us with
  |cons=>simp at hl
  |nil=>
   have hx0:xs=[]:=by have:=hx.length;simp at this;exact List.eq_nil_of_length_eq_zero this.symm
   subst hx0;simp only[Zj8,Zab]at hr;subst hr;exact⟨cells,rfl,rfl,λ_ _=>rfl,rfl,by simp⟩
 |p::ps,xs,us,rows,st,cells,hx,hr,hp,hl,hs=>by
  cases us with
  |nil=>simp at hl
  |cons u us=>
   cases xs with
   |nil=>have:=hx.length;simp at this
   |cons x xs=>
    rw[VRL]at hx;obtain⟨u',us',e,hx1,hx2⟩:=hx;cases e;simp only[Zj8]at hr;split at hr
    ·rename_i hcl;cases hu:un (cellsOf x)with
     |none=>simp[hu]at hr
     |some r0=>
      simp only[hu,Z8]at hr;cases hrs:Zj8 un sz xs with
      |none=>simp[hrs]at hr
      |some rows'=>
       simp only[hrs,Zaa,Zab]at hr;subst hr;obtain⟨ecl,eco,ecs⟩:=hun _ _ hu;have hcu:=Zhx eco hx1;have hlen:=hcu.length;simp only[Zd]at hlen;simp only[ZU,ZN,ZZ,Zt]at hp;obtain⟨hp0,hp1⟩:=hp;simp only[ZN]at hs;have hfit:st*sz+0+u.cells.toList.length<=cells.size:=by
        have e1:(st+(ps.length+1))*sz=st*sz+(ps.length+1)*sz:=by rw[Z6]
        have e2:(ps.length+1)*sz=ps.length*sz+sz:=by rw[Z6,Nat.one_mul]
        simp only[Zd];omega
       have hfold:=ZpW (st*sz) u.cells.toList 0 cells hfit;simp only[Nat.add_zero,Zd]at hfold;have hfold':(u.cells.zipIdx.foldl (λcs (p:Value×Nat)=>cs.setIfInBounds (st*sz+p.2) p.1) cells).toList=cells.toList.take (st*sz)++u.cells.toList++cells.toList.drop (st*sz+u.cells.size):=by
        rw[←Array.foldl_toList,Array.toList_zipIdx];simpa using hfold
       generalize hc2:u.cells.zipIdx.foldl (λcs (p:Value×Nat)=>cs.setIfInBounds (st*sz+p.2) p.1) cells=cells2 at hfold';have hget2:∀(j:Nat),cells2[j]?=if j<st*sz then cells[j]? else if j<st*sz+u.cells.size then u.cells[j-st*sz]? else cells[j]?:=by
        intro j;have hs2:ZbU (st*sz) u.cells.toList cells.toList=some cells2.toList:=by
         unfold ZbU;rw[Zaj (by simpa using hfit),hfold'];simp
        have:=ZfM hs2 j;simpa using this
       have hsz2:cells2.size=cells.size:=by
        have:=congrArg List.length hfold';simp only[Zd,ZM,ZS,List.length_drop]at this;simp only[Zd]at hfit;omega
       obtain⟨arr,a1,a2,a3,a4,a5⟩:=ZqW hun ps xs us rows' (st+1) cells2 hx2 hrs hp1 (by simpa using hl) (by rw[hsz2,hs];congr 1;omega);refine⟨arr,?_,by rw[a2,hsz2],λq hq=>?_,by simp[a4],λi r hi=>?_⟩
       ·simp only[ZU,List.zip_cons_cons,Instr.fill,hp0];rw[Zai (by simp only[Zd]at hfit;simp;omega),hc2];exact a1
       ·have e1:(st+1)*sz=st*sz+sz:=by rw[Z6,Nat.one_mul]
        rw[a3 q (by omega),hget2,Zaj hq]
       cases i with
       |zero=>
        simp at hi;subst hi;have hr0:r0.length=sz:=by rw[←hcl];exact ecl.symm
        refine⟨hr0,λj y hj=>?_⟩;have hjl:=(List.getElem?_eq_some_iff.1 hj).1;have e1:(st+1)*sz=st*sz+sz:=by rw[Z6,Nat.one_mul]
        have hju:j<u.cells.size:=by omega
        have hcu:=ecs _ _ hcu;rw[Zed]at hcu;refine⟨u.cells[j],?_,?_⟩
        ·rw[Nat.add_zero,a3 _ (by omega),hget2,Zai (by omega),Zaj (by omega),show st*sz+j-st*sz=j by omega];simp[hju]
        exact hcu.2 j (up y) u.cells[j] (by simp[hj]) (by simp[hju])
       |succ i=>
        obtain⟨b1,b2⟩:=a5 i r (by simpa using hi);refine⟨b1,λj y hj=>?_⟩;obtain⟨v,v1,v2⟩:=b2 j y hj;exact⟨v,by rw[show st+(i+1)=st+1+i by omega];exact v1,v2⟩
    cases hr
theorem ZuJ (h:Rel k n g s a w){un:List AV->Option (List PC)}(hun:∀cs ps,un cs=some ps->cs.length=ps.length/\ZaL cs=true/\∀(c:Cx) (us:List Value),VRL c cs us->VRL c (ps.map up) us){t:TypeId}{sz len:Nat}{parts:Array (Nat×Operand)}{xs:List IX}{rows:List (List PC)}(hl:Zul P t sz len parts.toList=true)(hm:Za7 (parts.toList.map (·.2)) xs=true)
  (hr:Zj8 un sz (xs.map (ev s.fr))=some rows):
  ∃vs e,(Instr.buildSlice t len (parts.map λ(i,x)=>(i,a.eval x))).run P w=.ok (.slice (some ⟨w.heap.size,0,none⟩) rows.length rows.length) (w.alloc (.cells vs e))/\vs.size=rows.length*sz∧
   ∀(i:Nat) r,rows[i]?=some r->r.length=sz/\∀(j:Nat) x,r[j]?=some x->∃u,vs[i*sz+j]?=some u/\VR (cx k g s.H w) (up x) u:=by
 simp only[Zul,Ze,Zag]at hl;obtain⟨⟨hty,hix⟩,hsmall⟩:=hl;have hv:=ZaU h hm;have hplen:parts.toList.length=len:=by
  have:=congrArg List.length hix;simpa using this
 split at hty
 ·rename_i e ht;simp only[Ze]at hty;obtain⟨hsz,hty⟩:=hty;split at hty
  ·rename_i i hi;split at hty
   ·rename_i z hz;simp only[Zag]at hty;generalize hcells:(Array.range (len*sz)).map ((if len*sz=0 then #[]else z.cells)[· %(if len*sz=0 then #[]else z.cells).size]!)=cells;have hcsz:cells.size=(0+parts.toList.length)*sz:=by rw[←hcells,hplen];simp
    obtain⟨arr,a1,a2,_,a4,a5⟩:=ZqW (c:=cx k g s.H w) hun parts.toList (xs.map (ev s.fr)) ((parts.toList.map (·.2)).map a.eval) rows 0 cells hv hr (by rw[hix,hplen,Z0]) (by simp) hcsz;refine⟨arr,e,?_,by rw[a2,hcsz,a4];simp,λq r hq=>?_⟩
    ·have elist:(parts.map λ(p:Nat×Operand)=>(p.1,a.eval p.2)).toList=(parts.toList.map (·.1)).zip ((parts.toList.map (·.2)).map a.eval):=by
      rw[Array.toList_map,List.map_map,List.zip_map'];rfl
     have hsz':=Zc5 (P:=P) (w:=w) hsz;have hzv:(zeroValue e).run P w=.ok z w:=by simp[zeroValue,typeInfo,hi,hz]
     have hn:¬(16777216<len*sz):=by omega
     unfold Instr.buildSlice;have hrl:rows.length=len:=by rw[a4,hplen]
     by_cases h0:len*sz=0
     ·simp only[h0,Zak]at hcells;simp only[Sem.run_bind,run_underlying ht,Result.andThen_ok,hsz',h0,Zak,Sem.run_pure,Nat.not_lt_zero,gt_iff_lt,Zah];rw[elist,hcells,a1];simp[newRow,hrl]
     simp only[h0,Zah]at hcells;simp only[Sem.run_bind,run_underlying ht,Result.andThen_ok,hsz',h0,Zah,Sem.run_pure,gt_iff_lt,hzv,show(2 ^ 24:Nat)=16777216 from rfl,hn];rw[elist,hcells,a1];simp[newRow,hrl]
    obtain⟨b1,b2⟩:=a5 q r hq;refine⟨b1,λj x hj=>?_⟩;obtain⟨u,u1,u2⟩:=b2 j x hj;rw[Z7]at u1;exact⟨u,u1,u2⟩
   cases hty
  cases hty
 cases hty
theorem ZvT (h:Rel k n g s a w){un:List AV->Option (List PC)}(hun:∀cs ps,un cs=some ps->cs.length=ps.length/\ZaL cs=true/\∀(c:Cx) (us:List Value),VRL c cs us->VRL c (ps.map up) us){o:Oper}{d sz:Nat}{xs:List IX}{rows:List (List PC)}
  (hc:chkS P n o (.litSl d sz xs)=true) (hr:Zj8 un sz (xs.map (ev s.fr))=some rows):Did P k n ⟨put s.fr d (.osl sz s.H.length 0 0 rows.length),s.bx,s.H++[.arr sz 0 false rows]⟩ a w o:=by
 simp only[chkS,Ze,Zag]at hc;obtain⟨⟨hd,hn⟩,hc⟩:=hc;split at hc
 ·rename_i t len parts hop;simp only[Ze]at hc;obtain⟨vs,e,hrun,hvsz,hrow⟩:=ZuJ h hun hc.1 hc.2 hr;have hl:=h.laterNew (o:=.arr sz 0 false rows) (vs:=vs) e;have hblk:(cx k ⟨g.ρ++[w.heap.size],g.β⟩ (s.H++[.arr sz 0 false rows]) (w.alloc (.cells vs e))).blk w.heap.size vs:=⟨e,heap_alloc_new w _⟩;obtain⟨h5,_⟩:=h.newObj (o:=.arr sz 0 false rows) (vs:=vs) e ⟨vs,hblk,by omega,λi r hi=>⟨(hrow i r hi).1,λj x hj=>let ⟨u,u1,u2⟩:=(hrow i r hi).2 j x hj;⟨u,u1,VR.later hl _ u (ZgP x) u2⟩⟩⟩;refine⟨_,_,⟨g.ρ++[w.heap.size],g.β⟩,.inl (by simp only[execOp,hop,Sem.run_bind];rw[hrun];rfl),?_⟩;rw[hd];refine h5.put hn ?_ rfl;rw[VR];refine⟨0,false,rows,w.heap.size,rows.length,?_,Nat.le_refl _,by simp,Nat.le_refl _,λ_=>⟨vs,?_,by simp,hblk,by rw[hvsz,Z7];exact Nat.le_refl _⟩⟩
  ·show(s.H++[HO.arr _ _ _ _])[s.H.length]?=_;simp
  show(g.ρ++[w.heap.size])[s.H.length]?=_;rw[←h.len];simp
 cases hc
theorem Zuk (h:Rel k n g s a w){o:Oper}{d sz:Nat}{xs:List IX}(hc:chkS P n o (.litSl d sz xs)=true){s':St}(hx:Za0 (.litSl d sz xs) s=some s'):Did P k n s' a w o:=by
 simp only[Za0]at hx;cases hr:ZnK sz (xs.map (ev s.fr))with
 |none=>simp[hr]at hx
 |some rows=>
  simp only[hr,Zaa,Zab]at hx;subst hx;exact ZvT h (un:=unP) (λ_ _=>ZoN) hc hr
theorem ZvS (h:Rel k n g s a w){o:Oper}{d sz:Nat}{xs:List IX}(hc:chkS P n o (.litP d sz xs)=true){s':St}(hx:Za0 (.litP d sz xs) s=some s'):Did P k n s' a w o:=by
 simp only[chkS,Ze,Zag]at hc;obtain⟨⟨hd,hn⟩,hc⟩:=hc;split at hc
 ·rename_i t len parts hop;simp only[Ze]at hc;simp only[Za0]at hx;cases hr:ZnK sz (xs.map (ev s.fr))with
  |none=>simp[hr]at hx
  |some rows=>
   simp only[hr,Zaa,Zab]at hx;subst hx;obtain⟨vs,e,hrun,hvsz,hrow⟩:=ZuJ h (un:=unP) (λ_ _=>ZoN) hc.1 hc.2 hr;have hg:=Grow.alloc w (.cells vs e);have h1:=h.grow hg;have hl:=Ze3 (k:=k) (g:=g) hg s.H;refine⟨_,_,g,.inl (by simp only[execOp,hop,Sem.run_bind];rw[hrun];rfl),?_⟩;rw[hd];refine h1.put hn ?_ rfl;rw[VR,PR];refine⟨_,rows.length,rfl,Nat.le_refl _,λ_=>rfl,λ_=>⟨_,rfl,?_⟩⟩;rw[Zgf];intro i r hi;refine⟨(hrow i r hi).1,?_⟩;rw[ZjJ];intro j x hj;obtain⟨u,u1,u2⟩:=(hrow i r hi).2 j x hj;have hcell:(w.alloc (.cells vs e)).cell? ⟨w.heap.size,i*sz+j,none⟩=some u:=by
    unfold World.cell?;rw[heap_alloc_new];simpa using u1
   refine⟨u,?_,?_,PR.mono hl.stay x u (Zst u2)⟩
   ·rw[Zfp,Zgz,Z7];exact hcell
   rw[Zfp,Zgz,Z7];refine⟨.inr (.inl h.keep.size),λt e'=>?_,λid e'=>?_⟩
   ·exact Nat.lt_irrefl _ (β_lt h e')
   exact absurd (ρ_lt h e') (Nat.lt_irrefl _)
 cases hc
theorem ZwQ (h:Rel k n g s a w){o:Oper}{d m:Nat}{zero:List PC}{bytes:Nat}(hc:chkS P n o (.mkSl d (.k (.p (.int .i64 m))) (.k (.p (.int .i64 m))) zero bytes)=true){s':St}(hx:Za0 (.mkC d m zero bytes) s=some s'):Did P k n s' a w o:=by
 simp only[chkS,Ze,Zag]at hc;obtain⟨⟨hd,hn⟩,hc⟩:=hc;split at hc
 ·rename_i t X Y hop;simp only[Ze]at hc;obtain⟨⟨hty,hmX⟩,hmY⟩:=hc;split at hty
  ·rename_i e ht;simp only[Ze]at hty;obtain⟨⟨hz,hsz⟩,hty⟩:=hty;split at hty
   ·rename_i i hi;simp only[Zag]at hty;subst hty;have hisz:i.size=zero.length:=by
     unfold Zdh at hsz;simpa[hi]using hsz
    simp only[Za0]at hx;split at hx
    ·rename_i hcond;obtain⟨hb1,hb2⟩:=hcond;simp only[Zab]at hx;subst hx;obtain⟨c,ec⟩:∃c:Int,c=(m:Int):=⟨_,rfl⟩;have h0:(0:Int)<=c:=by omega
     have h1:c<=c:=Int.le_refl _;have h2:c*(i.bytes:Int)<=140737488355328:=by
      rw[ec,←Int.natCast_mul];generalize m*i.bytes=q at hb1⊢;omega
     have h3:c<=140737488355328:=by omega
     have hcm:c.toNat=m:=by omega
     have eX:a.eval X=.int .i64 c:=ZcM (c:=cx k g s.H w) (by rw[ec];exact Zca h hmX);have eY:a.eval Y=.int .i64 c:=ZcM (c:=cx k g s.H w) (by rw[ec];exact Zca h hmY);unfold Zj2 at hz;rw[hi]at hz;simp only at hz;split at hz
     ·rename_i z hiz;have hrun:=Zi1 (P:=P) (w:=w) ht hi hiz h0 h1 h2 h3;obtain⟨hzl,_⟩:=Zgc (c:=cx k g s.H w) hz;have hzlen:=hzl.length;simp only[Zd,ZO]at hzlen;generalize hvs:(Array.range (c.toNat*i.size)).map ((if c.toNat*i.size=0 then #[]else z.cells)[· %(if c.toNat*i.size=0 then #[]else z.cells).size]!)=vs at hrun;have hvget:∀q,q<c.toNat*i.size->vs[q]?=z.cells[q%zero.length]?:=by
       intro q hq;have hne:¬c.toNat*i.size=0:=by omega
       have hpos:0<zero.length:=by
        rcases Nat.eq_zero_or_pos zero.length with e|e
        ·rw[hisz,e]at hq;simp at hq
        exact e
       rw[←hvs];simp only[hne,Zah,hzlen];have hlt:q%zero.length<z.cells.size:=by rw[hzlen];exact Nat.mod_lt _ hpos
       simp[hq,hlt]
      have hg:=Grow.alloc w (.cells vs e);have h9:=h.grow hg;have hl:=Ze3 (k:=k) (g:=g) hg s.H;refine⟨_,_,g,.inl (by simp only[execOp,hop,eX,eY,Sem.run_bind];rw[hrun];rfl),?_⟩;rw[hd];refine h9.put hn ?_ rfl;rw[VR,PR];have hlen:((List.replicate m zero).length:Int)=c:=by rw[List.length_replicate,ec]
      refine⟨_,c.toNat,by rw[←hcm];simp;rfl,by rw[hcm,List.length_replicate];exact Nat.le_refl _,λe=>(by cases e),λ_=>⟨_,rfl,?_⟩⟩;rw[Zgf];intro q r hq;rw[ZI]at hq;split at hq
      ·rename_i hlt;cases hq;refine⟨rfl,?_⟩;rw[ZjJ];intro j x hj;have hjl:=(List.getElem?_eq_some_iff.1 hj).1;have hfit:q*zero.length+j<c.toNat*i.size:=by
        have:(q+1)*zero.length<=c.toNat*zero.length:=Nat.mul_le_mul_right _ (by omega);rw[Z6]at this;rw[hisz];omega
       have hmod:(q*zero.length+j)%zero.length=j:=by
        rw[Nat.mul_comm,Nat.mul_add_mod,Nat.mod_eq_of_lt hjl]
       rw[Zed]at hzl;have hju:j<z.cells.size:=by omega
       have u2:=hzl.2 j (.p x) z.cells[j] (by simp[hj]) (by simp[hju]);rw[VR]at u2;have hcell:(w.alloc (.cells vs e)).cell? ⟨w.heap.size,q*zero.length+j,none⟩=some z.cells[j]:=by
        unfold World.cell?;rw[heap_alloc_new];have:=hvget _ hfit;rw[hmod]at this;simpa[hju]using this
       refine⟨z.cells[j],?_,?_,PR.mono hl.stay x _ u2⟩
       ·rw[Zfp,Zgz,Z7];exact hcell
       rw[Zfp,Zgz,Z7];refine⟨.inr (.inl h.keep.size),λt e'=>?_,λid e'=>?_⟩
       ·exact Nat.lt_irrefl _ (β_lt h e')
       exact absurd (ρ_lt h e') (Nat.lt_irrefl _)
      cases hq
     cases hz
    cases hx
   cases hty
  cases hty
 cases hc
end
end Go.Eng

namespace Go.Eng
open Go
structure HR (k:K0) (ρ:List Nat) (H:List HO) (w:World):Prop where
 heap:∀(id:Nat) o,H[id]?=some o->∃b,ρ[id]?=some b/\HoR (cx k ⟨ρ,noB⟩ H w) b o
 len:ρ.length=H.length
 inj:∀(i j b:Nat),ρ[i]?=some b->ρ[j]?=some b->i=j
 own:∀(i b:Nat),ρ[i]?=some b->k.w0.heap.size<=b∨k.D b
 keep:Keep k.D k.w0 w
def k0 (ok0:Addr->Prop)(ρ:List Nat)(H:List HO)(w:World):K0:=⟨ok0,w,λb=>∃id:Nat,ρ[id]?=some b,ρ,H,none,[],w,noB⟩
def Zvj (P:Program)(f:Nat):Prop:=∃ fn,P.funcs[f]?=some fn/\fn.body.isSome=true/\(fn.name == "runtime.NumGoroutine")=false
def ZbW (P:Program)(f:Nat)(args:List AV)(H:List HO)(r:AV)(H':List HO):Prop:=
 Zvj P f/\ZaV r=true/\∀(ok0:Addr->Prop) (ρ:List Nat) (w:World) (vs:List Value),
  HR (k0 ok0 ρ H w) ρ H w->VRL (cx (k0 ok0 ρ H w) ⟨ρ,noB⟩ H w) args vs→
  Calls P f vs.toArray w λe w'=>∃v ρ',e=.returned v/\HR (k0 ok0 ρ H w) ρ' H' w'/\VR (cx (k0 ok0 ρ H w) ⟨ρ',noB⟩ H' w') r v∧
   Zbl (cx (k0 ok0 ρ H w) ⟨ρ,noB⟩ H w) (cx (k0 ok0 ρ H w) ⟨ρ',noB⟩ H' w')
section
variable {P:Program} {k:K0} {n:Nat} {g:G} {s:St} {a:Act} {w:World}
theorem Rel.laterCall (h:Rel k n g s a w):Zbl (cx k g s.H w) (cx (k0 (okOf k s.H g) g.ρ s.H w) ⟨g.ρ,noB⟩ s.H w):=
 {stay:=λa u ho hc=>⟨hc,.inl ho,λt e=>(by cases e),ho.2.2⟩
  arr:=λid sz ver frz rows e=>⟨ver,frz,rows,e,Nat.le_refl _,λ_=>⟨Nat.le_refl _,rfl,λb vs _ hb=>⟨vs,hb,rfl⟩⟩⟩
  cells:=λid cs e=>⟨⟨cs,e⟩,rfl⟩
  lp:=λ_ _ _ st e=>⟨⟨st,e⟩,rfl⟩}
theorem Rel.hr (h:Rel k n g s a w):HR (k0 (okOf k s.H g) g.ρ s.H w) g.ρ s.H w:=
 {heap:=λid o e=>let ⟨b,hb,hr⟩:=h.heap id o e;⟨b,hb,hr.later h.laterCall λ_ hb=>hb⟩
  len:=h.len
  inj:=h.inj
  own:=λi b e=>.inr ⟨i,e⟩
  keep:=Keep.refl _ _}
theorem Rel.obj (h:Rel k n g s a w){id b:Nat}(e:g.ρ[id]?=some b):∃o,s.H[id]?=some o/\HoR (cx k g s.H w) b o:=by
 have hlt:id<s.H.length:=by rw[←h.len];exact(List.getElem?_eq_some_iff.1 e).1
 obtain⟨b',hb',hr⟩:=h.heap id s.H[id] (ZF hlt);rw[e]at hb';cases hb';exact⟨_,ZF hlt,hr⟩
theorem Rel.notDeferred (h:Rel k n g s a w){id b:Nat}(e:g.ρ[id]?=some b){x:Option (List Deferred)}(hx:w.heap[b]?=some (.deferred x)):False:=by
 obtain⟨o,_,hr⟩:=h.obj e;rcases hr.kind hx with⟨_,_,_,e⟩|⟨_,e,_⟩|⟨_,_,e⟩|⟨_,_,_,_,e⟩<;>cases e
theorem Rel.isLp (h:Rel k n g s a w){id b:Nat}(e:g.ρ[id]?=some b){x:Loop}(hx:w.heap[b]?=some (.loop x)):∃L fr st,s.H[id]?=some (.lp L fr st)/\L.mpk=false:=by
 obtain⟨o,ho,hr⟩:=h.obj e;rcases hr.kind hx with⟨_,_,_,e⟩|⟨_,_,L,fr,st,e,hm⟩|⟨_,_,e⟩|⟨_,_,_,_,e⟩
 ·cases e
 ·exact⟨L,fr,st,by rw[ho,e],hm⟩
 ·cases e
 cases e
theorem Rel.back (h:Rel k n g s a w){ρ':List Nat}{H':List HO}{w':World}(hr:HR (k0 (okOf k s.H g) g.ρ s.H w) ρ' H' w')
  (hl:Zbl (cx (k0 (okOf k s.H g) g.ρ s.H w) ⟨g.ρ,noB⟩ s.H w) (cx (k0 (okOf k s.H g) g.ρ s.H w) ⟨ρ',noB⟩ H' w')):
  Rel k n ⟨ρ',g.β⟩ ⟨s.fr,s.bx,H'⟩ a w'/\Zbl (cx (k0 (okOf k s.H g) g.ρ s.H w) ⟨ρ',noB⟩ H' w') (cx k ⟨ρ',g.β⟩ H' w'):=by
 have hapart:∀(t i b:Nat),g.β t=some b->ρ'[i]?≠some b:=λt i b e1 e2=>by
  rcases hr.own i b e2 with h1|⟨j,h1⟩
  ·have h2:w.heap.size<=b:=h1;have:=β_lt h e1;omega
  exact h.apart t j b e1 h1
 have hstay2:Stay (okOf (k0 (okOf k s.H g) g.ρ s.H w) H' ⟨ρ',noB⟩) (okOf k H' ⟨ρ',g.β⟩) w' w':=λa u ho hc=>by
  refine⟨hc,?_,λt e=>?_,ho.2.2⟩
  ·rcases ho.1 with h1|h1|⟨j,h1⟩
   ·exact h1.1
   ·right;left;have:w.heap.size<=a.block:=h1;have:=h.keep.size;omega
   exact .inr (h.own j _ h1)
  rcases ho.1 with h1|h1|⟨j,h1⟩
  ·exact h1.2.1 t e
  ·have h2:w.heap.size<=a.block:=h1;have:=β_lt h e;omega
  exact h.apart t j _ e h1
 have hl2:Zbl (cx (k0 (okOf k s.H g) g.ρ s.H w) ⟨ρ',noB⟩ H' w') (cx k ⟨ρ',g.β⟩ H' w'):=
  {stay:=hstay2
   arr:=λid sz ver frz rows e=>⟨ver,frz,rows,e,Nat.le_refl _,λ_=>⟨Nat.le_refl _,rfl,λb vs _ hb=>⟨vs,hb,rfl⟩⟩⟩
   cells:=λid cs e=>⟨⟨cs,e⟩,rfl⟩
   lp:=λ_ _ _ st e=>⟨⟨st,e⟩,rfl⟩}
 have hl1:Zbl (cx k g s.H w) (cx k ⟨ρ',g.β⟩ H' w'):=
  {stay:=λa u ho hc=>by
    obtain⟨h1,h2⟩:=hl.stay a u (h.laterCall.stay a u ho hc).2 hc;exact hstay2 a u h2 h1
   arr:=λid sz ver frz rows e=>hl.arr id sz ver frz rows e
   cells:=λid cs e=>hl.cells id cs e
   lp:=λid L fr st e=>hl.lp id L fr st e}
 refine⟨?_,hl2⟩;have hblk:∀t b,g.β t=some b->∀o,(cx k g s.H w).w.heap[b]?=some o->(cx k ⟨ρ',g.β⟩ H' w').w.heap[b]?=some o:=λt b e o hb=>by
  have:w'.heap[b]?=w.heap[b]?:=hr.keep.block b (β_lt h e) (λ⟨j,hj⟩=>h.apart t j b e hj);exact this.trans hb
 exact
  {defers:=h.defers.mono λD _ hD=>(hr.keep.block D (Array.getElem?_eq_some_iff.1 hD).1 (λ⟨j,hj⟩=>h.notDeferred hj hD)).trans hD
   rnd:=λl hl'=>by
    obtain⟨r,hr'⟩:=h.rnd l hl';by_cases hj:∃j:Nat,g.ρ[j]?=some l
    ·obtain⟨j,hj⟩:=hj;obtain⟨L,fr,st,hH,hm⟩:=h.isLp hj hr';obtain⟨⟨st',e1⟩,e2⟩:=hl.lp j L fr st hH;obtain⟨b,hb,hh⟩:=hr.heap j _ e1;have e2':ρ'[j]?=g.ρ[j]?:=e2;rw[e2',hj]at hb;cases hb;rcases hh with⟨_,_,r',hr'',_⟩|⟨hm',_⟩
     ·exact⟨r',hr''⟩
     rw[hm]at hm';cases hm'
    exact⟨r,(hr.keep.block l (Array.getElem?_eq_some_iff.1 hr').1 hj).trans hr'⟩
   tsz:=h.tsz
   slots:=λt=>Zbz hl1 (λ_ _ e=>e) (h.tops t) (h.slots t)
   tops:=h.tops
   hist:=h.hist.trans hl1
   boxes:=λt cs e=>let ⟨b,hb,hr'⟩:=h.boxes t cs e;⟨b,hb,hr'.later hl1 (hblk t b hb)⟩
   boxed:=h.boxed
   heap:=λid o e=>let ⟨b,hb,hr'⟩:=hr.heap id o e;⟨b,hb,hr'.later hl2 λ_ hb=>hb⟩
   len:=hr.len
   inj:=hr.inj
   binj:=h.binj
   apart:=hapart
   own:=λi b e=>by
    rcases hr.own i b e with h1|⟨j,h1⟩
    ·left;have h2:w.heap.size<=b:=h1;have:=h.keep.size;omega
    exact h.own j b h1
   keep:=
    {os:=hr.keep.os.trans h.keep.os
     tape:=hr.keep.tape.trans h.keep.tape
     output:=hr.keep.output.trans h.keep.output
     size:=Nat.le_trans h.keep.size hr.keep.size
     block:=λi hi hD=>by
      have h1:w'.heap[i]?=w.heap[i]?:=hr.keep.block i (Nat.lt_of_lt_of_le hi h.keep.size) (λ⟨j,hj⟩=>by
       rcases h.own j i hj with h2|h2
       ·omega
       exact hD h2)
      exact h1.trans (h.keep.block i hi hD)}}
theorem Rel.call (h:Rel k n g s a w){f:Nat}{args:List AV}{r:AV}{H':List HO}{vs:List Value}(hc:ZbW P f args s.H r H')(hargs:VRL (cx k g s.H w) args vs)(hno:noLocL args=true)
  {R:Ending->World->Prop} (hR:∀g' v w',Rel k n g' ⟨s.fr,s.bx,H'⟩ a w'->VR (cx k g' H' w') r v->R (.returned v) w'):Calls P f vs.toArray w R:=by
 obtain⟨_,hr0,hc⟩:=hc;refine(hc (okOf k s.H g) g.ρ w vs h.hr (VRL.later h.laterCall args vs hno hargs)).mono ?_;rintro e w' ⟨v,ρ',rfl,h1,h2,h3⟩;obtain⟨h4,h5⟩:=h.back h1 h3;exact hR _ _ _ h4 (VR.later h5 r v hr0 h2)
theorem ZmT {c c':Cx}(h:Stay c.ok c'.ok c.w c'.w){x:AV}{v:Value}(hp:ZkB x=true)(hv:VR c x v):VR c' x v:=by
 cases x with
 |p x=>rw[VR]at hv⊢;exact PR.mono h x v hv
 |nl x=>rw[VR]at hv⊢;exact hv
 |_=>simp[ZkB]at hp
theorem ZtR {c c':Cx}(h:Stay c.ok c'.ok c.w c'.w):∀{xs:List AV} {vs:List Value},ZkA xs=true->VRL c xs vs->VRL c' xs vs
 |[],vs,_,hv=>by rw[VRL]at hv⊢;exact hv
 |x::xs,vs,hp,hv=>by
  rw[VRL]at hv⊢;obtain⟨u,us,e,h1,h2⟩:=hv;simp only[ZkA,Ze]at hp;exact⟨u,us,e,ZmT h hp.1 h1,ZtR h hp.2 h2⟩
theorem Zxm {c c':Cx}(h:Stay c.ok c'.ok c.w c'.w){x:AV}{v:Value}(hp:ZkC x=true)(hv:VR c x v):VR c' x v:=by
 cases x with
 |agg cs=>
  rw[VR]at hv⊢;obtain⟨vs,e,hv⟩:=hv;exact⟨vs,e,ZtR h (by simpa[ZkC]using hp) hv⟩
 |_=>exact ZmT h (by simpa[ZkC]using hp) hv
theorem Zmb {c c':Cx}(h:Stay c.ok c'.ok c.w c'.w):∀{xs:List AV} {vs:List Value},Zir xs=true->VRL c xs vs->VRL c' xs vs
 |[],vs,_,hv=>by rw[VRL]at hv⊢;exact hv
 |x::xs,vs,hp,hv=>by
  rw[VRL]at hv⊢;obtain⟨u,us,e,h1,h2⟩:=hv;simp only[Zir,Ze]at hp;exact⟨u,us,e,Zxm h hp.1 h1,Zmb h hp.2 h2⟩
theorem Zyp {c c':Cx}(h:Stay c.ok c'.ok c.w c'.w){x:AV}{v:Value}(hp:Zip x=true)(hv:VR c x v):VR c' x v:=by
 cases x with
 |tup cs=>
  rw[VR]at hv⊢;obtain⟨vs,e,hv⟩:=hv;exact⟨vs,e,Zmb h (by simpa[Zip]using hp) hv⟩
 |_=>exact Zxm h (by simpa[Zip]using hp) hv
theorem ZpL {x:AV}(h:ZkB x=true):ZaV x=true:=by cases x<;>simp_all[ZkB,ZaV]
theorem ZnW:∀{xs:List AV},ZkA xs=true->noLocL xs=true
 |[],_=>rfl
 |x::xs,h=>by
  simp only[ZkA,Ze]at h;simp only[noLocL,ZaV.noLocL,Ze];exact⟨ZpL h.1,ZnW h.2⟩
theorem Zq3 {x:AV}(h:ZkC x=true):ZaV x=true:=by
 cases x with
 |agg cs=>simpa[ZaV]using ZnW (by simpa[ZkC]using h)
 |_=>exact ZpL (by simpa[ZkC]using h)
theorem ZfZ:∀{xs:List AV},Zir xs=true->noLocL xs=true
 |[],_=>rfl
 |x::xs,h=>by
  simp only[Zir,Ze]at h;simp only[noLocL,ZaV.noLocL,Ze];exact⟨Zq3 h.1,ZfZ h.2⟩
def Zle (P:Program)(f:Nat)(args:List AV)(r:AV):Prop:=Zip r=true/\Zir args=true/\ZbW P f args [] r []
theorem Zle.frame {f:Nat}{args:List AV}{r:AV}(h:Zle P f args r)(H:List HO):ZbW P f args H r H:=by
 obtain⟨hpr,hpa,hcb,hno,hc⟩:=h;refine⟨hcb,hno,λok0 ρ w vs hr hv=>?_⟩;have hρlt:∀(i b:Nat),ρ[i]?=some b->b<w.heap.size:=λi b e=>by
  have hlt:i<H.length:=by rw[←hr.len];exact(List.getElem?_eq_some_iff.1 e).1
  obtain⟨b',hb',hh⟩:=hr.heap i H[i] (ZF hlt);rw[e]at hb';cases hb';exact hh.lt
 have hk:HR (k0 (okOf (k0 ok0 ρ H w) H ⟨ρ,noB⟩) [] [] w) [] [] w:=
  {heap:=λid o e=>by simp at e
   len:=rfl
   inj:=λi j b e=>by simp at e
   own:=λi b e=>by simp at e
   keep:=Keep.refl _ _}
 have hv':VRL (cx (k0 (okOf (k0 ok0 ρ H w) H ⟨ρ,noB⟩) [] [] w) ⟨[],noB⟩ [] w) args vs:=
  Zmb (c:=cx (k0 ok0 ρ H w) ⟨ρ,noB⟩ H w) (c':=cx (k0 (okOf (k0 ok0 ρ H w) H ⟨ρ,noB⟩) [] [] w) ⟨[],noB⟩ [] w) (λa u ho hc=>⟨hc,.inl ho,λt e=>(by cases e),λid e=>by simp[cx]at e⟩) hpa hv
 refine(hc _ [] w vs hk hv').mono ?_;rintro e w' ⟨v,ρ',rfl,h1,h2,h3⟩;have hg:Grow w w':=⟨h1.keep.os,h1.keep.tape,h1.keep.output,h1.keep.size,λi hi=>h1.keep.block i hi (λ⟨j,hj⟩=>by simp at hj)⟩;have hl:=Ze3 (k:=k0 ok0 ρ H w) (g:=⟨ρ,noB⟩) hg H;refine⟨v,ρ,rfl,?_,?_,hl⟩
 ·exact
   {heap:=λid o e=>let ⟨b,hb,hh⟩:=hr.heap id o e;⟨b,hb,hh.later hl λ_=>ZeQ hg⟩
    len:=hr.len
    inj:=hr.inj
    own:=hr.own
    keep:=hr.keep.grow hg}
 refine Zyp (c:=cx (k0 (okOf (k0 ok0 ρ H w) H ⟨ρ,noB⟩) [] [] w) ⟨ρ',noB⟩ [] w') (c':=cx (k0 ok0 ρ H w) ⟨ρ,noB⟩ H w') (λa u ho hc=>⟨hc,?_⟩) hpr h2;rcases ho.1 with h4|h4|⟨j,h4⟩
 ·exact h4
 ·have h5:w.heap.size<=a.block:=h4;exact⟨.inr (.inl h5),λt e=>(by cases e),λid e=>absurd (hρlt id _ e) (by omega)⟩
 simp at h4
theorem Zk2 (h:Rel k n g s a w){x x':AV}{H':List HO}{v:Value}(hf:frz1 s.H x=some (x',H'))(hv:VR (cx k g s.H w) x v):
  Rel k n g ⟨s.fr,s.bx,H'⟩ a w/\Zbl (cx k g s.H w) (cx k g H' w)/\VR (cx k g H' w) x' v/\ZaV x'=true:=by
 unfold frz1 at hf;split at hf
 ·simp only[Zab,Zac]at hf;obtain⟨rfl,rfl⟩:=hf;exact⟨h,Zbl.refl _,hv.weak1,rfl⟩
 ·simp only[Zab,Zac]at hf;obtain⟨rfl,rfl⟩:=hf;exact⟨h,Zbl.refl _,hv,rfl⟩
 ·simp only[Zab,Zac]at hf;obtain⟨rfl,rfl⟩:=hf;exact⟨h,Zbl.refl _,hv,rfl⟩
 ·split at hf
  ·rename_i hno;simp only[Zab,Zac]at hf;obtain⟨rfl,rfl⟩:=hf;exact⟨h,Zbl.refl _,hv,by simpa[ZaV]using hno⟩
  cases hf
 ·simp only[Zab,Zac]at hf;obtain⟨rfl,rfl⟩:=hf;exact⟨h,Zbl.refl _,hv,rfl⟩
 ·simp only[Zab,Zac]at hf;obtain⟨rfl,rfl⟩:=hf;exact⟨h,Zbl.refl _,hv,rfl⟩
 ·rename_i sz id ver off len;split at hf
  ·rename_i sz' ver' frz rows hH;split at hf
   ·rename_i hcond;obtain⟨rfl,rfl⟩:=hcond;cases hs:sub off len rows with
    |none=>simp[hs]at hf
    |some r=>
     simp only[hs,Zaa,Zab,Zac]at hf;obtain⟨rfl,rfl⟩:=hf;obtain⟨h1,hl⟩:=h.freeze hH;refine⟨h1,hl,?_,rfl⟩;have hv':=hv;rw[VR]at hv';obtain⟨ver0,frz0,rows0,b,cap,hH0,_,rfl,hcap,hcur⟩:=hv';have e0:s.H[id]?=some (HO.arr sz' ver0 frz0 rows0):=hH0;rw[hH]at e0;simp only[Zab,HO.arr.injEq]at e0;obtain⟨vs,hρ,_,_,_⟩:=hcur e0.2.1;have hρ1:g.ρ[id]?=some b:=hρ;obtain⟨hle,rfl⟩:=ZiT hs;have hH1:(s.H.set id (.arr sz' ver' true rows))[id]?=some (.arr sz' ver' true rows):=by rw[Zgb _ hH,Zaj rfl]
     obtain⟨b',hρ',vs',hblk,hsz,hrow⟩:=h1.heap id _ hH1;rw[hρ1]at hρ';cases hρ';rw[VR,PR];refine⟨some ⟨b,off*sz',none⟩,cap,?_,?_,by simp,λhne=>⟨⟨b,off*sz',none⟩,rfl,?_⟩⟩
     ·congr 1;simp;omega
     ·simp;omega
     rw[Zgf];intro i r hi;rw[ZL]at hi;split at hi
     ·rename_i hil;rw[ZE]at hi;obtain⟨c1,c2⟩:=hrow _ r hi;refine⟨c1,?_⟩;rw[ZjJ];intro j x hj;obtain⟨u,hu1,hu2⟩:=c2 j x hj;have hjl:=(List.getElem?_eq_some_iff.1 hj).1;have hil2:=(List.getElem?_eq_some_iff.1 hi).1;have eaddr:(((⟨b,off*sz',none⟩:Addr).add (i*sz')).add j)=⟨b,(off+i)*sz'+j,none⟩:=by rw[Zfp,Zgz,Z6];congr 1;omega
      rw[eaddr];refine⟨u,(ZmQ hblk _).trans hu1,⟨?_,λt e=>?_,λid2 e=>?_⟩,Zst hu2⟩
      ·exact .inr (h1.own id b hρ1)
      ·exact h1.apart t id b e hρ1
      have:id2=id:=h1.inj id2 id b e hρ1;subst this;refine⟨sz',ver',rows,hH1,?_⟩;have:(off+i+1)*sz'<=rows.length*sz':=Nat.mul_le_mul_right _ hil2;rw[Z6]at this;show(off+i)*sz'+j<_;omega
     cases hi
   cases hf
  cases hf
 cases hf
theorem Znz:∀(xs:List AV) {s:St} {xs':List AV} {H':List HO} {vs:List Value},Rel k n g s a w->frzC s.H xs=some (xs',H')->noLocL xs=true->VRL (cx k g s.H w) xs vs→
  Rel k n g ⟨s.fr,s.bx,H'⟩ a w/\Zbl (cx k g s.H w) (cx k g H' w)/\VRL (cx k g H' w) xs' vs/\noLocL xs'=true
 |[],s,xs',H',vs,h,hf,_,hv=>by
  simp only[frzC,Zab,Zac]at hf;obtain⟨rfl,rfl⟩:=hf;exact⟨h,Zbl.refl _,hv,rfl⟩
 |x::xs,s,xs',H',vs,h,hf,hno,hv=>by
  simp only[frzC]at hf;cases h1:frz1 s.H x with
  |none=>simp[h1]at hf
  |some p=>
   obtain⟨x',H1⟩:=p;simp only[h1,Z8]at hf;cases h2:frzC H1 xs with
   |none=>simp[h2]at hf
   |some q=>
    obtain⟨xs1,H2⟩:=q;simp only[h2,Zaa,Zab,Zac]at hf;obtain⟨rfl,rfl⟩:=hf;rw[VRL]at hv;obtain⟨u,us,rfl,hv1,hv2⟩:=hv;simp only[noLocL,ZaV.noLocL,Ze]at hno;obtain⟨r1,l1,v1,n1⟩:=Zk2 h h1 hv1;obtain⟨r2,l2,v2,n2⟩:=Znz xs r1 h2 hno.2 (VRL.later l1 xs us hno.2 hv2);refine⟨r2,l1.trans l2,?_,?_⟩
    ·rw[VRL];exact⟨u,us,rfl,VR.later l2 x' u n1 v1,v2⟩
    simp only[noLocL,ZaV.noLocL,Ze];exact⟨n1,n2⟩
theorem Znx (h:Rel k n g s a w){x x':AV}{H':List HO}{v:Value}(hf:frzV s.H x=some (x',H'))(ht:top x=true)(hv:VR (cx k g s.H w) x v):
  Rel k n g ⟨s.fr,s.bx,H'⟩ a w/\Zbl (cx k g s.H w) (cx k g H' w)/\VR (cx k g H' w) x' v/\ZaV x'=true:=by
 unfold frzV at hf;split at hf
 ·rename_i cs;cases h1:frzC s.H cs with
  |none=>simp[h1]at hf
  |some p=>
   obtain⟨cs',H1⟩:=p;simp only[h1,Zaa,Zab,Zac]at hf;obtain⟨rfl,rfl⟩:=hf;rw[VR]at hv;obtain⟨vs,rfl,hv⟩:=hv;obtain⟨r1,l1,v1,n1⟩:=Znz cs h h1 (by simpa[top,ZaV]using ht) hv;exact⟨r1,l1,by rw[VR];exact⟨vs,rfl,v1⟩,by simpa[ZaV]using n1⟩
 exact Zk2 h hf hv
theorem Zny:∀(xs:List AV) {s:St} {xs':List AV} {H':List HO} {vs:List Value},Rel k n g s a w->frzL s.H xs=some (xs',H')->(∀x∈xs,top x=true)->VRL (cx k g s.H w) xs vs→
  Rel k n g ⟨s.fr,s.bx,H'⟩ a w/\Zbl (cx k g s.H w) (cx k g H' w)/\VRL (cx k g H' w) xs' vs/\noLocL xs'=true
 |[],s,xs',H',vs,h,hf,_,hv=>by
  simp only[frzL,Zab,Zac]at hf;obtain⟨rfl,rfl⟩:=hf;exact⟨h,Zbl.refl _,hv,rfl⟩
 |x::xs,s,xs',H',vs,h,hf,hno,hv=>by
  simp only[frzL]at hf;cases h1:frzV s.H x with
  |none=>simp[h1]at hf
  |some p=>
   obtain⟨x',H1⟩:=p;simp only[h1,Z8]at hf;cases h2:frzL H1 xs with
   |none=>simp[h2]at hf
   |some q=>
    obtain⟨xs1,H2⟩:=q;simp only[h2,Zaa,Zab,Zac]at hf;obtain⟨rfl,rfl⟩:=hf;rw[VRL]at hv;obtain⟨u,us,rfl,hv1,hv2⟩:=hv;obtain⟨r1,l1,v1,n1⟩:=Znx h h1 (hno x (by simp)) hv1;have hv3:VRL (cx k g H1 w) xs us:=by
     rw[Zed]at hv2⊢;exact⟨hv2.1,λj y v hj hv=>Zbz l1 (λ_ _ e=>e) (hno y (by simp[List.mem_of_getElem? hj])) (hv2.2 j y v hj hv)⟩
    obtain⟨r2,l2,v2,n2⟩:=Zny xs r1 h2 (λy hy=>hno y (by simp[hy])) hv3;refine⟨r2,l1.trans l2,?_,?_⟩
    ·rw[VRL];exact⟨u,us,rfl,VR.later l2 x' u n1 v1,v2⟩
    simp only[noLocL,ZaV.noLocL,Ze];exact⟨n1,n2⟩
theorem FrzC.frz {H:List HO}:∀{cs ys:List AV},FrzC H cs ys->frzC H cs=some (ys,H)
 |[],ys,h=>by rw[FrzC]at h;subst h;rfl
 |c::cs,ys,h=>by
  rw[FrzC]at h;obtain⟨x,xs,rfl,h1,h2⟩:=h;simp only[frzC,h1,Z8,h2.frz,Zaa]
theorem FrzQ.frz {H:List HO}{v y:AV}(h:FrzQ H v y):frzV H v=some (y,H):=by
 unfold FrzQ at h;split at h
 ·obtain⟨xs,rfl,h⟩:=h;simp only[frzV,h.frz,Zaa]
 rename_i hna;unfold frzV;split
 ·rename_i cs;exact absurd rfl (hna cs)
 exact h
theorem FrzL.frz {H:List HO}:∀{cs ys:List AV},FrzL H cs ys->frzL H cs=some (ys,H)
 |[],ys,h=>by rw[FrzL]at h;subst h;rfl
 |c::cs,ys,h=>by
  rw[FrzL]at h;obtain⟨x,xs,rfl,h1,h2⟩:=h;simp only[frzL,h1.frz,Z8,h2.frz,Zaa]
theorem Ztz {H e:List HO}{c x:AV}(h:frz1 H c=some (x,H)):frz1 (H++e) c=some (x,H++e):=by
 unfold frz1 at h⊢;split at h
 ·simp only[Zab,Zac]at h;simp[h.1]
 ·simp only[Zab,Zac]at h;simp[h.1]
 ·simp only[Zab,Zac]at h;simp[h.1]
 ·split at h
  ·rename_i hc;simp only[Zab,Zac]at h;simp[hc,h.1]
  cases h
 ·simp only[Zab,Zac]at h;simp[h.1]
 ·simp only[Zab,Zac]at h;simp[h.1]
 ·rename_i sz id ver off len;split at h
  ·rename_i sz' ver' frz rows hH;have hlt:=(List.getElem?_eq_some_iff.1 hH).1;have hH':(H++e)[id]?=some (.arr sz' ver' frz rows):=by rw[ZA hlt];exact hH
   simp only[hH'];split at h
   ·rename_i hc;rw[Zaj hc];cases hs:sub off len rows with
    |none=>simp[hs]at h
    |some r=>
     simp only[hs,Zaa,Zab,Zac]at h⊢;exact⟨h.1,by rw[List.set_append_left _ _ hlt,h.2]⟩
   cases h
  cases h
 cases h
theorem FrzC.grow {H e:List HO}:∀{cs ys:List AV},FrzC H cs ys->FrzC (H++e) cs ys
 |[],ys,h=>by rw[FrzC]at h⊢;exact h
 |c::cs,ys,h=>by
  rw[FrzC]at h⊢;obtain⟨x,xs,rfl,h1,h2⟩:=h;exact⟨x,xs,rfl,Ztz h1,h2.grow⟩
theorem FrzQ.grow {H e:List HO}{v y:AV}(h:FrzQ H v y):FrzQ (H++e) v y:=by
 unfold FrzQ at h⊢;split
 ·obtain⟨xs,rfl,h⟩:=h;exact⟨xs,rfl,h.grow⟩
 rename_i hna;split at h
 ·rename_i cs;exact absurd rfl (hna cs)
 exact Ztz h
theorem FrzL.grow {H e:List HO}:∀{cs ys:List AV},FrzL H cs ys->FrzL (H++e) cs ys
 |[],ys,h=>by rw[FrzL]at h⊢;exact h
 |c::cs,ys,h=>by
  rw[FrzL]at h⊢;obtain⟨x,xs,rfl,h1,h2⟩:=h;exact⟨x,xs,rfl,h1.grow,h2.grow⟩
theorem Zpz (h:Rel k n g s a w){b:Bool}{x x':AV}{H':List HO}{v:Value}(hf:ZpA b s.H x=some (x',H'))(hv:VR (cx k g s.H w) x v):
  Rel k n g ⟨s.fr,s.bx,H'⟩ a w/\Zbl (cx k g s.H w) (cx k g H' w)/\VR (cx k g H' w) x' v/\ZaV x'=true:=by
 unfold ZpA at hf;split at hf
 ·split at hf
  ·rename_i hn;simp only[Zab,Zac]at hf;obtain⟨rfl,rfl⟩:=hf;exact⟨h,Zbl.refl _,hv,hn⟩
  cases hf
 exact Zk2 h hf hv
theorem Zpy:∀(xs:List AV) {fl:List Bool} {s:St} {xs':List AV} {H':List HO} {vs:List Value},Rel k n g s a w->ZmD fl s.H xs=some (xs',H')->noLocL xs=true->VRL (cx k g s.H w) xs vs→
  Rel k n g ⟨s.fr,s.bx,H'⟩ a w/\Zbl (cx k g s.H w) (cx k g H' w)/\VRL (cx k g H' w) xs' vs/\noLocL xs'=true
 |[],fl,s,xs',H',vs,h,hf,_,hv=>by
  simp only[ZmD,Zab,Zac]at hf;obtain⟨rfl,rfl⟩:=hf;exact⟨h,Zbl.refl _,hv,rfl⟩
 |x::xs,fl,s,xs',H',vs,h,hf,hno,hv=>by
  simp only[ZmD]at hf;cases h1:ZpA (fl.headD false) s.H x with
  |none=>rw[h1]at hf;cases hf
  |some p=>
   obtain⟨x',H1⟩:=p;simp only[h1,Z8]at hf;cases h2:ZmD fl.tail H1 xs with
   |none=>rw[h2]at hf;cases hf
   |some q=>
    obtain⟨xs1,H2⟩:=q;simp only[h2,Zaa,Zab,Zac]at hf;obtain⟨rfl,rfl⟩:=hf;rw[VRL]at hv;obtain⟨u,us,rfl,hv1,hv2⟩:=hv;simp only[noLocL,ZaV.noLocL,Ze]at hno;obtain⟨r1,l1,v1,n1⟩:=Zpz h h1 hv1;obtain⟨r2,l2,v2,n2⟩:=Zpy xs r1 h2 hno.2 (VRL.later l1 xs us hno.2 hv2);refine⟨r2,l1.trans l2,?_,?_⟩
    ·rw[VRL];exact⟨u,us,rfl,VR.later l2 x' u n1 v1,v2⟩
    simp only[noLocL,ZaV.noLocL,Ze];exact⟨n1,n2⟩
theorem Zuc (h:Rel k n g s a w){fl:List Bool}{x x':AV}{H':List HO}{v:Value}(hf:ZqL fl s.H x=some (x',H'))(ht:top x=true)(hv:VR (cx k g s.H w) x v):
  Rel k n g ⟨s.fr,s.bx,H'⟩ a w/\Zbl (cx k g s.H w) (cx k g H' w)/\VR (cx k g H' w) x' v/\ZaV x'=true:=by
 unfold ZqL at hf;split at hf
 ·rename_i cs;cases h1:ZmD fl s.H cs with
  |none=>rw[h1]at hf;cases hf
  |some p=>
   obtain⟨cs',H1⟩:=p;simp only[h1,Zaa,Zab,Zac]at hf;obtain⟨rfl,rfl⟩:=hf;rw[VR]at hv;obtain⟨vs,rfl,hv⟩:=hv;obtain⟨r1,l1,v1,n1⟩:=Zpy cs h h1 (by simpa[top,ZaV]using ht) hv;exact⟨r1,l1,by rw[VR];exact⟨vs,rfl,v1⟩,by simpa[ZaV]using n1⟩
 exact Zpz h hf hv
theorem Zpx:∀(xs:List AV) {fl:List (List Bool)} {s:St} {xs':List AV} {H':List HO} {vs:List Value},Rel k n g s a w->Znn fl s.H xs=some (xs',H')->(∀x∈xs,top x=true)->VRL (cx k g s.H w) xs vs→
  Rel k n g ⟨s.fr,s.bx,H'⟩ a w/\Zbl (cx k g s.H w) (cx k g H' w)/\VRL (cx k g H' w) xs' vs/\noLocL xs'=true
 |[],fl,s,xs',H',vs,h,hf,_,hv=>by
  simp only[Znn,Zab,Zac]at hf;obtain⟨rfl,rfl⟩:=hf;exact⟨h,Zbl.refl _,hv,rfl⟩
 |x::xs,fl,s,xs',H',vs,h,hf,hno,hv=>by
  simp only[Znn]at hf;cases h1:ZqL (fl.headD []) s.H x with
  |none=>rw[h1]at hf;cases hf
  |some p=>
   obtain⟨x',H1⟩:=p;simp only[h1,Z8]at hf;cases h2:Znn fl.tail H1 xs with
   |none=>rw[h2]at hf;cases hf
   |some q=>
    obtain⟨xs1,H2⟩:=q;simp only[h2,Zaa,Zab,Zac]at hf;obtain⟨rfl,rfl⟩:=hf;rw[VRL]at hv;obtain⟨u,us,rfl,hv1,hv2⟩:=hv;obtain⟨r1,l1,v1,n1⟩:=Zuc h h1 (hno x (by simp)) hv1;have hv3:VRL (cx k g H1 w) xs us:=by
     rw[Zed]at hv2⊢;exact⟨hv2.1,λj y v hj hv=>Zbz l1 (λ_ _ e=>e) (hno y (by simp[List.mem_of_getElem? hj])) (hv2.2 j y v hj hv)⟩
    obtain⟨r2,l2,v2,n2⟩:=Zpx xs r1 h2 (λy hy=>hno y (by simp[hy])) hv3;refine⟨r2,l1.trans l2,?_,?_⟩
    ·rw[VRL];exact⟨u,us,rfl,VR.later l2 x' u n1 v1,v2⟩
    simp only[noLocL,ZaV.noLocL,Ze];exact⟨n1,n2⟩
theorem Zwd (xs:List AV){s:St}{xs':List AV}{H':List HO}{vs:List Value}(h:Rel k n g s a w)(hf:Pass s.H xs xs' H')(ht:∀x∈xs,top x=true)(hv:VRL (cx k g s.H w) xs vs):
  Rel k n g ⟨s.fr,s.bx,H'⟩ a w/\Zbl (cx k g s.H w) (cx k g H' w)/\VRL (cx k g H' w) xs' vs/\noLocL xs'=true:=
 let ⟨_,hf⟩:=hf;Zpx xs h hf ht hv
theorem Ztf:∀(xs:List AV) (H:List HO),ZmD [] H xs=frzC H xs
 |[],H=>rfl
 |x::xs,H=>by
  have e:ZpA (([]:List Bool).headD false) H x=frz1 H x:=rfl;simp only[ZmD,frzC,e,List.tail_nil];cases frz1 H x with
  |none=>rfl
  |some p=>simp only[Z8,Ztf xs p.2]
theorem Ztd (x:AV)(H:List HO):ZqL [] H x=frzV H x:=by
 cases x with
 |agg cs=>simp only[ZqL,frzV,Ztf]
 |_=>rfl
theorem Zte:∀(xs:List AV) (H:List HO),Znn [] H xs=frzL H xs
 |[],H=>rfl
 |x::xs,H=>by
  simp only[Znn,frzL,List.headD_nil,List.tail_nil,Ztd];cases frzV H x with
  |none=>rfl
  |some p=>simp only[Z8,Zte xs p.2]
theorem Pass.frz {xs xs':List AV}{H H':List HO}(h:frzL H xs=some (xs',H')):Pass H xs xs' H':=⟨[],by rw[Zte];exact h⟩
end
end Go.Eng

namespace Go.Eng
open Go
def FR (r:Option Nat):Fence:={Fence.wide with round:=r}
theorem Zrl {r:Option Nat}{m:Nat}{P:Program}{f:FuncId}{args:Array Value}{w:World}{R:Ending->World->Prop}(h:Calls P f args w R):CallsIn (FR r) m P f args w R:=(callsIn_wide (n:=m)).2 h
theorem Zsn {r:Option Nat}{m:Nat}{P:Program}{f:FuncId}{args:Array Value}{w:World}{R:Ending->World->Prop}(h:CallsIn (FR r) m P f args w R):Calls P f args w R:=(callsIn_wide (n:=m)).1 h
theorem ZwF {r:Option Nat}{m:Nat}{P:Program}{row:String}{args:Array Value}{w:World}{R:Value->World->Prop}(h:Rows P row args w R):RowsIn (FR r) m P row args w R:=
 λc cs _=>let ⟨v,w',h1,h2⟩:=h c cs;⟨v,w',h1,stepsIn_wide.2 h2⟩
theorem Oper.wpIn_of_wp {P:Program}{o:Oper}{a:Act}{w:World}{K:Act->World->Prop}{Q:Exit->Act->World->Prop}(r:Option Nat)(hd:∀c,o.op≠.defer c)(h:o.wp P a w K Q):o.wpIn (FR r) 0 P a w K Q:=by
 refine⟨λf _=>trivial,?_⟩;rw[Oper.semAt_eq _ _ _ hd];unfold Oper.wp at h;generalize (execOp a.eval o).run P w=x at h⊢;cases x with
 |ok x w'=>
  cases x<;>simp only[Oper.upon,Oper.uponIn]at h⊢<;>first
   |exact h
   |exact⟨λh=>(by cases h),Zrl h⟩
   |exact⟨λh=>(by cases h),ZwF h⟩
   |exact h.elim
 |halt x w'=>cases x<;>simp only[Oper.upon,Oper.uponIn]at h⊢<;>exact h
def Zlc (P:Program)(id:Nat)(args:List AV)(H:List HO)(b:Bool)(H':List HO):Prop:=
 ∀(ok0:Addr->Prop) (ρ:List Nat) (w:World) (vs:List Value) (l:Nat),
  HR (k0 ok0 ρ H w) ρ H w->VRL (cx (k0 ok0 ρ H w) ⟨ρ,noB⟩ H w) args vs->ρ[id]?=some l→
  ∃f tmps assign body,(Instr.yield l vs.toArray).run P w=.ok (.round l f tmps assign body) w∧
   RoundIn (FR none) 0 P l f tmps assign body w λe w'=>∃ρ',e=.returned (.bool b)/\HR (k0 ok0 ρ H w) ρ' H' w'∧
    Zbl (cx (k0 ok0 ρ H w) ⟨ρ,noB⟩ H w) (cx (k0 ok0 ρ H w) ⟨ρ',noB⟩ H' w')
def dOK (n:Nat):Option Nat->Bool
 |some d=>decide (d<n)
 |none=>true
def Zum (P:Program)(kt:TypeId)(kn:Nat):Bool:=match P.underlying kt with
 |some (.int _)=>decide (kn=0)
 |some (.struct fs)=>decide (kn=fs.size)&&decide (kn≠0)&&decide (kn<100)&&eqOK P kt (fs.toList.map λ_=>true)
 |_=>false
def ZmO (P:Program)(n:Nat)(o:Oper)(d:Option Nat)(q:SpK)(xs:List IX):Bool:=
 decide (o.dst=d)&&dOK n d&&(match q with
 |.mkMap=>(match o.op with
  |.makeMap t none=>(match P.underlying t with|some (.map _ _)=>true|_=>false)&&decide (xs.length=0)
  |_=>false)
 |.mapGet kn ok zero=>(match o.op with
  |.lookup t m x ok'=>decide (ok=ok')&&(match P.underlying t with|some (.map kt et)=>Zum P kt kn&&(match P.info? et with|some i=>(match i.zero with|some z=>ZnB z zero|none=>false)|none=>false)|_=>false)&&Za7 [m,x] xs
  |_=>false)
 |.mapSet kn=>(match o.op with
  |.mapUpdate t m x v|.insert t m x v=>(match P.underlying t with|some (.map kt _)=>Zum P kt kn|_=>false)&&Za7 [m,x,v] xs
  |_=>false)
 |.litC=>(match o.op with
  |.buildSlice t len parts=>Zul P t 1 len parts.toList&&Za7 (parts.toList.map (·.2)) xs
  |_=>false)
 |.mkP m zero bytes=>(match d with
  |some d'=>chkS P n o (.mkSl d' (.k (.p (.int .i64 m))) (.k (.p (.int .i64 m))) zero bytes)
  |none=>false)
 |.mkS zero bytes=>(match d,xs with
  |some d',[x,y]=>decide (zero.length=1)&&chkS P n o (.mkSl d' x y zero bytes)
  |_,_=>false)
 |.pop sz=>(match d,xs with
  |some d',[x,y]=>chkV P n o d' (.slice sz false true false) [x,y]
  |_,_=>false)
 |.litO sz=>(match d with
  |some d'=>chkS P n o (.litSl d' sz xs)
  |none=>false)
 |.appT sz bytes=>(match d,xs with
  |some d',[x,y]=>chkS P n o (.app d' x y sz bytes)
  |_,_=>false)
 |.shut=>(match d,xs with
  |some d',[x]=>chkV P n o d' .mov [x]
  |_,_=>false)
 |.range=>(match o.op with
  |.range t x=>(match P.underlying t with|some (.map _ _)=>true|_=>false)&&Za7 [x] xs
  |_=>false)
 |.next=>(match o.op with
  |.next x str=>!str&&Za7 [x] xs
  |_=>false)
 |.entry=>(match o.op with
  |.entry x=>Za7 [x] xs
  |_=>false))
def ZL3 (P:Program)(q:SpK)(ys:List AV)(H:List HO)(v:AV)(H':List HO):Prop:=
 ZaV v=true/\∀(k:K0) (n:Nat) (g:G) (s:St) (a:Act) (w:World) (o:Oper) (d:Option Nat) (xs:List IX),xs.map (ev s.fr)=ys->s.H=H->Rel k n g s a w→
  ZmO P n o d q xs=true->Did P k n ⟨Eng.putO s.fr d v,s.bx,H'⟩ a w o
def ZaH (P:Program)(i:Ins)(s s':St):Prop:=
 match i with
 |.sp d q xs=>∃v H',ZL3 P q (xs.map (ev s.fr)) s.H v H'/\s'=⟨Eng.putO s.fr d v,s.bx,H'⟩
 |.call d f xs=>∃args H1 r H2,Pass s.H (xs.map (ev s.fr)) args H1/\ZbW P f args H1 r H2/\s'=⟨putO s.fr d r,s.bx,H2⟩
 |.callP d f xs=>∃r,Zle P f (weakVs (xs.map (ev s.fr))) r/\s'=⟨put s.fr d r,s.bx,s.H⟩
 |.callQ d f xs=>∃args r,FrzL s.H (xs.map (ev s.fr)) args/\Zle P f args r/\s'=⟨put s.fr d r,s.bx,s.H⟩
 |.callV d fx xs=>∃f first cap args H1 r H2,ev s.fr fx=.fn f first cap/\Pass s.H (first++xs.map (ev s.fr)++cap) args H1/\ZbW P f args H1 r H2/\s'=⟨putO s.fr d r,s.bx,H2⟩
 |.callY d fx xs=>∃id args H1 b H2,ev s.fr fx=.yl id/\frzL s.H (xs.map (ev s.fr))=some (args,H1)/\Zlc P id args H1 b H2/\s'=⟨putO s.fr d (.p (.bool b)),s.bx,H2⟩
 |i=>Za0 i s=some s'
def ZbO (P:Program)(n:Nat)(o:Oper)(i:Ins):Bool:=
 match i with
 |.val d v xs=>chkV P n o d v xs
 |.loadH d x m b|.loadI d x m b|.loadN d x m b _=>chkM P n o (.load d x m b)
 |.appN d x y z b=>chkS P n o (.app d x y z b)
 |.load .. |.loadL .. |.store .. |.storeH .. |.newL .. |.boxL .. |.newH .. |.boxH .. =>chkM P n o i
 |.mkSl .. |.app .. |.litSl .. |.litP .. =>chkS P n o i
 |.mkC d m zero bytes=>chkS P n o (.mkSl d (.k (.p (.int .i64 m))) (.k (.p (.int .i64 m))) zero bytes)
 |.call d f xs=>decide (o.dst=d)&&dOK n d&&(match o.op with
  |.call {callee:=.value (.func f'),args:=args,argTypes:=_}=>decide (f=f')&&Za7 args.toList xs
  |_=>false)
 |.callP d f xs=>decide (o.dst=some d)&&decide (d<n)&&(match o.op with
  |.call {callee:=.value (.func f'),args:=args,argTypes:=_}=>decide (f=f')&&Za7 args.toList xs
  |_=>false)
 |.callQ d f xs=>decide (o.dst=some d)&&decide (d<n)&&(match o.op with
  |.call {callee:=.value (.func f'),args:=args,argTypes:=_}=>decide (f=f')&&Za7 args.toList xs
  |_=>false)
 |.callV d fx xs=>decide (o.dst=d)&&dOK n d&&(match o.op with
  |.call {callee:=.value X,args:=args,argTypes:=_}=>ZeK X fx&&Za7 args.toList xs
  |_=>false)
 |.callY d fx xs=>decide (o.dst=d)&&dOK n d&&(match o.op with
  |.call {callee:=.value X,args:=args,argTypes:=_}=>ZeK X fx&&Za7 args.toList xs
  |_=>false)
 |.sp d q xs=>ZmO P n o d q xs
section
variable {P:Program} {k:K0} {n:Nat} {g:G} {s:St} {a:Act} {w:World}
theorem Zf6 {f:Nat}(h:Zvj P f)(args:Array Value):(callFunc f args).run P w=.ok (.enter f args) w:=by
 obtain⟨fn,h1,h2,h3⟩:=h;obtain⟨c,h2⟩:=Option.isSome_iff_exists.1 h2;unfold callFunc;simp only[Sem.run_bind,run_program,Result.andThen_ok,h1,h3,Zg,Zah,h2,Option.isNone_some,Sem.run_pure]
theorem Rel.putO (h:Rel k n g s a w){d:Option Nat}(hd:dOK n d=true){r:AV}{u:Value}(hr:VR (cx k g s.H w) r u)(ht:top r=true):
  Rel k n g ⟨Eng.putO s.fr d r,s.bx,s.H⟩ (a.put d u) w:=by
 cases d with
 |none=>exact h
 |some d=>exact h.put (by simpa[dOK]using hd) hr ht
theorem Zk3 {o:Oper}{i:Ins}(h:ZbO P n o i=true):o.dst=dstI i/\dOK n (dstI i)=true:=by
 cases i with
 |val d v xs=>simp only[ZbO,chkV,Ze,Zag]at h;exact⟨h.1.1,by simpa[dstI,dOK]using h.1.2⟩
 |load d x m b=>simp only[ZbO,chkM,Ze,Zag]at h;exact⟨h.1.1,by simpa[dstI,dOK]using h.1.2⟩
 |loadL d x m b=>simp only[ZbO,chkM,Ze,Zag]at h;exact⟨h.1.1,by simpa[dstI,dOK]using h.1.2⟩
 |loadH d x m b=>simp only[ZbO,chkM,Ze,Zag]at h;exact⟨h.1.1,by simpa[dstI,dOK]using h.1.2⟩
 |loadI d x m b=>simp only[ZbO,chkM,Ze,Zag]at h;exact⟨h.1.1,by simpa[dstI,dOK]using h.1.2⟩
 |loadN d x m b zs=>simp only[ZbO,chkM,Ze,Zag]at h;exact⟨h.1.1,by simpa[dstI,dOK]using h.1.2⟩
 |appN d x y z b=>simp only[ZbO,chkS,Ze,Zag]at h;exact⟨h.1.1,by simpa[dstI,dOK]using h.1.2⟩
 |store x y m=>simp only[ZbO,chkM,Ze,Zag]at h;exact⟨h.1,rfl⟩
 |storeH x y m=>simp only[ZbO,chkM,Ze,Zag]at h;exact⟨h.1,rfl⟩
 |newL d z=>simp only[ZbO,chkM,Ze,Zag]at h;exact⟨h.1.1,by simpa[dstI,dOK]using h.1.2⟩
 |boxL d z=>simp only[ZbO,chkM,Ze,Zag]at h;exact⟨h.1.1,by simpa[dstI,dOK]using h.1.2⟩
 |newH d z=>simp only[ZbO,chkM,Ze,Zag]at h;exact⟨h.1.1,by simpa[dstI,dOK]using h.1.2⟩
 |boxH d z=>simp only[ZbO,chkM,Ze,Zag]at h;exact⟨h.1.1,by simpa[dstI,dOK]using h.1.2⟩
 |mkSl d x y z b=>simp only[ZbO,chkS,Ze,Zag]at h;exact⟨h.1.1,by simpa[dstI,dOK]using h.1.2⟩
 |app d x y z b=>simp only[ZbO,chkS,Ze,Zag]at h;exact⟨h.1.1,by simpa[dstI,dOK]using h.1.2⟩
 |litSl d z xs=>simp only[ZbO,chkS,Ze,Zag]at h;exact⟨h.1.1,by simpa[dstI,dOK]using h.1.2⟩
 |mkC d m z b=>simp only[ZbO,chkS,Ze,Zag]at h;exact⟨h.1.1,by simpa[dstI,dOK]using h.1.2⟩
 |litP d z xs=>simp only[ZbO,chkS,Ze,Zag]at h;exact⟨h.1.1,by simpa[dstI,dOK]using h.1.2⟩
 |call d f xs=>simp only[ZbO,Ze,Zag]at h;exact⟨h.1.1,h.1.2⟩
 |callP d f xs=>simp only[ZbO,Ze,Zag]at h;exact⟨h.1.1,by simpa[dstI,dOK]using h.1.2⟩
 |callQ d f xs=>simp only[ZbO,Ze,Zag]at h;exact⟨h.1.1,by simpa[dstI,dOK]using h.1.2⟩
 |callV d f xs=>simp only[ZbO,Ze,Zag]at h;exact⟨h.1.1,h.1.2⟩
 |callY d f xs=>simp only[ZbO,Ze,Zag]at h;exact⟨h.1.1,h.1.2⟩
 |sp d q xs=>simp only[ZbO,ZmO,Ze,Zag]at h;exact⟨h.1.1,h.1.2⟩
theorem Did.wp {s':St}{o:Oper}(h:Did P k n s' a w o){K:Act->World->Prop}{Q:Exit->Act->World->Prop}(hK:∀g' a' w',Rel k n g' s' a' w'->K a' w'):o.wp P a w K Q:=by
 obtain⟨u,w',g',h1|⟨h1,rfl⟩,h2⟩:=h
 ·unfold Oper.wp;rw[h1];exact hK _ _ _ h2
 unfold Oper.wp;rw[h1];exact hK _ _ _ h2
theorem Zur (h:Rel k n g s a w){o:Oper}{d:Option Nat}{f:Nat}{xs args:List AV}{vs:List Value}{H1 H2:List HO}{r:AV}(hd:o.dst=d)(hn:dOK n d=true)(hf:Pass s.H xs args H1)(ht:∀x∈xs,top x=true)(hv:VRL (cx k g s.H w) xs vs)
  (hc:ZbW P f args H1 r H2) (hrun:(execOp a.eval o).run P w=.ok (.enter f vs.toArray) w) {K:Act->World->Prop} {Q:Exit->Act->World->Prop}
  (hK:∀g' a' w',Rel k n g' ⟨Eng.putO s.fr d r,s.bx,H2⟩ a' w'->K a' w'):o.wp P a w K Q:=by
 obtain⟨r1,l1,v1,n1⟩:=Zwd xs h hf ht hv;unfold Oper.wp;rw[hrun];refine r1.call hc v1 n1 ?_;intro g' v w' h2 h3;rw[hd];exact hK _ _ _ (h2.putO hn h3 (ZaP hc.2.1))
theorem ZvR {d:Nat}{x:IX}{m:Nat}{b:Bool}{s':St}(hs:Za0 (.loadH d x m b) s=some s'):Za0 (.load d x m b) s=some s':=by
 simp only[Za0]at hs⊢;split at hs
 ·cases hs
 rename_i hl;have:rd s.bx s.H m (ev s.fr x)=rd [] s.H m (ev s.fr x):=by
  cases he:ev s.fr x with
  |loc t o=>rw[he]at hl;simp[ZqP]at hl
  |_=>rfl
 rw[this];exact hs
theorem ZvQ {d:Nat}{x:IX}{m:Nat}{b:Bool}{s':St}(hs:Za0 (.loadI d x m b) s=some s'):Za0 (.load d x m b) s=some s':=by
 simp only[Za0]at hs⊢;split at hs
 ·rename_i sz rows i off he;rw[he];exact hs
 cases hs
theorem ZvO {d:Nat}{x:IX}{m:Nat}{b:Bool}{zs:List IX}{s':St}(hs:Za0 (.loadN d x m b zs) s=some s'):Za0 (.load d x m b) s=some s':=by
 simp only[Za0]at hs⊢;split at hs
 ·rename_i id off hx;split at hs
  ·rw[hx];exact hs
  cases hs
 cases hs
theorem Zyl {d:Nat}{x y:IX}{z b:Nat}{s':St}(hs:Za0 (.appN d x y z b) s=some s'):Za0 (.app d x y z b) s=some s':=by
 simp only[Za0]at hs⊢;split at hs
 ·rename_i a b' hx;rw[hx];exact hs
 cases hs
theorem step_sound' (h:Rel k n g s a w){o:Oper}{i:Ins}(hnY:∀d fx xs,i≠.callY d fx xs)(hc:ZbO P n o i=true){s':St}(hs:ZaH P i s s'){K:Act->World->Prop}{Q:Exit->Act->World->Prop}
  (hK:∀g' a' w',Rel k n g' s' a' w'->K a' w'):o.wp P a w K Q:=by
 have hdst:=Zk3 hc;cases i with
 |val d v xs=>
  simp only[ZaH,Za0]at hs;cases hv:Za6 v (xs.map (ev s.fr))with
  |none=>simp[hv]at hs
  |some r=>
   simp only[hv,Zaa,Zab]at hs;subst hs;obtain⟨u,h1,h2,h3⟩:=Zz2 h (by simpa[ZbO]using hc) hv;refine Did.wp (k:=k) (n:=n) ⟨u,w,g,.inl h1,?_⟩ hK;rw[hdst.1];exact h.put (by simpa[dstI,dOK]using hdst.2) h2 h3
 |load d x m b=>exact(ZiH h hc hs).wp hK
 |loadL d x m b=>exact(Zuj h hc hs).wp hK
 |loadH d x m b=>exact(ZiH h (by simpa[ZbO]using hc) (ZvR hs)).wp hK
 |loadI d x m b=>exact(ZiH h (by simpa[ZbO]using hc) (ZvQ hs)).wp hK
 |loadN d x m b zs=>exact(ZiH h (by simpa[ZbO]using hc) (ZvO hs)).wp hK
 |appN d x y z b=>exact(ZtJ h (by simpa[ZbO]using hc) (Zyl hs)).wp hK
 |store x y m=>exact(ZoZ h hc hs).wp hK
 |storeH x y m=>
  have hs':Za0 (.store x y m) s=some s':=by
   simp only[ZaH,Za0]at hs⊢;split at hs
   ·rename_i hcond;rw[Zaj hcond.2];exact hs
   cases hs
  exact(ZoZ h (by simpa[ZbO,chkM]using hc) hs').wp hK
 |newL d z=>exact(ZvG h hc hs).wp hK
 |boxL d z=>exact(Zv5 h hc hs).wp hK
 |newH d z=>exact(ZvH h hc hs).wp hK
 |boxH d z=>exact(Zv6 h hc hs).wp hK
 |mkSl d x y z b=>exact(ZvJ h hc hs).wp hK
 |app d x y z b=>exact(ZtJ h hc hs).wp hK
 |litSl d z xs=>exact(Zuk h hc hs).wp hK
 |litP d z xs=>exact(ZvS h hc hs).wp hK
 |mkC d m z b=>exact(ZwQ h hc hs).wp hK
 |sp d q xs=>
  simp only[ZaH]at hs;obtain⟨v,H',h1,rfl⟩:=hs;exact(h1.2 k n g s a w o d xs rfl rfl h hc).wp hK
 |call d f xs=>
  simp only[ZaH]at hs;obtain⟨args,H1,r,H2,h1,h2,rfl⟩:=hs;simp only[ZbO,Ze]at hc;obtain⟨_,hc⟩:=hc;split at hc
  ·rename_i f' args' ts hop;simp only[Ze,Zag]at hc;obtain⟨rfl,hm⟩:=hc;refine Zur h hdst.1 hdst.2 h1 (Zb6 h hm) (ZaU h hm) h2 ?_ hK;simp only[execOp,hop,resolve,Act.eval,Deferred.ofValue,Sem.run_bind,Sem.run_pure,Result.andThen_ok,invoke];rw[Zf6 h2.1]
   congr 2
   apply Array.ext';simp
  cases hc
 |callP d f xs=>
  simp only[ZaH]at hs;obtain⟨r,h2,rfl⟩:=hs;simp only[ZbO,Ze]at hc;obtain⟨_,hc⟩:=hc;split at hc
  ·rename_i f' args' ts hop;simp only[Ze,Zag]at hc;obtain⟨rfl,hm⟩:=hc;have hfr:=h2.frame s.H;have hv:=ZaU h hm;unfold Oper.wp;have hrun:(execOp a.eval o).run P w=.ok (.enter f (args'.toList.map a.eval).toArray) w:=by
    simp only[execOp,hop,resolve,Act.eval,Deferred.ofValue,Sem.run_bind,Sem.run_pure,Result.andThen_ok,invoke];rw[Zf6 hfr.1]
    congr 2
    apply Array.ext';simp
   rw[hrun];refine h.call hfr hv.weakVs (ZfZ h2.2.1) ?_;intro g' v w' h3 h4;rw[hdst.1];exact hK _ _ _ (h3.put (by simpa[dstI,dOK]using hdst.2) h4 (ZaP hfr.2.1))
  cases hc
 |callQ d f xs=>
  simp only[ZaH]at hs;obtain⟨args,r,h1,h2,rfl⟩:=hs;simp only[ZbO,Ze]at hc;obtain⟨_,hc⟩:=hc;split at hc
  ·rename_i f' args' ts hop;simp only[Ze,Zag]at hc;obtain⟨rfl,hm⟩:=hc;have hfr:=h2.frame s.H;refine Zur (d:=some d) h hdst.1 hdst.2 (.frz h1.frz) (Zb6 h hm) (ZaU h hm) hfr ?_ hK;simp only[execOp,hop,resolve,Act.eval,Deferred.ofValue,Sem.run_bind,Sem.run_pure,Result.andThen_ok,invoke];rw[Zf6 hfr.1]
   congr 2
   apply Array.ext';simp
  cases hc
 |callV d fx xs=>
  simp only[ZaH]at hs;obtain⟨f,first,cap,args,H1,r,H2,h0,h1,h2,rfl⟩:=hs;simp only[ZbO,Ze]at hc;obtain⟨_,hc⟩:=hc;split at hc
  ·rename_i X args' ts hop;simp only[Ze]at hc;obtain⟨hmf,hm⟩:=hc;have hvf:=Zca h hmf;have htf:=Zns h hmf;rw[h0]at hvf htf;rw[VR]at hvf;obtain⟨us1,us2,e,hv1,hv2⟩:=hvf;simp only[top,ZaV,Ze]at htf;have hall:VRL (cx k g s.H w) (first++xs.map (ev s.fr)++cap) (us1++args'.toList.map a.eval++us2):=ZiL (ZiL hv1 (ZaU h hm)) hv2;refine Zur h hdst.1 hdst.2 h1 ?_ hall h2 ?_ hK
   ·intro y hy;simp only[List.mem_append]at hy;rcases hy with(hy|hy)|hy
    ·exact ZaP (ZbV.1 htf.1 y hy)
    ·exact Zb6 h hm y hy
    exact ZaP (ZbV.1 htf.2 y hy)
   simp only[execOp,hop,resolve,e,Deferred.ofValue,Sem.run_bind,Sem.run_pure,Result.andThen_ok,invoke];rw[Zf6 h2.1]
   congr 2
   apply Array.ext';simp
  cases hc
 |callY d fx xs=>exact absurd rfl (hnY d fx xs)
theorem Zxu (h:Rel k n g s a w){o:Oper}{d:Option Nat}{fx:IX}{xs:List IX}(hc:ZbO P n o (.callY d fx xs)=true){s':St}(hs:ZaH P (.callY d fx xs) s s')(r:Option Nat){K:Act->World->Prop}{Q:Exit->Act->World->Prop}
  (hK:∀g' a' w',Rel k n g' s' a' w'->K a' w'):o.wpIn (FR r) 0 P a w K Q:=by
 have hdst:=Zk3 hc;simp only[ZaH]at hs;obtain⟨id,args,H1,b,H2,h0,h1,h2,rfl⟩:=hs;simp only[ZbO,Ze]at hc;obtain⟨_,hc⟩:=hc;split at hc
 ·rename_i X args' ts hop;simp only[Ze]at hc;obtain⟨hmf,hm⟩:=hc;have hvf:=Zca h hmf;rw[h0]at hvf;obtain⟨r1,l1,v1,n1⟩:=Zny _ h h1 (Zb6 h hm) (ZaU h hm);have hvf':=VR.later l1 _ _ rfl hvf;rw[VR]at hvf hvf';obtain⟨L,fr,st,l,_,hρ,e⟩:=hvf';refine⟨λ_ _=>trivial,?_⟩;rw[Oper.semAt_eq _ _ _ (λc e=>by rw[hop]at e;cases e)];obtain⟨f,tmps,assign,body,hy,hround⟩:=h2 (okOf k H1 g) g.ρ w _ l r1.hr (VRL.later r1.laterCall args _ n1 v1) hρ;have hrun:(execOp a.eval o).run P w=.ok (.round l f tmps assign body) w:=by
   simp only[execOp,hop,resolve,e,Deferred.ofValue,Sem.run_bind,Sem.run_pure,Result.andThen_ok,invoke];rw[←hy]
   congr 2
   apply Array.ext';simp
  rw[hrun];refine⟨λh=>(by cases h),?_⟩;refine RoundIn.mono (F:=FR r) (n:=0) (show RoundIn (FR r) 0 P l f tmps assign body w _ from hround) ?_;rintro e w' ⟨ρ',rfl,g1,g2⟩;obtain⟨g3,g4⟩:=r1.back g1 g2;rw[hdst.1];exact hK _ _ _ (g3.putO hdst.2 (by rw[VR,PR]) rfl)
 cases hc
theorem ZqV (h:Rel k n g s a w){o:Oper}{i:Ins}(hd:∀c,o.op≠.defer c)(hc:ZbO P n o i=true){s':St}(hs:ZaH P i s s')(r:Option Nat){K:Act->World->Prop}{Q:Exit->Act->World->Prop}
  (hK:∀g' a' w',Rel k n g' s' a' w'->K a' w'):o.wpIn (FR r) 0 P a w K Q:=by
 cases i with
 |callY d fx xs=>exact Zxu h hc hs r hK
 |_=>exact Oper.wpIn_of_wp r hd (step_sound' h (λ_ _ _ e=>by cases e) hc hs hK)
end
def ZuO:Op->Bool
 |.defer _=>false
 |_=>true
theorem ZpH {x:Op}(h:ZuO x=true):∀c,x≠.defer c:=by
 rintro c rfl;cases h
def Zvk (P:Program)(o:IOp)(s s':St):Prop:=bnOK o s.fr=true/\ZaH P o.i s s'
def AOp (P:Program)(o:IOp)(s s':St):Prop:=
 match o.g with
 |none=>Zvk P o s s'
 |some (t,want)=>match get s.fr t with
  |.p (.bool b)=>if b=want then Zvk P o s s' else s'=⟨putO s.fr (dstI o.i) (.nl .unit),s.bx,s.H⟩
  |.nl .unit=>s'=⟨putO s.fr (dstI o.i) (.nl .unit),s.bx,s.H⟩
  |_=>False
def Zuo (ops:Array Oper):Option (Nat×Bool)->Option (Nat×Bool)->Bool
 |none,none=>true
 |some (j,b),some (t,b')=>decide (((ops[j]?).bind (·.dst))=some t)&&decide (b=b')
 |_,_=>false
def ZtE (P:Program)(n:Nat)(ops:Array Oper)(o:Oper)(io:IOp):Bool:=Zuo ops o.guard io.g&&ZbO P n o io.i&&ZuO o.op
def Zdk (P:Program)(n:Nat)(ops:Array Oper):List Oper->List IOp->Bool
 |[],[]=>true
 |o::os,io::ios=>ZtE P n ops o io&&Zdk P n ops os ios
 |_,_=>false
def Zba (P:Program):List IOp->St->St->Prop
 |[],s,s'=>s'=s
 |o::os,s,s'=>∃s1,AOp P o s s1/\Zba P os s1 s'
section
variable {P:Program} {k:K0} {n:Nat} {g:G} {s:St} {a:Act} {w:World} {ops:Array Oper}
theorem ZrY (h:Rel k n g s a w){i:Nat}{o:Oper}{io:IOp}(hi:ops[i]?=some o)(hc:ZtE P n ops o io=true){s':St}(hs:AOp P io s s')(r:Option Nat){K:Act->World->Prop}{Q:Exit->Act->World->Prop}
  (hK:∀g' a' w',Rel k n g' s' a' w'->K a' w'):wpOpIn (FR r) 0 P ops Q i K a w:=by
 simp only[ZtE,Ze]at hc;obtain⟨⟨hg,hc⟩,hnd⟩:=hc;have hnd:=ZpH hnd;unfold wpOpIn;rw[hi];simp only;unfold AOp at hs;unfold Zuo at hg;split at hg
 ·rename_i hog hig;rw[hig]at hs;simp only at hs;rw[Zaj (by simp[Region.wanted,hog])];exact ZqV h hnd hc hs.2 r hK
 ·rename_i j b t b' hog hig;rw[hig]at hs;simp only at hs;simp only[Ze,Zag]at hg;obtain⟨hj,rfl⟩:=hg;split at hs
  ·rename_i bv hget;have hslot:=h.slots t;rw[hget]at hslot;have hval:=ZnE hslot;have hlt:t<a.tmps.size:=by
    rcases Nat.lt_or_ge t a.tmps.size with h1|h1
    ·exact h1
    simp[Array.getD,Nat.not_lt.2 h1,undef]at hval
   have hy:yielded ops a.tmps j=some bv:=by
    unfold yielded;rw[hj];have:a.tmps[t]?=some (.bool bv):=by
     rw[Za,Zb hlt]at hval;rw[Zb hlt];simpa using hval
    simp[this]
   have hw:Region.wanted o (yielded ops a.tmps)=(bv==b):=by
    simp[Region.wanted,hog,hy]
   rw[hw];by_cases hb:bv=b
   ·rw[Zaj (by simp[hb])];rw[Zaj hb]at hs;exact ZqV h hnd hc hs.2 r hK
   rw[Zai (by simp[hb])];rw[Zai hb]at hs;subst hs;have hdst:=Zk3 hc;rw[hdst.1];exact⟨λ_ _=>trivial,hK g _ _ (h.putO hdst.2 (by rw[VR];rfl) rfl)⟩
  ·rename_i hget;have hslot:=h.slots t;rw[hget,VR]at hslot;have hy:yielded ops a.tmps j=none:=by
    unfold yielded;rw[hj];simp only[Z8];rw[Za]at hslot;cases ht:a.tmps[t]? with
    |none=>rfl
    |some v=>rw[ht]at hslot;simp only[Z9]at hslot;rw[hslot];rfl
   have hw:Region.wanted o (yielded ops a.tmps)=false:=by
    simp[Region.wanted,hog,hy]
   rw[hw,Zai (by simp)];subst hs;have hdst:=Zk3 hc;rw[hdst.1];exact⟨λ_ _=>trivial,hK g _ _ (h.putO hdst.2 (by rw[VR];rfl) rfl)⟩
  exact hs.elim
 cases hg
theorem Zrk:∀{os:List Oper} {ios:List IOp},Zdk P n ops os ios=true->os.length=ios.length/\∀(i:Nat) o io,os[i]?=some o->ios[i]?=some io->ZtE P n ops o io=true
 |[],[],_=>⟨rfl,by simp⟩
 |o::os,io::ios,h=>by
  simp only[Zdk,Ze]at h;obtain⟨h1,h2⟩:=Zrk h.2;refine⟨by simp[h1],λi o' io' hi hi'=>?_⟩;cases i with
  |zero=>simp at hi hi';subst hi hi';exact h.1
  |succ i=>exact h2 i o' io' (by simpa using hi) (by simpa using hi')
 |[],_::_,h=>by simp[Zdk]at h
 |_::_,[],h=>by simp[Zdk]at h
theorem ZpB {r:Option Nat}{Q:Exit->Act->World->Prop}:∀(os:List Oper) (ios:List IOp) (st:Nat) {g:G} {s s':St} {a:Act} {w:World},(∀j,os[j]?=ops[st+j]?)->Zdk P n ops os ios=true->Rel k n g s a w->Zba P ios s s'→
  (∀g' a' w',Rel k n g' s' a' w'->Q .normal a' w')->wpOpsIn (FR r) 0 P ops Q (List.range' st os.length) a w
 |[],[],st,g,s,s',a,w,_,_,h,hp,hQ=>by
  simp only[Zba]at hp;subst hp;simpa[wpOpsIn]using hQ g a w h
 |o::os,io::ios,st,g,s,s',a,w,hos,hc,h,hp,hQ=>by
  simp only[Zba]at hp;obtain⟨s1,h1,h2⟩:=hp;simp only[Zdk,Ze]at hc;have h0:=hos 0;simp only[ZD,Nat.add_zero]at h0;simp only[ZN,ZZ];rw[wpOpsIn_cons];refine ZrY h h0.symm hc.1 h1 r (λg' a' w' h3=>?_);exact ZpB os ios (st+1) (λj=>by have:=hos (j+1);simpa[Nat.add_assoc,Nat.add_comm 1 j]using this) hc.2 h3 h2 hQ
 |[],_::_,_,_,_,_,_,_,_,hc,_,_,_=>by simp[Zdk]at hc
 |_::_,[],_,_,_,_,_,_,_,hc,_,_,_=>by simp[Zdk]at hc
theorem ZsW (h:Rel k n g s a w){id:Nat}{ios:List IOp}(hc:Zdk P n ops ops.toList ios=true){s':St}(hp:Zba P ios s s')(r:Option Nat){Q:Exit->Act->World->Prop}
  (hQ:∀g' a' w',Rel k n g' s' a' w'->Q .normal a' w'):(Code.region id ops false).wpIn (FR r) 0 P Q a w:=by
 refine wpIn_region ?_;have:=ZpB (r:=r) (Q:=Q) ops.toList ios 0 (by simp) hc h hp hQ
 rwa [Zd,←Z0]at this
end
end Go.Eng

