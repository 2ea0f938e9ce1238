/-Part of the proof. -/
import Derived.Test.YtlajapegdomhfaaGreatSynthOpensE1
import Derived.Deep.AppendSrc
import Derived.IntWalk
import Derived.RangeFuncRecord
import Derived.OrdersIn
set_option linter.all false
namespace Go.Eng
open Go
def ZuH (P:Program)(t:TypeId)(sz len:Nat)(parts:List (Nat×Operand)):Bool:=
 (match P.underlying t with
  |some (.slice e)=>ZdA P e sz&&(match P.info? e with
   |some i=>(match i.zero with
    |some z=>decide (z.cells.size=sz)
    |none=>false)
   |none=>false)
  |_=>false)&&decide (parts.map (·.1)=List.range len)&&decide (len*sz<=16777216)
def chkS (P:Program)(n:Nat)(o:Oper):Ins->Bool
 |.mkSl d x y zero bytes=>decide (o.dst=some d)&&decide (d<n)&&(match o.op with
  |.makeSlice t X Y=>(match P.underlying t with
   |some (.slice e)=>Zj5 P e (zero.map .p)&&ZdA P e zero.length&&(match P.info? e with
    |some i=>decide (i.bytes=bytes)
    |none=>false)
   |_=>false)&&ZeW X x&&ZeW Y y
  |_=>false)
 |.app d x y sz bytes=>decide (o.dst=some d)&&decide (d<n)&&(match o.op with
  |.call {callee:=.builtin .append,args:=args,argTypes:=ts}=>(match ts.toList with
   |[t,t']=>(match P.underlying t with
    |some (.slice e)=>ZdA P e sz&&(match P.info? e with
     |some i=>decide (i.bytes=bytes)&&(match i.zero with
      |some z=>decide (z.cells.size=sz)
      |none=>false)
     |none=>false)
    |_=>false)&&(match P.underlying t' with
     |some (.slice _)=>true
     |_=>false)
   |_=>false)&&Zbf args.toList [x,y]
  |_=>false)
 |.litSl d sz xs=>decide (o.dst=some d)&&decide (d<n)&&(match o.op with
  |.buildSlice t len parts=>ZuH P t sz len parts.toList&&Zbf (parts.toList.map (·.2)) xs
  |_=>false)
 |.litP d sz xs=>decide (o.dst=some d)&&decide (d<n)&&(match o.op with
  |.buildSlice t len parts=>ZuH P t sz len parts.toList&&Zbf (parts.toList.map (·.2)) xs
  |_=>false)
 |_=>false
section
variable {P:Program} {k:K0} {n:Nat} {g:G} {s:St} {a:Act} {w:World}
def Zfg (c:Cx)(sz:Nat)(rows:List (List PC))(us:List Value):Prop:=
 us.length=rows.length*sz/\∀(i:Nat) r,rows[i]?=some r->r.length=sz/\∀(j:Nat) x,r[j]?=some x->∃u,us[i*sz+j]?=some u/\VR c (up x) u
def Zo9 {c:Cx}{sz:Nat}:∀(rows:List (List PC)) (Q:Nat->Value->Prop),(∀(i:Nat) r,rows[i]?=some r->r.length=sz/\∀(j:Nat) x,r[j]?=some x->∃u,Q (i*sz+j) u/\VR c (up x) u)→
  ∃us:List Value,Zfg c sz rows us/\∀(q:Nat) u,us[q]?=some u->Q q u
 |[],Q,_=>⟨[],⟨by simp,by simp⟩,by simp⟩
 |r::rows,Q,h=>by
  obtain⟨h0,h1⟩:=h 0 r rfl;simp only[Nat.zero_mul,Zaj]at h1;obtain⟨us0,a1,a2,a3⟩:=ZrY (R:=λx u=>VR c (up x) u) (Q:=Q) h1;obtain⟨us,⟨b1,b2⟩,b3⟩:=Zo9 rows (λq=>Q (sz+q)) (λi r hi=>by
   obtain⟨c1,c2⟩:=h (i+1) r (by simp_all);refine⟨c1,λj x hj=>?_⟩;obtain⟨u,h3,h2⟩:=c2 j x hj;refine⟨u,?_,h2⟩;grind)
  have h4:us0.length=sz:=by omega
  refine⟨us0++us,⟨by grind,λi r' hi=>?_⟩,λq u hq=>?_⟩
  ·cases i with
   |zero=>
    grind
   |succ i=>
    grind
  grind
def Zsf {ok:Addr->Prop}{x:PC}{u:Value}(h:PR ok w x u):u.oneCell'=true:=by
 cases x with
 |int k n=>rw[PR]at h;subst h;rfl
 |bool b=>rw[PR]at h;subst h;rfl
 |sl sz full rows=>rw[PR]at h;obtain⟨A,cap,e,_⟩:=h;subst e;rfl
 |ow sz id ver len=>rw[PR]at h;obtain⟨A,cap,e⟩:=h;subst e;rfl
def Zfg.one {c:Cx}{sz:Nat}{rows:List (List PC)}{us:List Value}(h:Zfg c sz rows us):∀u∈us,u.oneCell'=true:=by
 intro u hu;obtain⟨q,hq,rfl⟩:=List.getElem_of_mem hu;have h2:0<sz:=by
  grind[Zfg]
 have hi:q/sz<rows.length:=by
  rw[h.1]at hq;simp_all[Nat.div_lt_of_lt_mul,Nat.mul_comm]
 obtain⟨c1,c2⟩:=h.2 (q/sz) rows[q/sz] (ZL hi);have hj:q%sz<rows[q/sz].length:=by simp_all[Nat.mod_lt]
 obtain⟨u,h0,h1⟩:=c2 (q%sz) _ (ZL hj);have:q/sz*sz+q%sz=q:=by grind[Nat.mul_comm,Nat.div_add_mod]
 rw[this,ZL hq]at h0;cases h0;exact Zsf (ZsH h1)
def Zfg.mono {c c':Cx}(hs:ZbA c c'){sz:Nat}{rows:List (List PC)}{us:List Value}(h:Zfg c sz rows us):Zfg c' sz rows us:=
 ⟨h.1,λi r hi=>⟨(h.2 i r hi).1,λj x hj=>let ⟨u,h1,h2⟩:=(h.2 i r hi).2 j x hj;⟨u,h1,VR.later hs _ u (Zg2 x) h2⟩⟩⟩
def Zfg.append {c:Cx}{sz:Nat}{r1 r2:List (List PC)}{u1 u2:List Value}(h1:Zfg c sz r1 u1)(h2:Zfg c sz r2 u2):Zfg c sz (r1++r2) (u1++u2):=by
 refine⟨by grind[Zfg],λi r hi=>?_⟩;by_cases h4:i<r1.length
 ·grind[up,Zfg,VR]
 rw[ZH (by omega)]at hi;obtain⟨c1,c2⟩:=h2.2 _ r hi;refine⟨c1,λj x hj=>?_⟩;obtain⟨u,h3,h0⟩:=c2 j x hj;refine⟨u,?_,h0⟩;have h5:r1.length*sz<=i*sz:=Nat.mul_le_mul_right _ (by omega);grind[ZH,Nat.sub_mul,up,Zfg,VR]
def ZuV {c:Cx}{b sz:Nat}{rows:List (List PC)}{us:List Value}{vs:Array Value}(hb:c.blk b vs)(h:Zfg c sz rows us)(hp:∀(q:Nat) u,us[q]?=some u->vs[q]?=some u):ArrR c b sz rows:=by
 refine⟨vs,hb,?_,λi r hi=>⟨(h.2 i r hi).1,λj x hj=>let ⟨u,h1,h2⟩:=(h.2 i r hi).2 j x hj;⟨u,hp _ u h1,h2⟩⟩⟩;rcases Nat.eq_zero_or_pos (rows.length*sz)with e|e
 ·omega
 have h0:rows.length*sz-1<us.length:=by rw[h.1];omega
 have:=hp _ _ (ZL h0);grind
def Zkh (h:Rel k n g s a w){sz:Nat}{x:AV}{rows:List (List PC)}{v:Value}(hr:ZdD s.H sz x=some rows)(h9:Zi8 x=true)(hv:VR (cx k g s.H w) x v):
  ∃A cap us,v=.slice A rows.length cap/\Zfg (cx k g s.H w) sz rows us/\(rows≠[]->∃ad,A=some ad/\∀(j:Nat) u,us[j]?=some u->w.cell? (ad.add j)=some u):=by
 unfold ZdD at hr;split at hr
 ·rename_i sz' full rows';split at hr
  ·rename_i h6;subst h6;simp only[Zan]at hr;subst hr;rw[VR,PR]at hv;obtain⟨A,cap,rfl,_,_,hA⟩:=hv;by_cases ha:rows'=[]
   ·simp_all[cx,ZkM,Zfg,Zi8]
   obtain⟨ad,rfl,h0⟩:=hA ha;rw[Zgw]at h0;obtain⟨us,h1,h2⟩:=Zo9 (c:=cx k g s.H w) (sz:=sz') rows' (λq u=>w.cell? (ad.add q)=some u) (λi r hi=>by
    obtain⟨c1,c2⟩:=h0 i r hi;rw[ZjQ]at c2;refine⟨c1,λj x hj=>?_⟩;obtain⟨u,h5,_,h7⟩:=c2 j x hj;rw[ZfG]at h5;exact⟨u,h5,ZoL (Zsh (ZyD h9 hi) hj) h7⟩)
   grind
  cases hr
 ·rename_i sz0 id ver off len;split at hr
  ·rename_i sz' ver' frz rows' hH;split at hr
   ·rename_i h3;obtain⟨rfl,rfl,rfl⟩:=h3;rw[VR]at hv;obtain⟨ver0,frz0,rows0,b,cap,hg,_,rfl,he,h4⟩:=hv;have e0:s.H[id]?=some (HO.arr sz' ver0 frz0 rows0):=hg;rw[hH]at e0;simp only[Zan,HO.arr.injEq]at e0;obtain⟨vs,hρ,_,_,_⟩:=h4 e0.2.1;obtain⟨b',hρ',vs',hf,h6,h8⟩:=h.heap id _ hH;have:b'=b:=by
     grind[Cx.blk,cx,up,sub,VR,Zi8]
    subst this;obtain⟨hh,rfl⟩:=Zj9 hr;obtain⟨us,h1,h2⟩:=Zo9 (c:=cx k g s.H w) (sz:=sz') ((rows'.drop off).take len) (λq u=>vs'[off*sz'+q]?=some u) (λi r hi=>by
     grind)
    refine⟨some ⟨b',off*sz',none⟩,cap,us,?_,h1,λ_=>⟨⟨b',off*sz',none⟩,rfl,λj u hj=>?_⟩⟩
    ·congr 1
     simp;omega
    grind[ZmM,ZgK,Cx.blk,cx,up,Zfg,sub,VR,Zi8]
   cases hr
  cases hr
 cases hr
theorem ZAW {A:Option Addr}{cap sz:Nat}{rows:List (List PC)}{us:List Value}{c:Cx}{t e:TypeId}(ht:P.underlying t=some (.slice e))(h:Zfg c sz rows us)
  (hA:rows≠[]->∃ad,A=some ad/\∀(j:Nat) u,us[j]?=some u->w.cell? (ad.add j)=some u):Src P sz t (.slice A rows.length cap) rows.length us w:=by
 by_cases h0:rows=[]
 ·subst h0;have:us=[]:=List.eq_nil_of_length_eq_zero (by simpa using h.1);subst this;cases A with
  |none=>grind[Src.ofNil]
  |some ad=>grind[Src.ofSlice]
 obtain⟨ad,rfl,hc⟩:=hA h0;exact Src.ofSlice w ht ad rows.length cap us h.1 hc h.one
def ZmF {A:Option Addr}{cap sz:Nat}{rows:List (List PC)}{us:List Value}{c:Cx}(h:Zfg c sz rows us)
  (hA:rows≠[]->∃ad,A=some ad/\∀(j:Nat) u,us[j]?=some u->w.cell? (ad.add j)=some u):(Builtin.firstCells sz rows.length (.slice A rows.length cap)).run P w.drew=.ok us.toArray w.drew:=by
 by_cases h0:rows=[]
 ·subst h0;have:us=[]:=List.eq_nil_of_length_eq_zero (by simpa using h.1);subst this;cases A with
  |none=>simp[Builtin.firstCells]
  |some ad=>grind[run_firstCells_some]
 obtain⟨ad,rfl,hc⟩:=hA h0;exact run_firstCells_some w.drew sz rows.length ad rows.length cap us h.1 (by simp_all)
def getElem?_append_prefix {us:List Value}{rest:Array Value}(q:Nat)(u:Value)(h:us[q]?=some u):(us.toArray++rest)[q]?=some u:=by
 grind
def ZAL (h:Rel k n g s a w){t t' ty e e':TypeId}{i:TypeInfo}{z:Value}{bytes:Nat}(ht:P.underlying t=some (.slice e))(g6:P.underlying t'=some (.slice e'))(hi:P.info? e=some i)(hz:i.zero=some z)(g5:z.cells.size=i.size)(gg:i.bytes=bytes)
  {id ver':Nat} {frz:Bool} {rows new:List (List PC)} {vX vY:Value} {usY:List Value} (hH:s.H[id]?=some (.arr i.size ver' frz rows)) (hx:VR (cx k g s.H w) (.osl i.size id ver' 0 rows.length) vX) (hg:Zfg (cx k g s.H w) i.size new usY) (h5:Src P i.size t' vY new.length usY w)
  (gi:(rows.length+new.length)*bytes<=140737488355328) (gh:rows.length+new.length<=140737488355328):
  ∃v' w' g',(Builtin.append_ #[t,t'] ty #[vX,vY]).run P w=.ok v' w'/\Rel k n g' ⟨s.fr,s.bx,s.H.set id (.arr i.size (ver'+1) frz (rows++new))⟩ a w'∧
   VR (cx k g' (s.H.set id (.arr i.size (ver'+1) frz (rows++new))) w') (.osl i.size id (ver'+1) 0 (rows.length+new.length)) v':=by
 have h6:=hx;rw[VR]at h6;obtain⟨ver0,frz0,rows0,b,cap,gd,_,eX,gb,hu⟩:=h6;have e0:s.H[id]?=some (HO.arr i.size ver0 frz0 rows0):=gd;rw[hH]at e0;simp only[Zan,HO.arr.injEq]at e0;obtain⟨vs0,hρ,_,h3,h7⟩:=hu e0.2.1;have hρ':g.ρ[id]?=some b:=hρ;have g8:ZdD s.H i.size (.osl i.size id ver' 0 rows.length)=some rows:=by simp[ZdD,hH,sub]
 obtain⟨AX,capX,usX,eX',hh,hv⟩:=Zkh h g8 rfl hx;rw[eX]at eX';simp only[Value.slice.injEq]at eX';obtain⟨rfl,_,rfl⟩:=eX';simp only[Nat.zero_mul,Zaj]at eX h7 hv;by_cases h0:rows.length+new.length<=cap
 ·
  have h9:=h3;obtain⟨et,ha⟩:=h9;have gf:usY.length=new.length*i.size:=hg.1;have ga:rows.length*i.size+usY.length<=vs0.size:=by
   have:(rows.length+new.length)*i.size<=cap*i.size:=Nat.mul_le_mul_right _ h0;grind
  have hy:=run_storeCells_at P b (rows.length*i.size) et usY 0 vs0 w ha (by omega) hg.one;simp only[Zai]at hy;have h4:(Builtin.append_ #[t,t'] ty #[vX,vY]).run P w=.ok (.slice (some ⟨b,0,none⟩) (rows.length+new.length) cap) (w.setRow b (vs0.toList.take (rows.length*i.size)++usY++vs0.toList.drop (rows.length*i.size+usY.length)).toArray):=by
   rw[eX];simp[Builtin.append_,run_underlying ht,run_underlying g6,sizeOf,typeInfo,hi,h5.len,h0,h5.cells,ZgK,hy]
  have hn:∀(j:Nat),(vs0.toList.take (rows.length*i.size)++usY++vs0.toList.drop (rows.length*i.size+usY.length)).toArray[j]?=if j<rows.length*i.size then vs0[j]? else if j<rows.length*i.size+usY.length then usY[j-rows.length*i.size]? else vs0[j]?:=by
   intro j;have g7:Zb3 (rows.length*i.size) usY vs0.toList=some (vs0.toList.take (rows.length*i.size)++usY++vs0.toList.drop (rows.length*i.size+usY.length)):=by
    simp_all[Zb3,Zav]
   have:=Zf6 g7 j;simp_all
  have hm:=Upd.setRow (c:=cx k g s.H w) h3 (vs0.toList.take (rows.length*i.size)++usY++vs0.toList.drop (rows.length*i.size+usY.length)).toArray;have hk:(vs0.toList.take (rows.length*i.size)++usY++vs0.toList.drop (rows.length*i.size+usY.length)).toArray.size=vs0.size:=by simp;omega
  generalize g3:(vs0.toList.take (rows.length*i.size)++usY++vs0.toList.drop (rows.length*i.size+usY.length)).toArray=vs' at*;have h2:=h.appendIn (new:=new) hρ' hH h3 hk hm (λj hj=>by simp_all) (λhl=>by
   have hf:=(Zfg.append hh hg).mono hl;refine ZuV hm.here hf (λq u hq=>?_);rw[hn];by_cases g0:q<usX.length
   ·rw[ZG g0]at hq;rw[Zav (by rw[←hh.1];exact g0)];obtain⟨ad,ead,h8⟩:=hv (by grind[Cx.blk,cx,Zfg,ZdD,VR]);cases ead;have:=h8 q u hq;rw[ZgK,Zaj]at this;grind[ZmM,Cx.blk,cx,Zfg,ZdD,VR]
   grind[Cx.blk,cx,Zfg,ZdD,VR])
  refine⟨_,_,g,h4,h2,?_⟩;rw[VR];refine⟨ver'+1,frz,rows++new,b,cap,?_,Nat.le_refl _,by simp,h0,λ_=>⟨vs',hρ',by simp,hm.here,by simp_all⟩⟩;grind[Cx.blk,cx,Zfg,ZdD,VR]
 ·
  have h4:=run_append_grow_src (P:=P) w t t' ty e i z ht hi hz (some ⟨b,0,none⟩) rows.length cap usX (ZmF hh hv) vY new.length usY h5 (by omega) (by omega) (growslice_fits (by omega) (by simp_all));have g9:=grownCap_ge w (rows.length+new.length) cap e;generalize grownCap w (rows.length+new.length) cap e=cap' at*;have h1:=h.grow (Grow.drew w);generalize g4:(usX++usY).toArray++Builtin.zeroCells z.cells (cap'-(rows.length+new.length))=vs at*;have he:(cx k ⟨g.ρ.set id w.drew.heap.size,g.β⟩ (s.H.set id (.arr i.size (ver'+1) frz (rows++new))) (w.drew.alloc (.cells vs e))).blk w.drew.heap.size vs:=⟨e,heap_alloc_new w.drew _⟩;have h2:=h1.appendNew (new:=new) (vs:=vs) hρ' hH e (λhl=>by
   have gc:Zfg (cx k g s.H w.drew) i.size (rows++new) (usX++usY):=(Zfg.append hh hg).mono (Zfl (k:=k) (g:=g) (Grow.drew w) s.H);exact ZuV he (gc.mono hl) (λq u hq=>by grind))
  rw[←eX]at h4;refine⟨_,_,⟨g.ρ.set id w.drew.heap.size,g.β⟩,h4,h2,?_⟩;rw[VR];refine⟨ver'+1,frz,rows++new,w.heap.size,cap',?_,Nat.le_refl _,by simp,g9,λ_=>⟨vs,?_,by simp,he,?_⟩⟩
  ·grind[Cx.blk,cx,Zfg,ZdD,VR]
  ·show(g.ρ.set id w.drew.heap.size)[id]?=_;rw[ZR (List.getElem?_eq_some_iff.1 hρ').1];rfl
  rw[←g4];simp only[Array.size_append,List.size_toArray,ZV,hh.1,hg.1,size_zeroCells,g5,←Zah,Zaj];simp_all
def Zt6 (h:Rel k n g s a w){o:Oper}{d:Nat}{x y:IX}{sz bytes:Nat}(hc:chkS P n o (.app d x y sz bytes)=true){s':St}(hx:Zbb (.app d x y sz bytes) s=some s'):Did P k n s' a w o:=by
 simp only[chkS,Ze,Zas]at hc;obtain⟨⟨hd,hn⟩,hc⟩:=hc;split at hc
 ·rename_i args ts gp;simp only[Ze]at hc;obtain⟨h0,hm⟩:=hc;split at h0
  ·rename_i t t' gf;have g0:ts=#[t,t']:=ZiR gf;subst g0;simp only[Ze]at h0;obtain⟨h0,gd⟩:=h0;obtain⟨e',g6⟩:∃e',P.underlying t'=some (.slice e'):=by
    grind
   split at h0
   ·rename_i e ht;simp only[Ze]at h0;obtain⟨go,h0⟩:=h0;split at h0
    ·rename_i i hi;simp only[Ze,Zas]at h0;obtain⟨gm,h0⟩:=h0;split at h0
     ·rename_i z hz;simp only[Zas]at h0;have g4:i.size=sz:=by
       grind[ZdA]
      subst g4;obtain⟨X,Y,hk,gj,gi⟩:∃X Y,args=#[X,Y]/\ZeW X x=true/\ZeW Y y=true:=by
       cases hl:args.toList with
       |nil=>grind[Zbf]
       |cons X l=>
        cases l with
        |nil=>grind[Zbf]
        |cons Y l=>
         cases l with
         |cons=>grind[Zbf]
         |nil=>
          rw[hl]at hm;simp only[Zbf,Bool.and_true,Ze]at hm;grind
      subst hk;have hv:=Zcs h gj;have ga:=Zcs h gi;simp only[Zbb]at hx;by_cases h8:Zi8 (ev s.fr y)=true
      case neg=>simp_all
      rw[Zav h8]at hx;cases hr:ZdD s.H i.size (ev s.fr y)with
      |none=>simp_all
      |some new=>
       simp only[hr,Zak]at hx;obtain⟨AY,capY,usY,eY,hy,gq⟩:=Zkh h hr h8 ga;have h7:Src P i.size t' (a.eval Y) new.length usY w:=by grind[ZAW]
       have h3:∀v' w',(Builtin.append_ #[t,t'] o.type #[a.eval X,a.eval Y]).run P w=.ok v' w'->(execOp a.eval o).run P w=.ok (.value v') w':=by
        simp_all[execOp,resolve,invoke,builtin]
       unfold appV at hx;split at hx
       ·rename_i szq full rows hg;split at hx
        ·rename_i h6;obtain⟨g3,rfl,rfl,g8,g7⟩:=h6;have he:Zi8 (ev s.fr x)=true:=by rw[hg];exact g3
         have h4:=hv;rw[hg,VR,PR]at h4;obtain⟨A,cap,eX,gl,h5,hA⟩:=h4;have h5:=h5 rfl;subst h5;have gg:ZdD s.H i.size (ev s.fr x)=some rows:=by grind[ZdD]
         obtain⟨AX,capX,usX,eX',g5,gn⟩:=Zkh h gg he hv;rw[eX]at eX';cases eX';split at hx
         ·rename_i ha;subst ha;simp only[Zam,Zan]at hx;subst hx;have gc:usY=[]:=List.eq_nil_of_length_eq_zero (by simpa using hy.1);subst gc;refine⟨a.eval X,w,g,.inl (h3 _ _ ?_),?_⟩
          ·rw[eX];have hh:=h7.cells;have hf:=h7.len;simp only[ZY]at hh hf;cases A<;>simp[Builtin.append_,run_underlying ht,run_underlying g6,sizeOf,typeInfo,hi,hf,hh,storeCells]
          rw[hd];exact h.put hn hv (by rw[hg];rfl)
         rename_i ha;simp only[Zam,Zan]at hx;subst hx;have gh:0<new.length:=List.length_pos_iff.2 ha;have h9:=run_append_grow_src (P:=P) w t t' o.type e i z ht hi hz A rows.length rows.length usX (ZmF g5 gn) (a.eval Y) new.length usY h7 (by omega) (by omega) (growslice_fits (by omega) (by simp_all));rw[eX]at h3;have gk:=grownCap_ge w (rows.length+new.length) rows.length e;generalize grownCap w (rows.length+new.length) rows.length e=cap' at*;have h1:=h.grow (Grow.drew w);have hu:Zfg (cx k g s.H w.drew) i.size (rows++new) (usX++usY):=(Zfg.append g5 hy).mono (Zfl (k:=k) (g:=g) (Grow.drew w) s.H);generalize g9:(usX++usY).toArray++Builtin.zeroCells z.cells (cap'-(rows.length+new.length))=vs at*;have hl:=h1.laterNew (o:=.arr i.size 0 false (rows++new)) (vs:=vs) e;have hj:(cx k ⟨g.ρ++[w.drew.heap.size],g.β⟩ (s.H++[.arr i.size 0 false (rows++new)]) (w.drew.alloc (.cells vs e))).blk w.drew.heap.size vs:=⟨e,heap_alloc_new w.drew _⟩;obtain⟨h2,_⟩:=h1.newObj (o:=.arr i.size 0 false (rows++new)) (vs:=vs) e (ZuV hj (hu.mono hl) (λq u hq=>by grind));refine⟨_,_,⟨g.ρ++[w.drew.heap.size],g.β⟩,.inl (h3 _ _ h9),?_⟩;rw[hd];refine h2.put hn ?_ rfl;rw[VR];refine⟨0,false,rows++new,w.heap.size,cap',?_,Nat.le_refl _,by simp,gk,λ_=>⟨vs,?_,by simp,hj,?_⟩⟩
         ·show(s.H++[HO.arr i.size 0 false (rows++new)])[s.H.length]?=_;simp
         ·show(g.ρ++[w.drew.heap.size])[s.H.length]?=_;rw[←h.len];simp
         rw[←g9];simp only[Array.size_append,List.size_toArray,ZV,g5.1,hy.1,size_zeroCells,h0,←Zah,Zaj];simp_all
        cases hx
       ·rename_i sz0 id ver off len hg;split at hx
        ·rename_i szq ver' frz rows hH;split at hx
         ·rename_i h6;obtain⟨rfl,rfl,rfl,rfl,g8,g7,rfl⟩:=h6;simp only[Zam,Zan]at hx;subst hx;have h4:=hv;rw[hg]at h4;obtain⟨v',w',g',h9,h2,gb⟩:=ZAL (ty:=o.type) h ht g6 hi hz h0 gm hH h4 hy h7 g8 g7;refine⟨v',w',g',.inl (h3 _ _ h9),?_⟩;rw[hd];exact h2.put hn gb rfl
         cases hx
        cases hx
       cases hx
     grind
    grind
   grind
  grind
 cases hc
def ZuY {x:Int}(h0:0<=x)(h1:x<=140737488355328):IntKind.i64.wrap x=x:=IntWalk.i64_in x (by omega)
def Zjb {t e:TypeId}{i:TypeInfo}{z:Value}{m c:Int}(ht:P.underlying t=some (.slice e))(hi:P.info? e=some i)(hz:i.zero=some z)(h0:0<=m)(h1:m<=c)(h2:c*i.bytes<=140737488355328)(h3:c<=140737488355328):
  (Instr.makeSlice t (.int .i64 m) (.int .i64 c)).run P w=.ok (.slice (some ⟨w.heap.size,0,none⟩) m.toNat c.toNat)
   (w.alloc (.cells ((Array.range (c.toNat*i.size)).map ((if c.toNat*i.size=0 then #[]else z.cells)[· %(if c.toNat*i.size=0 then #[]else z.cells).size]!)) e)):=by
 have e1:IntKind.i64.wrap m=m:=ZuY h0 (by omega);have e2:IntKind.i64.wrap c=c:=ZuY (by omega) h3;have h4:¬(281474976710656<(i.bytes:Int)*c):=by grind
 have h5:¬c<0:=by omega
 have h6:¬m<0:=by omega
 have h7:¬c<m:=by omega
 unfold Instr.makeSlice;by_cases hn:c.toNat*i.size=0
 ·simp[run_underlying ht,asInt,asIntOf,typeInfo,hi,e1,e2,h4,h5,h6,h7,sizeOf,hn,newRow]
 simp only[hn,Zat];simp[run_underlying ht,asInt,asIntOf,typeInfo,hi,e1,e2,h4,h5,h6,h7,sizeOf,hn,newRow,zeroValue,hz]
def Zv4 (h:Rel k n g s a w){o:Oper}{d:Nat}{x y:IX}{zero:List PC}{bytes:Nat}(hc:chkS P n o (.mkSl d x y zero bytes)=true){s':St}(hx:Zbb (.mkSl d x y zero bytes) s=some s'):Did P k n s' a w o:=by
 simp only[chkS,Ze,Zas]at hc;obtain⟨⟨hd,hn⟩,hc⟩:=hc;split at hc
 ·rename_i t X Y hm;simp only[Ze]at hc;obtain⟨⟨h4,gb⟩,ga⟩:=hc;split at h4
  ·rename_i e ht;simp only[Ze]at h4;obtain⟨⟨hz,g8⟩,h4⟩:=h4;split at h4
   ·rename_i i hi;simp only[Zas]at h4;subst h4;have g4:i.size=zero.length:=by
     grind[ZdA]
    simp only[Zbb]at hx;split at hx
    ·rename_i m c g7 g6;split at hx
     ·rename_i h8;obtain⟨h0,h1,h2,h3⟩:=h8;simp only[Zan]at hx;subst hx;have eX:a.eval X=.int .i64 m:=Zc8 (c:=cx k g s.H w) (by grind[Zcs]);have eY:a.eval Y=.int .i64 c:=Zc8 (c:=cx k g s.H w) (by grind[Zcs]);unfold Zj5 at hz;rw[hi]at hz;simp only at hz;split at hz
      ·rename_i z g3;have h7:=Zjb (P:=P) (w:=w) ht hi g3 h0 h1 h2 h3;obtain⟨ha,_⟩:=Zgv (c:=cx k g s.H w) hz;have hf:=ZmJ hz;have h6:=ha.length;simp only[Zd,ZX]at h6;generalize hh:(Array.range (c.toNat*i.size)).map ((if c.toNat*i.size=0 then #[]else z.cells)[· %(if c.toNat*i.size=0 then #[]else z.cells).size]!)=vs at h7;have he:∀q,q<c.toNat*i.size->vs[q]?=z.cells[q%zero.length]?:=by
        intro q hq;have g9:¬c.toNat*i.size=0:=by omega
        have hk:0<zero.length:=by
         grind
        rw[←hh];simp_all[Zat,Nat.mod_lt]
       have hl:=h.laterNew (o:=.arr zero.length 0 false (List.replicate m.toNat zero)) (vs:=vs) e;have h9:(cx k ⟨g.ρ++[w.heap.size],g.β⟩ (s.H++[.arr zero.length 0 false (List.replicate m.toNat zero)]) (w.alloc (.cells vs e))).blk w.heap.size vs:=⟨e,heap_alloc_new w _⟩;have hg:vs.size=c.toNat*i.size:=by grind
       have hv:m.toNat<=c.toNat:=by omega
       obtain⟨h5,_⟩:=h.newObj (o:=.arr zero.length 0 false (List.replicate m.toNat zero)) (vs:=vs) e (by
        refine⟨vs,h9,?_,λq r hq=>?_⟩
        ·simp_all[List.length_replicate,Nat.mul_le_mul_right]
        rw[ZO]at hq;split at hq
        ·rename_i gc;cases hq;refine⟨rfl,λj x hj=>?_⟩;have g0:=(List.getElem?_eq_some_iff.1 hj).1;have g5:q*zero.length+j<c.toNat*i.size:=by
          have:(q+1)*zero.length<=c.toNat*zero.length:=Nat.mul_le_mul_right _ (by omega);grind
         have hu:(q*zero.length+j)%zero.length=j:=by
          rw[Nat.mul_comm,Nat.mul_add_mod,Nat.mod_eq_of_lt g0]
         rw[Zew]at ha;have hy:j<z.cells.size:=by omega
         refine⟨z.cells[j],?_,?_⟩
         ·simp_all
         have:=ha.2 j (.p x) z.cells[j] (by simp[hj]) (by simp[hy]);grind[VR,VR.later,Zg2,ZoL,Zsh]
        cases hq)
       refine⟨_,_,⟨g.ρ++[w.heap.size],g.β⟩,.inl (by simp only[execOp,hm,eX,eY,Sem.run_bind];rw[h7];rfl),?_⟩;rw[hd];refine h5.put hn ?_ rfl;rw[VR];refine⟨0,false,List.replicate m.toNat zero,w.heap.size,c.toNat,?_,Nat.le_refl _,by simp,hv,λ_=>⟨vs,?_,by simp,h9,?_⟩⟩
       ·show(s.H++[HO.arr _ _ _ _])[s.H.length]?=_;simp
       ·show(g.ρ++[w.heap.size])[s.H.length]?=_;rw[←h.len];simp
       simp_all
      cases hz
     cases hx
    cases hx
   grind
  grind
 cases hc
def Zq6 {c:Cx}{sz:Nat}{un:List AV->Option (List PC)}(h7:∀cs ps,un cs=some ps->cs.length=ps.length/\ZaX cs=true/\∀(c:Cx) (us:List Value),VRL c cs us->VRL c (ps.map up) us):∀(ps:List (Nat×Operand)) (xs:List AV) (us:List Value) (rows:List (List PC)) (st:Nat) (cells:Array Value),
  VRL c xs us->Zgz un sz xs=some rows->ps.map (·.1)=List.range' st ps.length->ps.length=us.length->cells.size=(st+ps.length)*sz→
  ∃arr,Instr.fill (λi=>some (i*sz,sz)) cells ((ps.map (·.1)).zip us)=some arr/\arr.size=cells.size/\(∀q,q<st*sz->arr[q]?=cells[q]?)/\rows.length=ps.length∧
   ∀(i:Nat) r,rows[i]?=some r->r.length=sz/\∀(j:Nat) x,r[j]?=some x->∃u,arr[(st+i)*sz+j]?=some u/\VR c (up x) u
 |[],xs,us,rows,st,cells,hx,hr,hp,hl,hs=>by
  cases us with
  |cons=>simp at hl
  |nil=>
   have hf:xs=[]:=by have:=hx.length;simp_all
   subst hf;simp only[Zgz,Zan]at hr;subst hr;exact⟨cells,rfl,rfl,λ_ _=>rfl,rfl,by simp⟩
 |p::ps,xs,us,rows,st,cells,hx,hr,hp,hl,hs=>by
  cases us with
  |nil=>simp at hl
  |cons u us=>
   cases xs with
   |nil=>have:=hx.length;grind
   |cons x xs=>
    rw[VRL]at hx;obtain⟨u',us',e,he,ha⟩:=hx;cases e;simp only[Zgz]at hr;split at hr
    ·rename_i hm;cases hu:un (cellsOf x)with
     |none=>simp_all
     |some r0=>
      simp only[hu,Zak]at hr;cases h8:Zgz un sz xs with
      |none=>simp_all
      |some rows'=>
       simp only[h8,Zam,Zan]at hr;subst hr;obtain⟨ecl,eco,ecs⟩:=h7 _ _ hu;have h5:=ZhH eco he;have h6:=h5.length;simp only[Zd]at h6;simp only[Z3,ZW,Z8,Zy]at hp;obtain⟨hp0,hk⟩:=hp;simp only[ZW]at hs;have h1:st*sz+0+u.cells.toList.length<=cells.size:=by
        have e1:(st+(ps.length+1))*sz=st*sz+(ps.length+1)*sz:=by rw[Zah]
        have e2:(ps.length+1)*sz=ps.length*sz+sz:=by rw[Zah,Nat.one_mul]
        simp only[Zd];omega
       have h3:=Zp1 (st*sz) u.cells.toList 0 cells h1;simp only[Zai,Zd]at h3;have h0:(u.cells.zipIdx.foldl (λcs (p:Value×Nat)=>cs.setIfInBounds (st*sz+p.2) p.1) cells).toList=cells.toList.take (st*sz)++u.cells.toList++cells.toList.drop (st*sz+u.cells.size):=by
        rw[←Array.foldl_toList,Array.toList_zipIdx];simpa using h3
       generalize hn:u.cells.zipIdx.foldl (λcs (p:Value×Nat)=>cs.setIfInBounds (st*sz+p.2) p.1) cells=cells2 at h0;have h2:∀(j:Nat),cells2[j]?=if j<st*sz then cells[j]? else if j<st*sz+u.cells.size then u.cells[j-st*sz]? else cells[j]?:=by
        intro j;have hg:Zb3 (st*sz) u.cells.toList cells.toList=some cells2.toList:=by
         unfold Zb3;rw[Zav (by simpa using h1),h0];simp
        have:=Zf6 hg j;simpa using this
       have h4:cells2.size=cells.size:=by
        have:=congrArg List.length h0;simp only[Zd,ZV,Z1,List.length_drop]at this;simp only[Zd]at h1;omega
       obtain⟨arr,a1,a2,a3,a4,a5⟩:=Zq6 h7 ps xs us rows' (st+1) cells2 ha h8 hk (by simpa using hl) (by rw[h4,hs];congr 1;omega);refine⟨arr,?_,by rw[a2,h4],λq hq=>?_,by simp[a4],λi r hi=>?_⟩
       ·simp only[Z3,List.zip_cons_cons,Instr.fill,hp0];rw[Zau (by simp only[Zd]at h1;simp;omega),hn];exact a1
       ·have e1:(st+1)*sz=st*sz+sz:=by rw[Zah,Nat.one_mul]
        rw[a3 q (by omega),h2,Zav hq]
       cases i with
       |zero=>
        simp at hi;subst hi;have hh:r0.length=sz:=by rw[←hm];exact ecl.symm
        refine⟨hh,λj y hj=>?_⟩;have ht:=(List.getElem?_eq_some_iff.1 hj).1;have e1:(st+1)*sz=st*sz+sz:=by rw[Zah,Nat.one_mul]
        have h9:j<u.cells.size:=by omega
        have h5:=ecs _ _ h5;rw[Zew]at h5;refine⟨u.cells[j],?_,?_⟩
        ·rw[Zai,a3 _ (by omega),h2,Zau (by omega),Zav (by omega),show st*sz+j-st*sz=j by omega];simp[h9]
        exact h5.2 j (up y) u.cells[j] (by simp[hj]) (by simp[h9])
       |succ i=>
        obtain⟨b1,b2⟩:=a5 i r (by simpa using hi);refine⟨b1,λj y hj=>?_⟩;obtain⟨v,v1,v2⟩:=b2 j y hj;exact⟨v,by rw[show st+(i+1)=st+1+i by omega];exact v1,v2⟩
    cases hr
def Zu6 (h:Rel k n g s a w){un:List AV->Option (List PC)}(ha:∀cs ps,un cs=some ps->cs.length=ps.length/\ZaX cs=true/\∀(c:Cx) (us:List Value),VRL c cs us->VRL c (ps.map up) us){t:TypeId}{sz len:Nat}{parts:Array (Nat×Operand)}{xs:List IX}{rows:List (List PC)}(hl:ZuH P t sz len parts.toList=true)(hm:Zbf (parts.toList.map (·.2)) xs=true)
  (hr:Zgz un sz (xs.map (ev s.fr))=some rows):
  ∃vs e,(Instr.buildSlice t len (parts.map λ(i,x)=>(i,a.eval x))).run P w=.ok (.slice (some ⟨w.heap.size,0,none⟩) rows.length rows.length) (w.alloc (.cells vs e))/\vs.size=rows.length*sz∧
   ∀(i:Nat) r,rows[i]?=some r->r.length=sz/\∀(j:Nat) x,r[j]?=some x->∃u,vs[i*sz+j]?=some u/\VR (cx k g s.H w) (up x) u:=by
 simp only[ZuH,Ze,Zas]at hl;obtain⟨⟨h3,h8⟩,h6⟩:=hl;have hv:=Za5 h hm;have h2:parts.toList.length=len:=by
  have:=congrArg List.length h8;simpa using this
 split at h3
 ·rename_i e ht;simp only[Ze]at h3;obtain⟨he,h3⟩:=h3;split at h3
  ·rename_i i hi;split at h3
   ·rename_i z hz;simp only[Zas]at h3;generalize h1:(Array.range (len*sz)).map ((if len*sz=0 then #[]else z.cells)[· %(if len*sz=0 then #[]else z.cells).size]!)=cells;have h5:cells.size=(0+parts.toList.length)*sz:=by rw[←h1,h2];simp
    obtain⟨arr,a1,a2,_,a4,a5⟩:=Zq6 (c:=cx k g s.H w) ha parts.toList (xs.map (ev s.fr)) ((parts.toList.map (·.2)).map a.eval) rows 0 cells hv hr (by rw[h8,h2,Z9]) (by simp) h5;refine⟨arr,e,?_,by rw[a2,h5,a4];simp,λq r hq=>?_⟩
    ·have elist:(parts.map λ(p:Nat×Operand)=>(p.1,a.eval p.2)).toList=(parts.toList.map (·.1)).zip ((parts.toList.map (·.2)).map a.eval):=by
      rw[Array.toList_map,List.map_map,List.zip_map'];rfl
     have h4:=Zdq (P:=P) (w:=w) he;have h9:(zeroValue e).run P w=.ok z w:=by simp[zeroValue,typeInfo,hi,hz]
     have hn:¬(16777216<len*sz):=by omega
     unfold Instr.buildSlice;have h7:rows.length=len:=by rw[a4,h2]
     by_cases h0:len*sz=0
     ·simp only[h0,Zaw]at h1;simp only[Sem.run_bind,run_underlying ht,Result.andThen_ok,h4,h0,Zaw,Sem.run_pure,Nat.not_lt_zero,gt_iff_lt,Zat];rw[elist,h1,a1];simp[newRow,h7]
     simp only[h0,Zat]at h1;simp only[Sem.run_bind,run_underlying ht,Result.andThen_ok,h4,h0,Zat,Sem.run_pure,gt_iff_lt,h9,show(2 ^ 24:Nat)=16777216 from rfl,hn];rw[elist,h1,a1];simp[newRow,h7]
    obtain⟨b1,b2⟩:=a5 q r hq;refine⟨b1,λj x hj=>?_⟩;obtain⟨u,u1,u2⟩:=b2 j x hj;rw[Zaj]at u1;exact⟨u,u1,u2⟩
   cases h3
  cases h3
 cases h3
def Zrj (h:Rel k n g s a w){un:List AV->Option (List PC)}(h4:∀cs ps,un cs=some ps->cs.length=ps.length/\ZaX cs=true/\∀(c:Cx) (us:List Value),VRL c cs us->VRL c (ps.map up) us){o:Oper}{d sz:Nat}{xs:List IX}{rows:List (List PC)}
  (hc:chkS P n o (.litSl d sz xs)=true) (hr:Zgz un sz (xs.map (ev s.fr))=some rows):Did P k n ⟨put s.fr d (.osl sz s.H.length 0 0 rows.length),s.bx,s.H++[.arr sz 0 false rows]⟩ a w o:=by
 simp only[chkS,Ze,Zas]at hc;obtain⟨⟨hd,hn⟩,hc⟩:=hc;split at hc
 ·rename_i t len parts h6;simp only[Ze]at hc;obtain⟨vs,e,h3,h2,h0⟩:=Zu6 h h4 hc.1 hc.2 hr;have hl:=h.laterNew (o:=.arr sz 0 false rows) (vs:=vs) e;have h1:(cx k ⟨g.ρ++[w.heap.size],g.β⟩ (s.H++[.arr sz 0 false rows]) (w.alloc (.cells vs e))).blk w.heap.size vs:=⟨e,heap_alloc_new w _⟩;obtain⟨h5,_⟩:=h.newObj (o:=.arr sz 0 false rows) (vs:=vs) e ⟨vs,h1,by omega,λi r hi=>⟨(h0 i r hi).1,λj x hj=>let ⟨u,u1,u2⟩:=(h0 i r hi).2 j x hj;⟨u,u1,VR.later hl _ u (Zg2 x) u2⟩⟩⟩;refine⟨_,_,⟨g.ρ++[w.heap.size],g.β⟩,.inl (by simp only[execOp,h6,Sem.run_bind];rw[h3];rfl),?_⟩;rw[hd];refine h5.put hn ?_ rfl;rw[VR];refine⟨0,false,rows,w.heap.size,rows.length,?_,Nat.le_refl _,by simp,Nat.le_refl _,λ_=>⟨vs,?_,by simp,h1,by rw[h2,Zaj];exact Nat.le_refl _⟩⟩
  ·show(s.H++[HO.arr _ _ _ _])[s.H.length]?=_;simp
  show(g.ρ++[w.heap.size])[s.H.length]?=_;rw[←h.len];simp
 cases hc
def ZuG (h:Rel k n g s a w){o:Oper}{d sz:Nat}{xs:List IX}(hc:chkS P n o (.litSl d sz xs)=true){s':St}(hx:Zbb (.litSl d sz xs) s=some s'):Did P k n s' a w o:=by
 simp only[Zbb]at hx;cases hr:ZnG sz (xs.map (ev s.fr))with
 |none=>simp[hr]at hx
 |some rows=>
  simp only[hr,Zam,Zan]at hx;subst hx;exact Zrj h (un:=unP) (λ_ _=>ZoR) hc hr
def Zwc (h:Rel k n g s a w){o:Oper}{d sz:Nat}{xs:List IX}(hc:chkS P n o (.litP d sz xs)=true){s':St}(hx:Zbb (.litP d sz xs) s=some s'):Did P k n s' a w o:=by
 simp only[chkS,Ze,Zas]at hc;obtain⟨⟨hd,hn⟩,hc⟩:=hc;split at hc
 ·rename_i t len parts h5;simp only[Ze]at hc;simp only[Zbb]at hx;cases hr:ZnG sz (xs.map (ev s.fr))with
  |none=>simp[hr]at hx
  |some rows=>
   simp only[hr,Zam,Zan]at hx;subst hx;obtain⟨vs,e,h3,h4,h0⟩:=Zu6 h (un:=unP) (λ_ _=>ZoR) hc.1 hc.2 hr;have hg:=Grow.alloc w (.cells vs e);have h1:=h.grow hg;have hl:=Zfl (k:=k) (g:=g) hg s.H;refine⟨_,_,g,.inl (by simp only[execOp,h5,Sem.run_bind];rw[h3];rfl),?_⟩;rw[hd];refine h1.put hn ?_ rfl;rw[VR,PR];refine⟨_,rows.length,rfl,Nat.le_refl _,λ_=>rfl,λ_=>⟨_,rfl,?_⟩⟩;rw[Zgw];intro i r hi;refine⟨(h0 i r hi).1,?_⟩;rw[ZjQ];intro j x hj;obtain⟨u,u1,u2⟩:=(h0 i r hi).2 j x hj;have h2:(w.alloc (.cells vs e)).cell? ⟨w.heap.size,i*sz+j,none⟩=some u:=by
    unfold World.cell?;rw[heap_alloc_new];simpa using u1
   refine⟨u,?_,?_,PR.mono hl.stay x u (ZsH u2)⟩
   ·rw[ZfG,ZgK,Zaj];exact h2
   rw[ZfG,ZgK,Zaj];refine⟨.inr (.inl h.keep.size),λt e'=>?_,λid e'=>?_⟩
   ·exact Nat.lt_irrefl _ (β_lt h e')
   exact absurd (ρ_lt h e') (Nat.lt_irrefl _)
 cases hc
def Zw9 (h:Rel k n g s a w){o:Oper}{d m:Nat}{zero:List PC}{bytes:Nat}(hc:chkS P n o (.mkSl d (.k (.p (.int .i64 m))) (.k (.p (.int .i64 m))) zero bytes)=true){s':St}(hx:Zbb (.mkC d m zero bytes) s=some s'):Did P k n s' a w o:=by
 simp only[chkS,Ze,Zas]at hc;obtain⟨⟨hd,hn⟩,hc⟩:=hc;split at hc
 ·rename_i t X Y g4;simp only[Ze]at hc;obtain⟨⟨h5,g7⟩,g6⟩:=hc;split at h5
  ·rename_i e ht;simp only[Ze]at h5;obtain⟨⟨hz,hu⟩,h5⟩:=h5;split at h5
   ·rename_i i hi;simp only[Zas]at h5;subst h5;have h8:i.size=zero.length:=by
     unfold ZdA at hu;simpa[hi]using hu
    simp only[Zbb]at hx;split at hx
    ·rename_i ha;obtain⟨gb,gc⟩:=ha;simp only[Zan]at hx;subst hx;obtain⟨c,ec⟩:∃c:Int,c=(m:Int):=⟨_,rfl⟩;have h0:(0:Int)<=c:=by omega
     have h1:c<=c:=Int.le_refl _;have h2:c*(i.bytes:Int)<=140737488355328:=by
      rw[ec,←Int.natCast_mul];generalize m*i.bytes=q at gb⊢;omega
     have h3:c<=140737488355328:=by omega
     have g0:c.toNat=m:=by omega
     have eX:a.eval X=.int .i64 c:=Zc8 (c:=cx k g s.H w) (by rw[ec];exact Zcs h g7);have eY:a.eval Y=.int .i64 c:=Zc8 (c:=cx k g s.H w) (by rw[ec];exact Zcs h g6);unfold Zj5 at hz;rw[hi]at hz;simp only at hz;split at hz
     ·rename_i z ga;have h7:=Zjb (P:=P) (w:=w) ht hi ga h0 h1 h2 h3;obtain⟨hf,_⟩:=Zgv (c:=cx k g s.H w) hz;have h4:=hf.length;simp only[Zd,ZX]at h4;generalize g3:(Array.range (c.toNat*i.size)).map ((if c.toNat*i.size=0 then #[]else z.cells)[· %(if c.toNat*i.size=0 then #[]else z.cells).size]!)=vs at h7;have h6:∀q,q<c.toNat*i.size->vs[q]?=z.cells[q%zero.length]?:=by
       intro q hq;have g5:¬c.toNat*i.size=0:=by omega
       have hh:0<zero.length:=by
        rcases Nat.eq_zero_or_pos zero.length with e|e
        ·rw[h8,e]at hq;simp at hq
        exact e
       rw[←g3];simp only[g5,Zat,h4];have hv:q%zero.length<z.cells.size:=by rw[h4];exact Nat.mod_lt _ hh
       simp[hq,hv]
      have hg:=Grow.alloc w (.cells vs e);have h9:=h.grow hg;have hl:=Zfl (k:=k) (g:=g) hg s.H;refine⟨_,_,g,.inl (by simp only[execOp,g4,eX,eY,Sem.run_bind];rw[h7];rfl),?_⟩;rw[hd];refine h9.put hn ?_ rfl;rw[VR,PR];have g8:((List.replicate m zero).length:Int)=c:=by rw[List.length_replicate,ec]
      refine⟨_,c.toNat,by rw[←g0];simp;rfl,by rw[g0,List.length_replicate];exact Nat.le_refl _,λe=>(by cases e),λ_=>⟨_,rfl,?_⟩⟩;rw[Zgw];intro q r hq;rw[ZO]at hq;split at hq
      ·rename_i hv;cases hq;refine⟨rfl,?_⟩;rw[ZjQ];intro j x hj;have g9:=(List.getElem?_eq_some_iff.1 hj).1;have hm:q*zero.length+j<c.toNat*i.size:=by
        have:(q+1)*zero.length<=c.toNat*zero.length:=Nat.mul_le_mul_right _ (by omega);rw[Zah]at this;rw[h8];omega
       have hk:(q*zero.length+j)%zero.length=j:=by
        rw[Nat.mul_comm,Nat.mul_add_mod,Nat.mod_eq_of_lt g9]
       rw[Zew]at hf;have hy:j<z.cells.size:=by omega
       have u2:=hf.2 j (.p x) z.cells[j] (by simp[hj]) (by simp[hy]);rw[VR]at u2;have he:(w.alloc (.cells vs e)).cell? ⟨w.heap.size,q*zero.length+j,none⟩=some z.cells[j]:=by
        unfold World.cell?;rw[heap_alloc_new];have:=h6 _ hm;rw[hk]at this;simpa[hy]using this
       refine⟨z.cells[j],?_,?_,PR.mono hl.stay x _ u2⟩
       ·rw[ZfG,ZgK,Zaj];exact he
       rw[ZfG,ZgK,Zaj];refine⟨.inr (.inl h.keep.size),λt e'=>?_,λid e'=>?_⟩
       ·exact Nat.lt_irrefl _ (β_lt h e')
       exact absurd (ρ_lt h e') (Nat.lt_irrefl _)
      cases hq
     cases hz
    cases hx
   cases h5
  cases h5
 cases hc
end
end Go.Eng

namespace Go.Eng
open Go
structure HR (k:K0) (ρ:List Nat) (H:List HO) (w:World):Prop where
 heap:∀(id:Nat) o,H[id]?=some o->∃b,ρ[id]?=some b/\HoR (cx k ⟨ρ,noB⟩ H w) b o
 len:ρ.length=H.length
 inj:∀(i j b:Nat),ρ[i]?=some b->ρ[j]?=some b->i=j
 own:∀(i b:Nat),ρ[i]?=some b->k.w0.heap.size<=b∨k.D b
 keep:Keep k.D k.w0 w
def k0 (ok0:Addr->Prop)(ρ:List Nat)(H:List HO)(w:World):K0:=⟨ok0,w,λb=>∃id:Nat,ρ[id]?=some b,ρ,H,none,[],w,noB⟩
def ZvF (P:Program)(f:Nat):Prop:=∃ fn,P.funcs[f]?=some fn/\fn.body.isSome=true/\(fn.name == "runtime.NumGoroutine")=false
def Zcg (P:Program)(f:Nat)(args:List AV)(H:List HO)(r:AV)(H':List HO):Prop:=
 ZvF P f/\Za7 r=true/\∀(ok0:Addr->Prop) (ρ:List Nat) (w:World) (vs:List Value),
  HR (k0 ok0 ρ H w) ρ H w->VRL (cx (k0 ok0 ρ H w) ⟨ρ,noB⟩ H w) args vs→
  Calls P f vs.toArray w λe w'=>∃v ρ',e=.returned v/\HR (k0 ok0 ρ H w) ρ' H' w'/\VR (cx (k0 ok0 ρ H w) ⟨ρ',noB⟩ H' w') r v∧
   ZbA (cx (k0 ok0 ρ H w) ⟨ρ,noB⟩ H w) (cx (k0 ok0 ρ H w) ⟨ρ',noB⟩ H' w')
section
variable {P:Program} {k:K0} {n:Nat} {g:G} {s:St} {a:Act} {w:World}
def Rel.laterCall (h:Rel k n g s a w):ZbA (cx k g s.H w) (cx (k0 (okOf k s.H g) g.ρ s.H w) ⟨g.ρ,noB⟩ s.H w):=
 {stay:=λa u ho hc=>⟨hc,.inl ho,λt e=>(by cases e),ho.2.2⟩
  arr:=λid sz ver frz rows e=>⟨ver,frz,rows,e,Nat.le_refl _,λ_=>⟨Nat.le_refl _,rfl,λb vs _ hb=>⟨vs,hb,rfl⟩⟩⟩
  cells:=λid cs e=>⟨⟨cs,e⟩,rfl⟩
  lp:=λ_ _ _ st e=>⟨⟨st,e⟩,rfl⟩}
def Rel.hr (h:Rel k n g s a w):HR (k0 (okOf k s.H g) g.ρ s.H w) g.ρ s.H w:=
 {heap:=λid o e=>let ⟨b,hb,hr⟩:=h.heap id o e;⟨b,hb,hr.later h.laterCall λ_ hb=>hb⟩
  len:=h.len
  inj:=h.inj
  own:=λi b e=>.inr ⟨i,e⟩
  keep:=Keep.refl _ _}
def Rel.obj (h:Rel k n g s a w){id b:Nat}(e:g.ρ[id]?=some b):∃o,s.H[id]?=some o/\HoR (cx k g s.H w) b o:=by
 have h0:id<s.H.length:=by rw[←h.len];exact(List.getElem?_eq_some_iff.1 e).1
 obtain⟨b',h1,hr⟩:=h.heap id s.H[id] (ZL h0);rw[e]at h1;cases h1;exact⟨_,ZL h0,hr⟩
def Rel.notDeferred (h:Rel k n g s a w){id b:Nat}(e:g.ρ[id]?=some b){x:Option (List Deferred)}(hx:w.heap[b]?=some (.deferred x)):False:=by
 obtain⟨o,_,hr⟩:=h.obj e;rcases hr.kind hx with⟨_,_,_,e⟩|⟨_,e,_⟩|⟨_,_,e⟩|⟨_,_,_,_,e⟩<;>cases e
def Rel.isLp (h:Rel k n g s a w){id b:Nat}(e:g.ρ[id]?=some b){x:Loop}(hx:w.heap[b]?=some (.loop x)):∃L fr st,s.H[id]?=some (.lp L fr st)/\L.mpk=false:=by
 obtain⟨o,ho,hr⟩:=h.obj e;rcases hr.kind hx with⟨_,_,_,e⟩|⟨_,_,L,fr,st,e,hm⟩|⟨_,_,e⟩|⟨_,_,_,_,e⟩
 ·cases e
 ·exact⟨L,fr,st,by rw[ho,e],hm⟩
 ·cases e
 cases e
def Rel.back (h:Rel k n g s a w){ρ':List Nat}{H':List HO}{w':World}(hr:HR (k0 (okOf k s.H g) g.ρ s.H w) ρ' H' w')
  (hl:ZbA (cx (k0 (okOf k s.H g) g.ρ s.H w) ⟨g.ρ,noB⟩ s.H w) (cx (k0 (okOf k s.H g) g.ρ s.H w) ⟨ρ',noB⟩ H' w')):
  Rel k n ⟨ρ',g.β⟩ ⟨s.fr,s.bx,H'⟩ a w'/\ZbA (cx (k0 (okOf k s.H g) g.ρ s.H w) ⟨ρ',noB⟩ H' w') (cx k ⟨ρ',g.β⟩ H' w'):=by
 have h4:∀(t i b:Nat),g.β t=some b->ρ'[i]?≠some b:=λt i b e1 e2=>by
  rcases hr.own i b e2 with h1|⟨j,h1⟩
  ·have h2:w.heap.size<=b:=h1;have:=β_lt h e1;omega
  exact h.apart t j b e1 h1
 have h0:Stay (okOf (k0 (okOf k s.H g) g.ρ s.H w) H' ⟨ρ',noB⟩) (okOf k H' ⟨ρ',g.β⟩) w' w':=λa u ho hc=>by
  refine⟨hc,?_,λt e=>?_,ho.2.2⟩
  ·rcases ho.1 with h1|h1|⟨j,h1⟩
   ·exact h1.1
   ·right;left;have:w.heap.size<=a.block:=h1;have:=h.keep.size;omega
   exact .inr (h.own j _ h1)
  rcases ho.1 with h1|h1|⟨j,h1⟩
  ·exact h1.2.1 t e
  ·have h2:w.heap.size<=a.block:=h1;have:=β_lt h e;omega
  exact h.apart t j _ e h1
 have h9:ZbA (cx (k0 (okOf k s.H g) g.ρ s.H w) ⟨ρ',noB⟩ H' w') (cx k ⟨ρ',g.β⟩ H' w'):=
  {stay:=h0
   arr:=λid sz ver frz rows e=>⟨ver,frz,rows,e,Nat.le_refl _,λ_=>⟨Nat.le_refl _,rfl,λb vs _ hb=>⟨vs,hb,rfl⟩⟩⟩
   cells:=λid cs e=>⟨⟨cs,e⟩,rfl⟩
   lp:=λ_ _ _ st e=>⟨⟨st,e⟩,rfl⟩}
 have h6:ZbA (cx k g s.H w) (cx k ⟨ρ',g.β⟩ H' w'):=
  {stay:=λa u ho hc=>by
    obtain⟨h1,h2⟩:=hl.stay a u (h.laterCall.stay a u ho hc).2 hc;exact h0 a u h2 h1
   arr:=λid sz ver frz rows e=>hl.arr id sz ver frz rows e
   cells:=λid cs e=>hl.cells id cs e
   lp:=λid L fr st e=>hl.lp id L fr st e}
 refine⟨?_,h9⟩;have h7:∀t b,g.β t=some b->∀o,(cx k g s.H w).w.heap[b]?=some o->(cx k ⟨ρ',g.β⟩ H' w').w.heap[b]?=some o:=λt b e o hb=>by
  have:w'.heap[b]?=w.heap[b]?:=hr.keep.block b (β_lt h e) (λ⟨j,hj⟩=>h.apart t j b e hj);exact this.trans hb
 exact
  {defers:=h.defers.mono λD _ hD=>(hr.keep.block D (Array.getElem?_eq_some_iff.1 hD).1 (λ⟨j,hj⟩=>h.notDeferred hj hD)).trans hD
   rnd:=λl ha=>by
    obtain⟨r,h3⟩:=h.rnd l ha;by_cases hj:∃j:Nat,g.ρ[j]?=some l
    ·obtain⟨j,hj⟩:=hj;obtain⟨L,fr,st,hH,hm⟩:=h.isLp hj h3;obtain⟨⟨st',e1⟩,e2⟩:=hl.lp j L fr st hH;obtain⟨b,hb,hh⟩:=hr.heap j _ e1;have e2':ρ'[j]?=g.ρ[j]?:=e2;rw[e2',hj]at hb;cases hb;rcases hh with⟨_,_,r',h5,_⟩|⟨h8,_⟩
     ·exact⟨r',h5⟩
     rw[hm]at h8;cases h8
    exact⟨r,(hr.keep.block l (Array.getElem?_eq_some_iff.1 h3).1 hj).trans h3⟩
   tsz:=h.tsz
   slots:=λt=>ZbP h6 (λ_ _ e=>e) (h.tops t) (h.slots t)
   tops:=h.tops
   hist:=h.hist.trans h6
   boxes:=λt cs e=>let ⟨b,hb,h3⟩:=h.boxes t cs e;⟨b,hb,h3.later h6 (h7 t b hb)⟩
   boxed:=h.boxed
   heap:=λid o e=>let ⟨b,hb,h3⟩:=hr.heap id o e;⟨b,hb,h3.later h9 λ_ hb=>hb⟩
   len:=hr.len
   inj:=hr.inj
   binj:=h.binj
   apart:=h4
   own:=λi b e=>by
    rcases hr.own i b e with h1|⟨j,h1⟩
    ·left;have h2:w.heap.size<=b:=h1;have:=h.keep.size;omega
    exact h.own j b h1
   keep:=
    {os:=hr.keep.os.trans h.keep.os
     tape:=hr.keep.tape.trans h.keep.tape
     output:=hr.keep.output.trans h.keep.output
     size:=Nat.le_trans h.keep.size hr.keep.size
     block:=λi hi hD=>by
      have h1:w'.heap[i]?=w.heap[i]?:=hr.keep.block i (Nat.lt_of_lt_of_le hi h.keep.size) (λ⟨j,hj⟩=>by
       rcases h.own j i hj with h2|h2
       ·omega
       exact hD h2)
      exact h1.trans (h.keep.block i hi hD)}}
def Rel.call (h:Rel k n g s a w){f:Nat}{args:List AV}{r:AV}{H':List HO}{vs:List Value}(hc:Zcg P f args s.H r H')(h0:VRL (cx k g s.H w) args vs)(h7:noLocL args=true)
  {R:Ending->World->Prop} (hR:∀g' v w',Rel k n g' ⟨s.fr,s.bx,H'⟩ a w'->VR (cx k g' H' w') r v->R (.returned v) w'):Calls P f vs.toArray w R:=by
 obtain⟨_,h6,hc⟩:=hc;refine(hc (okOf k s.H g) g.ρ w vs h.hr (VRL.later h.laterCall args vs h7 h0)).mono ?_;rintro e w' ⟨v,ρ',rfl,h1,h2,h3⟩;obtain⟨h4,h5⟩:=h.back h1 h3;exact hR _ _ _ h4 (VR.later h5 r v h6 h2)
def ZmO {c c':Cx}(h:Stay c.ok c'.ok c.w c'.w){x:AV}{v:Value}(hp:ZkC x=true)(hv:VR c x v):VR c' x v:=by
 cases x with
 |p x=>rw[VR]at hv⊢;exact PR.mono h x v hv
 |nl x=>rw[VR]at hv⊢;exact hv
 |_=>simp[ZkC]at hp
def Zuc {c c':Cx}(h:Stay c.ok c'.ok c.w c'.w):∀{xs:List AV} {vs:List Value},ZkB xs=true->VRL c xs vs->VRL c' xs vs
 |[],vs,_,hv=>by rw[VRL]at hv⊢;exact hv
 |x::xs,vs,hp,hv=>by
  rw[VRL]at hv⊢;obtain⟨u,us,e,h1,h2⟩:=hv;simp only[ZkB,Ze]at hp;exact⟨u,us,e,ZmO h hp.1 h1,Zuc h hp.2 h2⟩
def ZxO {c c':Cx}(h:Stay c.ok c'.ok c.w c'.w){x:AV}{v:Value}(hp:ZkD x=true)(hv:VR c x v):VR c' x v:=by
 cases x with
 |agg cs=>
  rw[VR]at hv⊢;obtain⟨vs,e,hv⟩:=hv;exact⟨vs,e,Zuc h (by simpa[ZkD]using hp) hv⟩
 |_=>exact ZmO h (by simpa[ZkD]using hp) hv
def Zl5 {c c':Cx}(h:Stay c.ok c'.ok c.w c'.w):∀{xs:List AV} {vs:List Value},Zit xs=true->VRL c xs vs->VRL c' xs vs
 |[],vs,_,hv=>by rw[VRL]at hv⊢;exact hv
 |x::xs,vs,hp,hv=>by
  rw[VRL]at hv⊢;obtain⟨u,us,e,h1,h2⟩:=hv;simp only[Zit,Ze]at hp;exact⟨u,us,e,ZxO h hp.1 h1,Zl5 h hp.2 h2⟩
def Zy9 {c c':Cx}(h:Stay c.ok c'.ok c.w c'.w){x:AV}{v:Value}(hp:Zip x=true)(hv:VR c x v):VR c' x v:=by
 cases x with
 |tup cs=>
  rw[VR]at hv⊢;obtain⟨vs,e,hv⟩:=hv;exact⟨vs,e,Zl5 h (by simpa[Zip]using hp) hv⟩
 |_=>exact ZxO h (by simpa[Zip]using hp) hv
def ZpQ {x:AV}(h:ZkC x=true):Za7 x=true:=by cases x<;>simp_all[ZkC,Za7]
def ZnY:∀{xs:List AV},ZkB xs=true->noLocL xs=true
 |[],_=>rfl
 |x::xs,h=>by
  simp only[ZkB,Ze]at h;simp only[noLocL,Za7.noLocL,Ze];exact⟨ZpQ h.1,ZnY h.2⟩
def Zrf {x:AV}(h:ZkD x=true):Za7 x=true:=by
 cases x with
 |agg cs=>simpa[Za7]using ZnY (by simpa[ZkD]using h)
 |_=>exact ZpQ (by simpa[ZkD]using h)
def Zgi:∀{xs:List AV},Zit xs=true->noLocL xs=true
 |[],_=>rfl
 |x::xs,h=>by
  simp only[Zit,Ze]at h;simp only[noLocL,Za7.noLocL,Ze];exact⟨Zrf h.1,Zgi h.2⟩
def Zld (P:Program)(f:Nat)(args:List AV)(r:AV):Prop:=Zip r=true/\Zit args=true/\Zcg P f args [] r []
def Zld.frame {f:Nat}{args:List AV}{r:AV}(h:Zld P f args r)(H:List HO):Zcg P f args H r H:=by
 obtain⟨h7,h8,he,h9,hc⟩:=h;refine⟨he,h9,λok0 ρ w vs hr hv=>?_⟩;have hρlt:∀(i b:Nat),ρ[i]?=some b->b<w.heap.size:=λi b e=>by
  have ha:i<H.length:=by rw[←hr.len];exact(List.getElem?_eq_some_iff.1 e).1
  obtain⟨b',h0,hh⟩:=hr.heap i H[i] (ZL ha);rw[e]at h0;cases h0;exact hh.lt
 have hk:HR (k0 (okOf (k0 ok0 ρ H w) H ⟨ρ,noB⟩) [] [] w) [] [] w:=
  {heap:=λid o e=>by simp at e
   len:=rfl
   inj:=λi j b e=>by simp at e
   own:=λi b e=>by simp at e
   keep:=Keep.refl _ _}
 have h6:VRL (cx (k0 (okOf (k0 ok0 ρ H w) H ⟨ρ,noB⟩) [] [] w) ⟨[],noB⟩ [] w) args vs:=
  Zl5 (c:=cx (k0 ok0 ρ H w) ⟨ρ,noB⟩ H w) (c':=cx (k0 (okOf (k0 ok0 ρ H w) H ⟨ρ,noB⟩) [] [] w) ⟨[],noB⟩ [] w) (λa u ho hc=>⟨hc,.inl ho,λt e=>(by cases e),λid e=>by simp[cx]at e⟩) h8 hv
 refine(hc _ [] w vs hk h6).mono ?_;rintro e w' ⟨v,ρ',rfl,h1,h2,h3⟩;have hg:Grow w w':=⟨h1.keep.os,h1.keep.tape,h1.keep.output,h1.keep.size,λi hi=>h1.keep.block i hi (λ⟨j,hj⟩=>by simp at hj)⟩;have hl:=Zfl (k:=k0 ok0 ρ H w) (g:=⟨ρ,noB⟩) hg H;refine⟨v,ρ,rfl,?_,?_,hl⟩
 ·exact
   {heap:=λid o e=>let ⟨b,hb,hh⟩:=hr.heap id o e;⟨b,hb,hh.later hl λ_=>Ze5 hg⟩
    len:=hr.len
    inj:=hr.inj
    own:=hr.own
    keep:=hr.keep.grow hg}
 refine Zy9 (c:=cx (k0 (okOf (k0 ok0 ρ H w) H ⟨ρ,noB⟩) [] [] w) ⟨ρ',noB⟩ [] w') (c':=cx (k0 ok0 ρ H w) ⟨ρ,noB⟩ H w') (λa u ho hc=>⟨hc,?_⟩) h7 h2;rcases ho.1 with h4|h4|⟨j,h4⟩
 ·exact h4
 ·have h5:w.heap.size<=a.block:=h4;exact⟨.inr (.inl h5),λt e=>(by cases e),λid e=>absurd (hρlt id _ e) (by omega)⟩
 simp at h4
def Zk1 (h:Rel k n g s a w){x x':AV}{H':List HO}{v:Value}(hf:frz1 s.H x=some (x',H'))(hv:VR (cx k g s.H w) x v):
  Rel k n g ⟨s.fr,s.bx,H'⟩ a w/\ZbA (cx k g s.H w) (cx k g H' w)/\VR (cx k g H' w) x' v/\Za7 x'=true:=by
 unfold frz1 at hf;split at hf
 ·simp only[Zan,Zao]at hf;obtain⟨rfl,rfl⟩:=hf;exact⟨h,ZbA.refl _,hv.weak1,rfl⟩
 ·simp only[Zan,Zao]at hf;obtain⟨rfl,rfl⟩:=hf;exact⟨h,ZbA.refl _,hv,rfl⟩
 ·simp only[Zan,Zao]at hf;obtain⟨rfl,rfl⟩:=hf;exact⟨h,ZbA.refl _,hv,rfl⟩
 ·split at hf
  ·rename_i ha;simp only[Zan,Zao]at hf;obtain⟨rfl,rfl⟩:=hf;exact⟨h,ZbA.refl _,hv,by simpa[Za7]using ha⟩
  cases hf
 ·simp only[Zan,Zao]at hf;obtain⟨rfl,rfl⟩:=hf;exact⟨h,ZbA.refl _,hv,rfl⟩
 ·simp only[Zan,Zao]at hf;obtain⟨rfl,rfl⟩:=hf;exact⟨h,ZbA.refl _,hv,rfl⟩
 ·rename_i sz id ver off len;split at hf
  ·rename_i sz' ver' frz rows hH;split at hf
   ·rename_i h0;obtain⟨rfl,rfl⟩:=h0;cases hs:sub off len rows with
    |none=>simp[hs]at hf
    |some r=>
     simp only[hs,Zam,Zan,Zao]at hf;obtain⟨rfl,rfl⟩:=hf;obtain⟨h1,hl⟩:=h.freeze hH;refine⟨h1,hl,?_,rfl⟩;have h6:=hv;rw[VR]at h6;obtain⟨ver0,frz0,rows0,b,cap,hg,_,rfl,he,h4⟩:=h6;have e0:s.H[id]?=some (HO.arr sz' ver0 frz0 rows0):=hg;rw[hH]at e0;simp only[Zan,HO.arr.injEq]at e0;obtain⟨vs,hρ,_,_,_⟩:=h4 e0.2.1;have hρ1:g.ρ[id]?=some b:=hρ;obtain⟨hm,rfl⟩:=Zj9 hs;have h7:(s.H.set id (.arr sz' ver' true rows))[id]?=some (.arr sz' ver' true rows):=by rw[ZkF _ hH,Zav rfl]
     obtain⟨b',hρ',vs',h5,hh,h2⟩:=h1.heap id _ h7;rw[hρ1]at hρ';cases hρ';rw[VR,PR];refine⟨some ⟨b,off*sz',none⟩,cap,?_,?_,by simp,λhk=>⟨⟨b,off*sz',none⟩,rfl,?_⟩⟩
     ·congr 1;simp;omega
     ·simp;omega
     rw[Zgw];intro i r hi;rw[ZS]at hi;split at hi
     ·rename_i hq;rw[ZK]at hi;obtain⟨c1,c2⟩:=h2 _ r hi;refine⟨c1,?_⟩;rw[ZjQ];intro j x hj;obtain⟨u,h9,h8⟩:=c2 j x hj;have hn:=(List.getElem?_eq_some_iff.1 hj).1;have h3:=(List.getElem?_eq_some_iff.1 hi).1;have eaddr:(((⟨b,off*sz',none⟩:Addr).add (i*sz')).add j)=⟨b,(off+i)*sz'+j,none⟩:=by rw[ZfG,ZgK,Zah];congr 1;omega
      rw[eaddr];refine⟨u,(ZmM h5 _).trans h9,⟨?_,λt e=>?_,λid2 e=>?_⟩,ZsH h8⟩
      ·exact .inr (h1.own id b hρ1)
      ·exact h1.apart t id b e hρ1
      have:id2=id:=h1.inj id2 id b e hρ1;subst this;refine⟨sz',ver',rows,h7,?_⟩;have:(off+i+1)*sz'<=rows.length*sz':=Nat.mul_le_mul_right _ h3;rw[Zah]at this;show(off+i)*sz'+j<_;omega
     cases hi
   cases hf
  cases hf
 cases hf
def Znv:∀(xs:List AV) {s:St} {xs':List AV} {H':List HO} {vs:List Value},Rel k n g s a w->frzC s.H xs=some (xs',H')->noLocL xs=true->VRL (cx k g s.H w) xs vs→
  Rel k n g ⟨s.fr,s.bx,H'⟩ a w/\ZbA (cx k g s.H w) (cx k g H' w)/\VRL (cx k g H' w) xs' vs/\noLocL xs'=true
 |[],s,xs',H',vs,h,hf,_,hv=>by
  simp only[frzC,Zan,Zao]at hf;obtain⟨rfl,rfl⟩:=hf;exact⟨h,ZbA.refl _,hv,rfl⟩
 |x::xs,s,xs',H',vs,h,hf,h0,hv=>by
  simp only[frzC]at hf;cases h1:frz1 s.H x with
  |none=>simp[h1]at hf
  |some p=>
   obtain⟨x',H1⟩:=p;simp only[h1,Zak]at hf;cases h2:frzC H1 xs with
   |none=>simp[h2]at hf
   |some q=>
    obtain⟨xs1,H2⟩:=q;simp only[h2,Zam,Zan,Zao]at hf;obtain⟨rfl,rfl⟩:=hf;rw[VRL]at hv;obtain⟨u,us,rfl,h4,h3⟩:=hv;simp only[noLocL,Za7.noLocL,Ze]at h0;obtain⟨r1,l1,v1,n1⟩:=Zk1 h h1 h4;obtain⟨r2,l2,v2,n2⟩:=Znv xs r1 h2 h0.2 (VRL.later l1 xs us h0.2 h3);refine⟨r2,l1.trans l2,?_,?_⟩
    ·rw[VRL];exact⟨u,us,rfl,VR.later l2 x' u n1 v1,v2⟩
    simp only[noLocL,Za7.noLocL,Ze];exact⟨n1,n2⟩
def Znt (h:Rel k n g s a w){x x':AV}{H':List HO}{v:Value}(hf:frzV s.H x=some (x',H'))(ht:top x=true)(hv:VR (cx k g s.H w) x v):
  Rel k n g ⟨s.fr,s.bx,H'⟩ a w/\ZbA (cx k g s.H w) (cx k g H' w)/\VR (cx k g H' w) x' v/\Za7 x'=true:=by
 unfold frzV at hf;split at hf
 ·rename_i cs;cases h1:frzC s.H cs with
  |none=>simp[h1]at hf
  |some p=>
   obtain⟨cs',H1⟩:=p;simp only[h1,Zam,Zan,Zao]at hf;obtain⟨rfl,rfl⟩:=hf;rw[VR]at hv;obtain⟨vs,rfl,hv⟩:=hv;obtain⟨r1,l1,v1,n1⟩:=Znv cs h h1 (by simpa[top,Za7]using ht) hv;exact⟨r1,l1,by rw[VR];exact⟨vs,rfl,v1⟩,by simpa[Za7]using n1⟩
 exact Zk1 h hf hv
def Znu:∀(xs:List AV) {s:St} {xs':List AV} {H':List HO} {vs:List Value},Rel k n g s a w->frzL s.H xs=some (xs',H')->(∀x∈xs,top x=true)->VRL (cx k g s.H w) xs vs→
  Rel k n g ⟨s.fr,s.bx,H'⟩ a w/\ZbA (cx k g s.H w) (cx k g H' w)/\VRL (cx k g H' w) xs' vs/\noLocL xs'=true
 |[],s,xs',H',vs,h,hf,_,hv=>by
  simp only[frzL,Zan,Zao]at hf;obtain⟨rfl,rfl⟩:=hf;exact⟨h,ZbA.refl _,hv,rfl⟩
 |x::xs,s,xs',H',vs,h,hf,h3,hv=>by
  simp only[frzL]at hf;cases h1:frzV s.H x with
  |none=>simp[h1]at hf
  |some p=>
   obtain⟨x',H1⟩:=p;simp only[h1,Zak]at hf;cases h2:frzL H1 xs with
   |none=>simp[h2]at hf
   |some q=>
    obtain⟨xs1,H2⟩:=q;simp only[h2,Zam,Zan,Zao]at hf;obtain⟨rfl,rfl⟩:=hf;rw[VRL]at hv;obtain⟨u,us,rfl,h5,h0⟩:=hv;obtain⟨r1,l1,v1,n1⟩:=Znt h h1 (h3 x (by simp)) h5;have h4:VRL (cx k g H1 w) xs us:=by
     rw[Zew]at h0⊢;exact⟨h0.1,λj y v hj hv=>ZbP l1 (λ_ _ e=>e) (h3 y (by simp[List.mem_of_getElem? hj])) (h0.2 j y v hj hv)⟩
    obtain⟨r2,l2,v2,n2⟩:=Znu xs r1 h2 (λy hy=>h3 y (by simp[hy])) h4;refine⟨r2,l1.trans l2,?_,?_⟩
    ·rw[VRL];exact⟨u,us,rfl,VR.later l2 x' u n1 v1,v2⟩
    simp only[noLocL,Za7.noLocL,Ze];exact⟨n1,n2⟩
def FrzC.frz {H:List HO}:∀{cs ys:List AV},FrzC H cs ys->frzC H cs=some (ys,H)
 |[],ys,h=>by rw[FrzC]at h;subst h;rfl
 |c::cs,ys,h=>by
  rw[FrzC]at h;obtain⟨x,xs,rfl,h1,h2⟩:=h;simp only[frzC,h1,Zak,h2.frz,Zam]
def FrzQ.frz {H:List HO}{v y:AV}(h:FrzQ H v y):frzV H v=some (y,H):=by
 unfold FrzQ at h;split at h
 ·obtain⟨xs,rfl,h⟩:=h;simp only[frzV,h.frz,Zam]
 rename_i h0;unfold frzV;split
 ·rename_i cs;exact absurd rfl (h0 cs)
 exact h
def FrzL.frz {H:List HO}:∀{cs ys:List AV},FrzL H cs ys->frzL H cs=some (ys,H)
 |[],ys,h=>by rw[FrzL]at h;subst h;rfl
 |c::cs,ys,h=>by
  rw[FrzL]at h;obtain⟨x,xs,rfl,h1,h2⟩:=h;simp only[frzL,h1.frz,Zak,h2.frz,Zam]
def ZtV {H e:List HO}{c x:AV}(h:frz1 H c=some (x,H)):frz1 (H++e) c=some (x,H++e):=by
 unfold frz1 at h⊢;split at h
 ·simp only[Zan,Zao]at h;simp[h.1]
 ·simp only[Zan,Zao]at h;simp[h.1]
 ·simp only[Zan,Zao]at h;simp[h.1]
 ·split at h
  ·rename_i hc;simp only[Zan,Zao]at h;simp[hc,h.1]
  cases h
 ·simp only[Zan,Zao]at h;simp[h.1]
 ·simp only[Zan,Zao]at h;simp[h.1]
 ·rename_i sz id ver off len;split at h
  ·rename_i sz' ver' frz rows hH;have h0:=(List.getElem?_eq_some_iff.1 hH).1;have h1:(H++e)[id]?=some (.arr sz' ver' frz rows):=by rw[ZG h0];exact hH
   simp only[h1];split at h
   ·rename_i hc;rw[Zav hc];cases hs:sub off len rows with
    |none=>simp[hs]at h
    |some r=>
     simp only[hs,Zam,Zan,Zao]at h⊢;exact⟨h.1,by rw[List.set_append_left _ _ h0,h.2]⟩
   cases h
  cases h
 cases h
def FrzC.grow {H e:List HO}:∀{cs ys:List AV},FrzC H cs ys->FrzC (H++e) cs ys
 |[],ys,h=>by rw[FrzC]at h⊢;exact h
 |c::cs,ys,h=>by
  rw[FrzC]at h⊢;obtain⟨x,xs,rfl,h1,h2⟩:=h;exact⟨x,xs,rfl,ZtV h1,h2.grow⟩
def FrzQ.grow {H e:List HO}{v y:AV}(h:FrzQ H v y):FrzQ (H++e) v y:=by
 unfold FrzQ at h⊢;split
 ·obtain⟨xs,rfl,h⟩:=h;exact⟨xs,rfl,h.grow⟩
 rename_i h0;split at h
 ·rename_i cs;exact absurd rfl (h0 cs)
 exact ZtV h
def FrzL.grow {H e:List HO}:∀{cs ys:List AV},FrzL H cs ys->FrzL (H++e) cs ys
 |[],ys,h=>by rw[FrzL]at h⊢;exact h
 |c::cs,ys,h=>by
  rw[FrzL]at h⊢;obtain⟨x,xs,rfl,h1,h2⟩:=h;exact⟨x,xs,rfl,h1.grow,h2.grow⟩
def ZpF (h:Rel k n g s a w){b:Bool}{x x':AV}{H':List HO}{v:Value}(hf:ZpG b s.H x=some (x',H'))(hv:VR (cx k g s.H w) x v):
  Rel k n g ⟨s.fr,s.bx,H'⟩ a w/\ZbA (cx k g s.H w) (cx k g H' w)/\VR (cx k g H' w) x' v/\Za7 x'=true:=by
 unfold ZpG at hf;split at hf
 ·split at hf
  ·rename_i hn;simp only[Zan,Zao]at hf;obtain⟨rfl,rfl⟩:=hf;exact⟨h,ZbA.refl _,hv,hn⟩
  cases hf
 exact Zk1 h hf hv
def ZpE:∀(xs:List AV) {fl:List Bool} {s:St} {xs':List AV} {H':List HO} {vs:List Value},Rel k n g s a w->Zmx fl s.H xs=some (xs',H')->noLocL xs=true->VRL (cx k g s.H w) xs vs→
  Rel k n g ⟨s.fr,s.bx,H'⟩ a w/\ZbA (cx k g s.H w) (cx k g H' w)/\VRL (cx k g H' w) xs' vs/\noLocL xs'=true
 |[],fl,s,xs',H',vs,h,hf,_,hv=>by
  simp only[Zmx,Zan,Zao]at hf;obtain⟨rfl,rfl⟩:=hf;exact⟨h,ZbA.refl _,hv,rfl⟩
 |x::xs,fl,s,xs',H',vs,h,hf,h0,hv=>by
  simp only[Zmx]at hf;cases h1:ZpG (fl.headD false) s.H x with
  |none=>rw[h1]at hf;cases hf
  |some p=>
   obtain⟨x',H1⟩:=p;simp only[h1,Zak]at hf;cases h2:Zmx fl.tail H1 xs with
   |none=>rw[h2]at hf;cases hf
   |some q=>
    obtain⟨xs1,H2⟩:=q;simp only[h2,Zam,Zan,Zao]at hf;obtain⟨rfl,rfl⟩:=hf;rw[VRL]at hv;obtain⟨u,us,rfl,h4,h3⟩:=hv;simp only[noLocL,Za7.noLocL,Ze]at h0;obtain⟨r1,l1,v1,n1⟩:=ZpF h h1 h4;obtain⟨r2,l2,v2,n2⟩:=ZpE xs r1 h2 h0.2 (VRL.later l1 xs us h0.2 h3);refine⟨r2,l1.trans l2,?_,?_⟩
    ·rw[VRL];exact⟨u,us,rfl,VR.later l2 x' u n1 v1,v2⟩
    simp only[noLocL,Za7.noLocL,Ze];exact⟨n1,n2⟩
def Zux (h:Rel k n g s a w){fl:List Bool}{x x':AV}{H':List HO}{v:Value}(hf:ZqT fl s.H x=some (x',H'))(ht:top x=true)(hv:VR (cx k g s.H w) x v):
  Rel k n g ⟨s.fr,s.bx,H'⟩ a w/\ZbA (cx k g s.H w) (cx k g H' w)/\VR (cx k g H' w) x' v/\Za7 x'=true:=by
 unfold ZqT at hf;split at hf
 ·rename_i cs;cases h1:Zmx fl s.H cs with
  |none=>rw[h1]at hf;cases hf
  |some p=>
   obtain⟨cs',H1⟩:=p;simp only[h1,Zam,Zan,Zao]at hf;obtain⟨rfl,rfl⟩:=hf;rw[VR]at hv;obtain⟨vs,rfl,hv⟩:=hv;obtain⟨r1,l1,v1,n1⟩:=ZpE cs h h1 (by simpa[top,Za7]using ht) hv;exact⟨r1,l1,by rw[VR];exact⟨vs,rfl,v1⟩,by simpa[Za7]using n1⟩
 exact ZpF h hf hv
def ZpD:∀(xs:List AV) {fl:List (List Bool)} {s:St} {xs':List AV} {H':List HO} {vs:List Value},Rel k n g s a w->Zni fl s.H xs=some (xs',H')->(∀x∈xs,top x=true)->VRL (cx k g s.H w) xs vs→
  Rel k n g ⟨s.fr,s.bx,H'⟩ a w/\ZbA (cx k g s.H w) (cx k g H' w)/\VRL (cx k g H' w) xs' vs/\noLocL xs'=true
 |[],fl,s,xs',H',vs,h,hf,_,hv=>by
  simp only[Zni,Zan,Zao]at hf;obtain⟨rfl,rfl⟩:=hf;exact⟨h,ZbA.refl _,hv,rfl⟩
 |x::xs,fl,s,xs',H',vs,h,hf,h3,hv=>by
  simp only[Zni]at hf;cases h1:ZqT (fl.headD []) s.H x with
  |none=>rw[h1]at hf;cases hf
  |some p=>
   obtain⟨x',H1⟩:=p;simp only[h1,Zak]at hf;cases h2:Zni fl.tail H1 xs with
   |none=>rw[h2]at hf;cases hf
   |some q=>
    obtain⟨xs1,H2⟩:=q;simp only[h2,Zam,Zan,Zao]at hf;obtain⟨rfl,rfl⟩:=hf;rw[VRL]at hv;obtain⟨u,us,rfl,h5,h0⟩:=hv;obtain⟨r1,l1,v1,n1⟩:=Zux h h1 (h3 x (by simp)) h5;have h4:VRL (cx k g H1 w) xs us:=by
     rw[Zew]at h0⊢;exact⟨h0.1,λj y v hj hv=>ZbP l1 (λ_ _ e=>e) (h3 y (by simp[List.mem_of_getElem? hj])) (h0.2 j y v hj hv)⟩
    obtain⟨r2,l2,v2,n2⟩:=ZpD xs r1 h2 (λy hy=>h3 y (by simp[hy])) h4;refine⟨r2,l1.trans l2,?_,?_⟩
    ·rw[VRL];exact⟨u,us,rfl,VR.later l2 x' u n1 v1,v2⟩
    simp only[noLocL,Za7.noLocL,Ze];exact⟨n1,n2⟩
def Zww (xs:List AV){s:St}{xs':List AV}{H':List HO}{vs:List Value}(h:Rel k n g s a w)(hf:Pass s.H xs xs' H')(ht:∀x∈xs,top x=true)(hv:VRL (cx k g s.H w) xs vs):
  Rel k n g ⟨s.fr,s.bx,H'⟩ a w/\ZbA (cx k g s.H w) (cx k g H' w)/\VRL (cx k g H' w) xs' vs/\noLocL xs'=true:=
 let ⟨_,hf⟩:=hf;ZpD xs h hf ht hv
def Ztw:∀(xs:List AV) (H:List HO),Zmx [] H xs=frzC H xs
 |[],H=>rfl
 |x::xs,H=>by
  have e:ZpG (([]:List Bool).headD false) H x=frz1 H x:=rfl;simp only[Zmx,frzC,e,List.tail_nil];cases frz1 H x with
  |none=>rfl
  |some p=>simp only[Zak,Ztw xs p.2]
def Ztu (x:AV)(H:List HO):ZqT [] H x=frzV H x:=by
 cases x with
 |agg cs=>simp only[ZqT,frzV,Ztw]
 |_=>rfl
def Ztv:∀(xs:List AV) (H:List HO),Zni [] H xs=frzL H xs
 |[],H=>rfl
 |x::xs,H=>by
  simp only[Zni,frzL,List.headD_nil,List.tail_nil,Ztu];cases frzV H x with
  |none=>rfl
  |some p=>simp only[Zak,Ztv xs p.2]
def Pass.frz {xs xs':List AV}{H H':List HO}(h:frzL H xs=some (xs',H')):Pass H xs xs' H':=⟨[],by rw[Ztv];exact h⟩
end
end Go.Eng

namespace Go.Eng
open Go
def FR (r:Option Nat):Fence:={Fence.wide with round:=r}
def ZrA {r:Option Nat}{m:Nat}{P:Program}{f:FuncId}{args:Array Value}{w:World}{R:Ending->World->Prop}(h:Calls P f args w R):CallsIn (FR r) m P f args w R:=(callsIn_wide (n:=m)).2 h
def ZsC {r:Option Nat}{m:Nat}{P:Program}{f:FuncId}{args:Array Value}{w:World}{R:Ending->World->Prop}(h:CallsIn (FR r) m P f args w R):Calls P f args w R:=(callsIn_wide (n:=m)).1 h
def ZwY {r:Option Nat}{m:Nat}{P:Program}{row:String}{args:Array Value}{w:World}{R:Value->World->Prop}(h:Rows P row args w R):RowsIn (FR r) m P row args w R:=
 λc cs _=>let ⟨v,w',h1,h2⟩:=h c cs;⟨v,w',h1,stepsIn_wide.2 h2⟩
def Oper.wpIn_of_wp {P:Program}{o:Oper}{a:Act}{w:World}{K:Act->World->Prop}{Q:Exit->Act->World->Prop}(r:Option Nat)(hd:∀c,o.op≠.defer c)(h:o.wp P a w K Q):o.wpIn (FR r) 0 P a w K Q:=by
 refine⟨λf _=>trivial,?_⟩;rw[Oper.semAt_eq _ _ _ hd];unfold Oper.wp at h;generalize (execOp a.eval o).run P w=x at h⊢;cases x with
 |ok x w'=>
  cases x<;>simp only[Oper.upon,Oper.uponIn]at h⊢<;>first
   |exact h
   |exact⟨λh=>(by cases h),ZrA h⟩
   |exact⟨λh=>(by cases h),ZwY h⟩
   |exact h.elim
 |halt x w'=>cases x<;>simp only[Oper.upon,Oper.uponIn]at h⊢<;>exact h
def Zlc (P:Program)(id:Nat)(args:List AV)(H:List HO)(b:Bool)(H':List HO):Prop:=
 ∀(ok0:Addr->Prop) (ρ:List Nat) (w:World) (vs:List Value) (l:Nat),
  HR (k0 ok0 ρ H w) ρ H w->VRL (cx (k0 ok0 ρ H w) ⟨ρ,noB⟩ H w) args vs->ρ[id]?=some l→
  ∃f tmps assign body,(Instr.yield l vs.toArray).run P w=.ok (.round l f tmps assign body) w∧
   RoundIn (FR none) 0 P l f tmps assign body w λe w'=>∃ρ',e=.returned (.bool b)/\HR (k0 ok0 ρ H w) ρ' H' w'∧
    ZbA (cx (k0 ok0 ρ H w) ⟨ρ,noB⟩ H w) (cx (k0 ok0 ρ H w) ⟨ρ',noB⟩ H' w')
def dOK (n:Nat):Option Nat->Bool
 |some d=>decide (d<n)
 |none=>true
def ZuI (P:Program)(kt:TypeId)(kn:Nat):Bool:=match P.underlying kt with
 |some (.int _)=>decide (kn=0)
 |some (.struct fs)=>decide (kn=fs.size)&&decide (kn≠0)&&decide (kn<100)&&eqOK P kt (fs.toList.map λ_=>true)
 |_=>false
def Zl3 (P:Program)(n:Nat)(o:Oper)(d:Option Nat)(q:SpK)(xs:List IX):Bool:=
 decide (o.dst=d)&&dOK n d&&(match q with
 |.mkMap=>(match o.op with
  |.makeMap t none=>(match P.underlying t with|some (.map _ _)=>true|_=>false)&&decide (xs.length=0)
  |_=>false)
 |.mapGet kn ok zero=>(match o.op with
  |.lookup t m x ok'=>decide (ok=ok')&&(match P.underlying t with|some (.map kt et)=>ZuI P kt kn&&(match P.info? et with|some i=>(match i.zero with|some z=>Znw z zero|none=>false)|none=>false)|_=>false)&&Zbf [m,x] xs
  |_=>false)
 |.mapSet kn=>(match o.op with
  |.mapUpdate t m x v|.insert t m x v=>(match P.underlying t with|some (.map kt _)=>ZuI P kt kn|_=>false)&&Zbf [m,x,v] xs
  |_=>false)
 |.litC=>(match o.op with
  |.buildSlice t len parts=>ZuH P t 1 len parts.toList&&Zbf (parts.toList.map (·.2)) xs
  |_=>false)
 |.mkP m zero bytes=>(match d with
  |some d'=>chkS P n o (.mkSl d' (.k (.p (.int .i64 m))) (.k (.p (.int .i64 m))) zero bytes)
  |none=>false)
 |.mkS zero bytes=>(match d,xs with
  |some d',[x,y]=>decide (zero.length=1)&&chkS P n o (.mkSl d' x y zero bytes)
  |_,_=>false)
 |.pop sz=>(match d,xs with
  |some d',[x,y]=>chkV P n o d' (.slice sz false true false) [x,y]
  |_,_=>false)
 |.litO sz=>(match d with
  |some d'=>chkS P n o (.litSl d' sz xs)
  |none=>false)
 |.appT sz bytes=>(match d,xs with
  |some d',[x,y]=>chkS P n o (.app d' x y sz bytes)
  |_,_=>false)
 |.shut=>(match d,xs with
  |some d',[x]=>chkV P n o d' .mov [x]
  |_,_=>false)
 |.range=>(match o.op with
  |.range t x=>(match P.underlying t with|some (.map _ _)=>true|_=>false)&&Zbf [x] xs
  |_=>false)
 |.next=>(match o.op with
  |.next x str=>!str&&Zbf [x] xs
  |_=>false)
 |.entry=>(match o.op with
  |.entry x=>Zbf [x] xs
  |_=>false))
def ZMn (P:Program)(q:SpK)(ys:List AV)(H:List HO)(v:AV)(H':List HO):Prop:=
 Za7 v=true/\∀(k:K0) (n:Nat) (g:G) (s:St) (a:Act) (w:World) (o:Oper) (d:Option Nat) (xs:List IX),xs.map (ev s.fr)=ys->s.H=H->Rel k n g s a w→
  Zl3 P n o d q xs=true->Did P k n ⟨Eng.putO s.fr d v,s.bx,H'⟩ a w o
def ZaS (P:Program)(i:Ins)(s s':St):Prop:=
 match i with
 |.sp d q xs=>∃v H',ZMn P q (xs.map (ev s.fr)) s.H v H'/\s'=⟨Eng.putO s.fr d v,s.bx,H'⟩
 |.call d f xs=>∃args H1 r H2,Pass s.H (xs.map (ev s.fr)) args H1/\Zcg P f args H1 r H2/\s'=⟨putO s.fr d r,s.bx,H2⟩
 |.callP d f xs=>∃r,Zld P f (weakVs (xs.map (ev s.fr))) r/\s'=⟨put s.fr d r,s.bx,s.H⟩
 |.callQ d f xs=>∃args r,FrzL s.H (xs.map (ev s.fr)) args/\Zld P f args r/\s'=⟨put s.fr d r,s.bx,s.H⟩
 |.callV d fx xs=>∃f first cap args H1 r H2,ev s.fr fx=.fn f first cap/\Pass s.H (first++xs.map (ev s.fr)++cap) args H1/\Zcg P f args H1 r H2/\s'=⟨putO s.fr d r,s.bx,H2⟩
 |.callY d fx xs=>∃id args H1 b H2,ev s.fr fx=.yl id/\frzL s.H (xs.map (ev s.fr))=some (args,H1)/\Zlc P id args H1 b H2/\s'=⟨putO s.fr d (.p (.bool b)),s.bx,H2⟩
 |i=>Zbb i s=some s'
def Zb5 (P:Program)(n:Nat)(o:Oper)(i:Ins):Bool:=
 match i with
 |.val d v xs=>chkV P n o d v xs
 |.loadH d x m b|.loadI d x m b|.loadN d x m b _=>chkM P n o (.load d x m b)
 |.appN d x y z b=>chkS P n o (.app d x y z b)
 |.load .. |.loadL .. |.store .. |.storeH .. |.newL .. |.boxL .. |.newH .. |.boxH .. =>chkM P n o i
 |.mkSl .. |.app .. |.litSl .. |.litP .. =>chkS P n o i
 |.mkC d m zero bytes=>chkS P n o (.mkSl d (.k (.p (.int .i64 m))) (.k (.p (.int .i64 m))) zero bytes)
 |.call d f xs=>decide (o.dst=d)&&dOK n d&&(match o.op with
  |.call {callee:=.value (.func f'),args:=args,argTypes:=_}=>decide (f=f')&&Zbf args.toList xs
  |_=>false)
 |.callP d f xs=>decide (o.dst=some d)&&decide (d<n)&&(match o.op with
  |.call {callee:=.value (.func f'),args:=args,argTypes:=_}=>decide (f=f')&&Zbf args.toList xs
  |_=>false)
 |.callQ d f xs=>decide (o.dst=some d)&&decide (d<n)&&(match o.op with
  |.call {callee:=.value (.func f'),args:=args,argTypes:=_}=>decide (f=f')&&Zbf args.toList xs
  |_=>false)
 |.callV d fx xs=>decide (o.dst=d)&&dOK n d&&(match o.op with
  |.call {callee:=.value X,args:=args,argTypes:=_}=>ZeW X fx&&Zbf args.toList xs
  |_=>false)
 |.callY d fx xs=>decide (o.dst=d)&&dOK n d&&(match o.op with
  |.call {callee:=.value X,args:=args,argTypes:=_}=>ZeW X fx&&Zbf args.toList xs
  |_=>false)
 |.sp d q xs=>Zl3 P n o d q xs
section
variable {P:Program} {k:K0} {n:Nat} {g:G} {s:St} {a:Act} {w:World}
def Zgo {f:Nat}(h:ZvF P f)(args:Array Value):(callFunc f args).run P w=.ok (.enter f args) w:=by
 obtain⟨fn,h1,h2,h3⟩:=h;obtain⟨c,h2⟩:=Option.isSome_iff_exists.1 h2;unfold callFunc;simp only[Sem.run_bind,run_program,Result.andThen_ok,h1,h3,Zg,Zat,h2,Option.isNone_some,Sem.run_pure]
def Rel.putO (h:Rel k n g s a w){d:Option Nat}(hd:dOK n d=true){r:AV}{u:Value}(hr:VR (cx k g s.H w) r u)(ht:top r=true):
  Rel k n g ⟨Eng.putO s.fr d r,s.bx,s.H⟩ (a.put d u) w:=by
 cases d with
 |none=>exact h
 |some d=>exact h.put (by simpa[dOK]using hd) hr ht
def Zk2 {o:Oper}{i:Ins}(h:Zb5 P n o i=true):o.dst=dstI i/\dOK n (dstI i)=true:=by
 cases i with
 |val d v xs=>simp only[Zb5,chkV,Ze,Zas]at h;exact⟨h.1.1,by simpa[dstI,dOK]using h.1.2⟩
 |load d x m b=>simp only[Zb5,chkM,Ze,Zas]at h;exact⟨h.1.1,by simpa[dstI,dOK]using h.1.2⟩
 |loadL d x m b=>simp only[Zb5,chkM,Ze,Zas]at h;exact⟨h.1.1,by simpa[dstI,dOK]using h.1.2⟩
 |loadH d x m b=>simp only[Zb5,chkM,Ze,Zas]at h;exact⟨h.1.1,by simpa[dstI,dOK]using h.1.2⟩
 |loadI d x m b=>simp only[Zb5,chkM,Ze,Zas]at h;exact⟨h.1.1,by simpa[dstI,dOK]using h.1.2⟩
 |loadN d x m b zs=>simp only[Zb5,chkM,Ze,Zas]at h;exact⟨h.1.1,by simpa[dstI,dOK]using h.1.2⟩
 |appN d x y z b=>simp only[Zb5,chkS,Ze,Zas]at h;exact⟨h.1.1,by simpa[dstI,dOK]using h.1.2⟩
 |store x y m=>simp only[Zb5,chkM,Ze,Zas]at h;exact⟨h.1,rfl⟩
 |storeH x y m=>simp only[Zb5,chkM,Ze,Zas]at h;exact⟨h.1,rfl⟩
 |newL d z=>simp only[Zb5,chkM,Ze,Zas]at h;exact⟨h.1.1,by simpa[dstI,dOK]using h.1.2⟩
 |boxL d z=>simp only[Zb5,chkM,Ze,Zas]at h;exact⟨h.1.1,by simpa[dstI,dOK]using h.1.2⟩
 |newH d z=>simp only[Zb5,chkM,Ze,Zas]at h;exact⟨h.1.1,by simpa[dstI,dOK]using h.1.2⟩
 |boxH d z=>simp only[Zb5,chkM,Ze,Zas]at h;exact⟨h.1.1,by simpa[dstI,dOK]using h.1.2⟩
 |mkSl d x y z b=>simp only[Zb5,chkS,Ze,Zas]at h;exact⟨h.1.1,by simpa[dstI,dOK]using h.1.2⟩
 |app d x y z b=>simp only[Zb5,chkS,Ze,Zas]at h;exact⟨h.1.1,by simpa[dstI,dOK]using h.1.2⟩
 |litSl d z xs=>simp only[Zb5,chkS,Ze,Zas]at h;exact⟨h.1.1,by simpa[dstI,dOK]using h.1.2⟩
 |mkC d m z b=>simp only[Zb5,chkS,Ze,Zas]at h;exact⟨h.1.1,by simpa[dstI,dOK]using h.1.2⟩
 |litP d z xs=>simp only[Zb5,chkS,Ze,Zas]at h;exact⟨h.1.1,by simpa[dstI,dOK]using h.1.2⟩
 |call d f xs=>simp only[Zb5,Ze,Zas]at h;exact⟨h.1.1,h.1.2⟩
 |callP d f xs=>simp only[Zb5,Ze,Zas]at h;exact⟨h.1.1,by simpa[dstI,dOK]using h.1.2⟩
 |callQ d f xs=>simp only[Zb5,Ze,Zas]at h;exact⟨h.1.1,by simpa[dstI,dOK]using h.1.2⟩
 |callV d f xs=>simp only[Zb5,Ze,Zas]at h;exact⟨h.1.1,h.1.2⟩
 |callY d f xs=>simp only[Zb5,Ze,Zas]at h;exact⟨h.1.1,h.1.2⟩
 |sp d q xs=>simp only[Zb5,Zl3,Ze,Zas]at h;exact⟨h.1.1,h.1.2⟩
def Did.wp {s':St}{o:Oper}(h:Did P k n s' a w o){K:Act->World->Prop}{Q:Exit->Act->World->Prop}(hK:∀g' a' w',Rel k n g' s' a' w'->K a' w'):o.wp P a w K Q:=by
 obtain⟨u,w',g',h1|⟨h1,rfl⟩,h2⟩:=h
 ·unfold Oper.wp;rw[h1];exact hK _ _ _ h2
 unfold Oper.wp;rw[h1];exact hK _ _ _ h2
def ZuN (h:Rel k n g s a w){o:Oper}{d:Option Nat}{f:Nat}{xs args:List AV}{vs:List Value}{H1 H2:List HO}{r:AV}(hd:o.dst=d)(hn:dOK n d=true)(hf:Pass s.H xs args H1)(ht:∀x∈xs,top x=true)(hv:VRL (cx k g s.H w) xs vs)
  (hc:Zcg P f args H1 r H2) (h0:(execOp a.eval o).run P w=.ok (.enter f vs.toArray) w) {K:Act->World->Prop} {Q:Exit->Act->World->Prop}
  (hK:∀g' a' w',Rel k n g' ⟨Eng.putO s.fr d r,s.bx,H2⟩ a' w'->K a' w'):o.wp P a w K Q:=by
 obtain⟨r1,l1,v1,n1⟩:=Zww xs h hf ht hv;unfold Oper.wp;rw[h0];refine r1.call hc v1 n1 ?_;intro g' v w' h2 h3;rw[hd];exact hK _ _ _ (h2.putO hn h3 (Za1 hc.2.1))
def Zwb {d:Nat}{x:IX}{m:Nat}{b:Bool}{s':St}(hs:Zbb (.loadH d x m b) s=some s'):Zbb (.load d x m b) s=some s':=by
 simp only[Zbb]at hs⊢;split at hs
 ·cases hs
 rename_i hl;have:rd s.bx s.H m (ev s.fr x)=rd [] s.H m (ev s.fr x):=by
  cases he:ev s.fr x with
  |loc t o=>rw[he]at hl;simp[ZqY]at hl
  |_=>rfl
 rw[this];exact hs
def Zwa {d:Nat}{x:IX}{m:Nat}{b:Bool}{s':St}(hs:Zbb (.loadI d x m b) s=some s'):Zbb (.load d x m b) s=some s':=by
 simp only[Zbb]at hs⊢;split at hs
 ·rename_i sz rows i off he;rw[he];exact hs
 cases hs
def Zv8 {d:Nat}{x:IX}{m:Nat}{b:Bool}{zs:List IX}{s':St}(hs:Zbb (.loadN d x m b zs) s=some s'):Zbb (.load d x m b) s=some s':=by
 simp only[Zbb]at hs⊢;split at hs
 ·rename_i id off hx;split at hs
  ·rw[hx];exact hs
  cases hs
 cases hs
def Zy5 {d:Nat}{x y:IX}{z b:Nat}{s':St}(hs:Zbb (.appN d x y z b) s=some s'):Zbb (.app d x y z b) s=some s':=by
 simp only[Zbb]at hs⊢;split at hs
 ·rename_i a b' hx;rw[hx];exact hs
 cases hs
def step_sound' (h:Rel k n g s a w){o:Oper}{i:Ins}(hn:∀d fx xs,i≠.callY d fx xs)(hc:Zb5 P n o i=true){s':St}(hs:ZaS P i s s'){K:Act->World->Prop}{Q:Exit->Act->World->Prop}
  (hK:∀g' a' w',Rel k n g' s' a' w'->K a' w'):o.wp P a w K Q:=by
 have h5:=Zk2 hc;cases i with
 |val d v xs=>
  simp only[ZaS,Zbb]at hs;cases hv:Zbc v (xs.map (ev s.fr))with
  |none=>simp[hv]at hs
  |some r=>
   simp only[hv,Zam,Zan]at hs;subst hs;obtain⟨u,h1,h2,h3⟩:=ZAO h (by simpa[Zb5]using hc) hv;refine Did.wp (k:=k) (n:=n) ⟨u,w,g,.inl h1,?_⟩ hK;rw[h5.1];exact h.put (by simpa[dstI,dOK]using h5.2) h2 h3
 |load d x m b=>exact(ZiO h hc hs).wp hK
 |loadL d x m b=>exact(ZuF h hc hs).wp hK
 |loadH d x m b=>exact(ZiO h (by simpa[Zb5]using hc) (Zwb hs)).wp hK
 |loadI d x m b=>exact(ZiO h (by simpa[Zb5]using hc) (Zwa hs)).wp hK
 |loadN d x m b zs=>exact(ZiO h (by simpa[Zb5]using hc) (Zv8 hs)).wp hK
 |appN d x y z b=>exact(Zt6 h (by simpa[Zb5]using hc) (Zy5 hs)).wp hK
 |store x y m=>exact(Zo2 h hc hs).wp hK
 |storeH x y m=>
  have hk:Zbb (.store x y m) s=some s':=by
   simp only[ZaS,Zbb]at hs⊢;split at hs
   ·rename_i h8;rw[Zav h8.2];exact hs
   cases hs
  exact(Zo2 h (by simpa[Zb5,chkM]using hc) hk).wp hK
 |newL d z=>exact(Zv1 h hc hs).wp hK
 |boxL d z=>exact(Zwo h hc hs).wp hK
 |newH d z=>exact(Zv2 h hc hs).wp hK
 |boxH d z=>exact(Zwp h hc hs).wp hK
 |mkSl d x y z b=>exact(Zv4 h hc hs).wp hK
 |app d x y z b=>exact(Zt6 h hc hs).wp hK
 |litSl d z xs=>exact(ZuG h hc hs).wp hK
 |litP d z xs=>exact(Zwc h hc hs).wp hK
 |mkC d m z b=>exact(Zw9 h hc hs).wp hK
 |sp d q xs=>
  simp only[ZaS]at hs;obtain⟨v,H',h1,rfl⟩:=hs;exact(h1.2 k n g s a w o d xs rfl rfl h hc).wp hK
 |call d f xs=>
  simp only[ZaS]at hs;obtain⟨args,H1,r,H2,h1,h2,rfl⟩:=hs;simp only[Zb5,Ze]at hc;obtain⟨_,hc⟩:=hc;split at hc
  ·rename_i f' args' ts h6;simp only[Ze,Zas]at hc;obtain⟨rfl,hm⟩:=hc;refine ZuN h h5.1 h5.2 h1 (Zco h hm) (Za5 h hm) h2 ?_ hK;simp only[execOp,h6,resolve,Act.eval,Deferred.ofValue,Sem.run_bind,Sem.run_pure,Result.andThen_ok,invoke];rw[Zgo h2.1]
   congr 2
   apply Array.ext';simp
  cases hc
 |callP d f xs=>
  simp only[ZaS]at hs;obtain⟨r,h2,rfl⟩:=hs;simp only[Zb5,Ze]at hc;obtain⟨_,hc⟩:=hc;split at hc
  ·rename_i f' args' ts h6;simp only[Ze,Zas]at hc;obtain⟨rfl,hm⟩:=hc;have h7:=h2.frame s.H;have hv:=Za5 h hm;unfold Oper.wp;have he:(execOp a.eval o).run P w=.ok (.enter f (args'.toList.map a.eval).toArray) w:=by
    simp only[execOp,h6,resolve,Act.eval,Deferred.ofValue,Sem.run_bind,Sem.run_pure,Result.andThen_ok,invoke];rw[Zgo h7.1]
    congr 2
    apply Array.ext';simp
   rw[he];refine h.call h7 hv.weakVs (Zgi h2.2.1) ?_;intro g' v w' h3 h4;rw[h5.1];exact hK _ _ _ (h3.put (by simpa[dstI,dOK]using h5.2) h4 (Za1 h7.2.1))
  cases hc
 |callQ d f xs=>
  simp only[ZaS]at hs;obtain⟨args,r,h1,h2,rfl⟩:=hs;simp only[Zb5,Ze]at hc;obtain⟨_,hc⟩:=hc;split at hc
  ·rename_i f' args' ts h6;simp only[Ze,Zas]at hc;obtain⟨rfl,hm⟩:=hc;have h7:=h2.frame s.H;refine ZuN (d:=some d) h h5.1 h5.2 (.frz h1.frz) (Zco h hm) (Za5 h hm) h7 ?_ hK;simp only[execOp,h6,resolve,Act.eval,Deferred.ofValue,Sem.run_bind,Sem.run_pure,Result.andThen_ok,invoke];rw[Zgo h7.1]
   congr 2
   apply Array.ext';simp
  cases hc
 |callV d fx xs=>
  simp only[ZaS]at hs;obtain⟨f,first,cap,args,H1,r,H2,h0,h1,h2,rfl⟩:=hs;simp only[Zb5,Ze]at hc;obtain⟨_,hc⟩:=hc;split at hc
  ·rename_i X args' ts h6;simp only[Ze]at hc;obtain⟨hg,hm⟩:=hc;have ha:=Zcs h hg;have h9:=Zno h hg;rw[h0]at ha h9;rw[VR]at ha;obtain⟨us1,us2,e,hj,hh⟩:=ha;simp only[top,Za7,Ze]at h9;have hf:VRL (cx k g s.H w) (first++xs.map (ev s.fr)++cap) (us1++args'.toList.map a.eval++us2):=ZiU (ZiU hj (Za5 h hm)) hh;refine ZuN h h5.1 h5.2 h1 ?_ hf h2 ?_ hK
   ·intro y hy;simp only[List.mem_append]at hy;rcases hy with(hy|hy)|hy
    ·exact Za1 (ZcA.1 h9.1 y hy)
    ·exact Zco h hm y hy
    exact Za1 (ZcA.1 h9.2 y hy)
   simp only[execOp,h6,resolve,e,Deferred.ofValue,Sem.run_bind,Sem.run_pure,Result.andThen_ok,invoke];rw[Zgo h2.1]
   congr 2
   apply Array.ext';simp
  cases hc
 |callY d fx xs=>exact absurd rfl (hn d fx xs)
def ZxW (h:Rel k n g s a w){o:Oper}{d:Option Nat}{fx:IX}{xs:List IX}(hc:Zb5 P n o (.callY d fx xs)=true){s':St}(hs:ZaS P (.callY d fx xs) s s')(r:Option Nat){K:Act->World->Prop}{Q:Exit->Act->World->Prop}
  (hK:∀g' a' w',Rel k n g' s' a' w'->K a' w'):o.wpIn (FR r) 0 P a w K Q:=by
 have h5:=Zk2 hc;simp only[ZaS]at hs;obtain⟨id,args,H1,b,H2,h0,h1,h2,rfl⟩:=hs;simp only[Zb5,Ze]at hc;obtain⟨_,hc⟩:=hc;split at hc
 ·rename_i X args' ts h8;simp only[Ze]at hc;obtain⟨h9,hm⟩:=hc;have h6:=Zcs h h9;rw[h0]at h6;obtain⟨r1,l1,v1,n1⟩:=Znu _ h h1 (Zco h hm) (Za5 h hm);have h4:=VR.later l1 _ _ rfl h6;rw[VR]at h6 h4;obtain⟨L,fr,st,l,_,hρ,e⟩:=h4;refine⟨λ_ _=>trivial,?_⟩;rw[Oper.semAt_eq _ _ _ (λc e=>by rw[h8]at e;cases e)];obtain⟨f,tmps,assign,body,hy,h3⟩:=h2 (okOf k H1 g) g.ρ w _ l r1.hr (VRL.later r1.laterCall args _ n1 v1) hρ;have h7:(execOp a.eval o).run P w=.ok (.round l f tmps assign body) w:=by
   simp only[execOp,h8,resolve,e,Deferred.ofValue,Sem.run_bind,Sem.run_pure,Result.andThen_ok,invoke];rw[←hy]
   congr 2
   apply Array.ext';simp
  rw[h7];refine⟨λh=>(by cases h),?_⟩;refine RoundIn.mono (F:=FR r) (n:=0) (show RoundIn (FR r) 0 P l f tmps assign body w _ from h3) ?_;rintro e w' ⟨ρ',rfl,g1,g2⟩;obtain⟨g3,g4⟩:=r1.back g1 g2;rw[h5.1];exact hK _ _ _ (g3.putO h5.2 (by rw[VR,PR]) rfl)
 cases hc
def Zq5 (h:Rel k n g s a w){o:Oper}{i:Ins}(hd:∀c,o.op≠.defer c)(hc:Zb5 P n o i=true){s':St}(hs:ZaS P i s s')(r:Option Nat){K:Act->World->Prop}{Q:Exit->Act->World->Prop}
  (hK:∀g' a' w',Rel k n g' s' a' w'->K a' w'):o.wpIn (FR r) 0 P a w K Q:=by
 cases i with
 |callY d fx xs=>exact ZxW h hc hs r hK
 |_=>exact Oper.wpIn_of_wp r hd (step_sound' h (λ_ _ _ e=>by cases e) hc hs hK)
end
def Zvc:Op->Bool
 |.defer _=>false
 |_=>true
def ZpN {x:Op}(h:Zvc x=true):∀c,x≠.defer c:=by
 rintro c rfl;cases h
def ZvH (P:Program)(o:IOp)(s s':St):Prop:=bnOK o s.fr=true/\ZaS P o.i s s'
def AOp (P:Program)(o:IOp)(s s':St):Prop:=
 match o.g with
 |none=>ZvH P o s s'
 |some (t,want)=>match get s.fr t with
  |.p (.bool b)=>if b=want then ZvH P o s s' else s'=⟨putO s.fr (dstI o.i) (.nl .unit),s.bx,s.H⟩
  |.nl .unit=>s'=⟨putO s.fr (dstI o.i) (.nl .unit),s.bx,s.H⟩
  |_=>False
def ZuK (ops:Array Oper):Option (Nat×Bool)->Option (Nat×Bool)->Bool
 |none,none=>true
 |some (j,b),some (t,b')=>decide (((ops[j]?).bind (·.dst))=some t)&&decide (b=b')
 |_,_=>false
def Zt2 (P:Program)(n:Nat)(ops:Array Oper)(o:Oper)(io:IOp):Bool:=ZuK ops o.guard io.g&&Zb5 P n o io.i&&Zvc o.op
def ZdE (P:Program)(n:Nat)(ops:Array Oper):List Oper->List IOp->Bool
 |[],[]=>true
 |o::os,io::ios=>Zt2 P n ops o io&&ZdE P n ops os ios
 |_,_=>false
def Zbn (P:Program):List IOp->St->St->Prop
 |[],s,s'=>s'=s
 |o::os,s,s'=>∃s1,AOp P o s s1/\Zbn P os s1 s'
section
variable {P:Program} {k:K0} {n:Nat} {g:G} {s:St} {a:Act} {w:World} {ops:Array Oper}
def Zse (h:Rel k n g s a w){i:Nat}{o:Oper}{io:IOp}(hi:ops[i]?=some o)(hc:Zt2 P n ops o io=true){s':St}(hs:AOp P io s s')(r:Option Nat){K:Act->World->Prop}{Q:Exit->Act->World->Prop}
  (hK:∀g' a' w',Rel k n g' s' a' w'->K a' w'):wpOpIn (FR r) 0 P ops Q i K a w:=by
 simp only[Zt2,Ze]at hc;obtain⟨⟨hg,hc⟩,h6⟩:=hc;have h6:=ZpN h6;unfold wpOpIn;rw[hi];simp only;unfold AOp at hs;unfold ZuK at hg;split at hg
 ·rename_i h5 h7;rw[h7]at hs;simp only at hs;rw[Zav (by simp[Region.wanted,h5])];exact Zq5 h h6 hc hs.2 r hK
 ·rename_i j b t b' h5 h7;rw[h7]at hs;simp only at hs;simp only[Ze,Zas]at hg;obtain⟨hj,rfl⟩:=hg;split at hs
  ·rename_i bv h4;have h0:=h.slots t;rw[h4]at h0;have h3:=ZnA h0;have h8:t<a.tmps.size:=by
    rcases Nat.lt_or_ge t a.tmps.size with h1|h1
    ·exact h1
    simp[Array.getD,Nat.not_lt.2 h1,undef]at h3
   have hy:yielded ops a.tmps j=some bv:=by
    unfold yielded;rw[hj];have:a.tmps[t]?=some (.bool bv):=by
     rw[Za,Zb h8]at h3;rw[Zb h8];simpa using h3
    simp[this]
   have hw:Region.wanted o (yielded ops a.tmps)=(bv==b):=by
    simp[Region.wanted,h5,hy]
   rw[hw];by_cases hb:bv=b
   ·rw[Zav (by simp[hb])];rw[Zav hb]at hs;exact Zq5 h h6 hc hs.2 r hK
   rw[Zau (by simp[hb])];rw[Zau hb]at hs;subst hs;have h2:=Zk2 hc;rw[h2.1];exact⟨λ_ _=>trivial,hK g _ _ (h.putO h2.2 (by rw[VR];rfl) rfl)⟩
  ·rename_i h4;have h0:=h.slots t;rw[h4,VR]at h0;have hy:yielded ops a.tmps j=none:=by
    unfold yielded;rw[hj];simp only[Zak];rw[Za]at h0;cases ht:a.tmps[t]? with
    |none=>rfl
    |some v=>rw[ht]at h0;simp only[Zal]at h0;rw[h0];rfl
   have hw:Region.wanted o (yielded ops a.tmps)=false:=by
    simp[Region.wanted,h5,hy]
   rw[hw,Zau (by simp)];subst hs;have h2:=Zk2 hc;rw[h2.1];exact⟨λ_ _=>trivial,hK g _ _ (h.putO h2.2 (by rw[VR];rfl) rfl)⟩
  exact hs.elim
 cases hg
def Zrz:∀{os:List Oper} {ios:List IOp},ZdE P n ops os ios=true->os.length=ios.length/\∀(i:Nat) o io,os[i]?=some o->ios[i]?=some io->Zt2 P n ops o io=true
 |[],[],_=>⟨rfl,by simp⟩
 |o::os,io::ios,h=>by
  simp only[ZdE,Ze]at h;obtain⟨h1,h2⟩:=Zrz h.2;refine⟨by simp[h1],λi o' io' hi h0=>?_⟩;cases i with
  |zero=>simp at hi h0;subst hi h0;exact h.1
  |succ i=>exact h2 i o' io' (by simpa using hi) (by simpa using h0)
 |[],_::_,h=>by simp[ZdE]at h
 |_::_,[],h=>by simp[ZdE]at h
def ZpH {r:Option Nat}{Q:Exit->Act->World->Prop}:∀(os:List Oper) (ios:List IOp) (st:Nat) {g:G} {s s':St} {a:Act} {w:World},(∀j,os[j]?=ops[st+j]?)->ZdE P n ops os ios=true->Rel k n g s a w->Zbn P ios s s'→
  (∀g' a' w',Rel k n g' s' a' w'->Q .normal a' w')->wpOpsIn (FR r) 0 P ops Q (List.range' st os.length) a w
 |[],[],st,g,s,s',a,w,_,_,h,hp,hQ=>by
  simp only[Zbn]at hp;subst hp;simpa[wpOpsIn]using hQ g a w h
 |o::os,io::ios,st,g,s,s',a,w,h4,hc,h,hp,hQ=>by
  simp only[Zbn]at hp;obtain⟨s1,h1,h2⟩:=hp;simp only[ZdE,Ze]at hc;have h0:=h4 0;simp only[ZJ,Zai]at h0;simp only[ZW,Z8];rw[wpOpsIn_cons];refine Zse h h0.symm hc.1 h1 r (λg' a' w' h3=>?_);exact ZpH os ios (st+1) (λj=>by have:=h4 (j+1);simpa[Zag,Nat.add_comm 1 j]using this) hc.2 h3 h2 hQ
 |[],_::_,_,_,_,_,_,_,_,hc,_,_,_=>by simp[ZdE]at hc
 |_::_,[],_,_,_,_,_,_,_,hc,_,_,_=>by simp[ZdE]at hc
def Ztd (h:Rel k n g s a w){id:Nat}{ios:List IOp}(hc:ZdE P n ops ops.toList ios=true){s':St}(hp:Zbn P ios s s')(r:Option Nat){Q:Exit->Act->World->Prop}
  (hQ:∀g' a' w',Rel k n g' s' a' w'->Q .normal a' w'):(Code.region id ops false).wpIn (FR r) 0 P Q a w:=by
 refine wpIn_region ?_;have:=ZpH (r:=r) (Q:=Q) ops.toList ios 0 (by simp) hc h hp hQ
 rwa [Zd,←Z9]at this
end
end Go.Eng

