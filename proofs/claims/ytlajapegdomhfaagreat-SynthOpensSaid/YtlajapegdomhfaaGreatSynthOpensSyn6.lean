/-Part of the proof. -/
import Derived.Test.YtlajapegdomhfaaGreatSynthOpensPlm2
import Derived.Test.YtlajapegdomhfaaGreatSynthOpensRd
set_option linter.all false
namespace Go.Sh
open Go Go.Eng
def ZzP {α:Type}{l:List α}(h:l≠[]):∃a e,l=a++[e]:=⟨l.dropLast,l.getLast h,(List.dropLast_concat_getLast h).symm⟩
def ZxM (G:Int)(a:List ZaL)(e:ZaL)(m:Int):addE G (a++[e]) m=if e.Mask=m then a++[⟨e.Mask,e.Long+G⟩]else a++[e]++[⟨m,G⟩]:=by
 have h:ZfT (a++[e])=e:=by simp[ZfT]
 unfold addE;rw[h];by_cases c:e.Mask=m
 ·rw[Zav ⟨by simp,c⟩,Zav c];simp
 rw[Zau λh=>c h.2,Zau c]
def atM (l:List ZaL)(r m:Int):Prop:=∃i e s,l[i]?=some e/\0<=s/\s<e.Long/\r=sumL (l.take i)+s/\e.Mask=m
def ZxH {l:List ZaL}{r m:Int}(h:atM l r m)(x:List ZaL):atM (l++x) r m:=by
 obtain⟨i,e,s,h1,h2,h3,h4,h5⟩:=h;have hi:i<l.length:=by
  rcases Nat.lt_or_ge i l.length with c|c
  ·exact c
  rw[ZM c]at h1;cases h1
 exact⟨i,e,s,by rw[ZG hi];exact h1,h2,h3,by rw[Zac (by omega)];exact h4,h5⟩
def ZoK {l:List ZaL}{e:ZaL}{s:Int}(h0:0<=s)(h1:s<e.Long):atM (l++[e]) (sumL l+s) e.Mask:=
 ⟨l.length,e,s,by simp,h0,h1,by rw[List.take_left],rfl⟩
def Zy3 {l:List ZaL}{e e':ZaL}(hm:e'.Mask=e.Mask)(hl:e.Long<=e'.Long){r m:Int}(h:atM (l++[e]) r m):atM (l++[e']) r m:=by
 obtain⟨i,f,s,h1,h2,h3,h4,h5⟩:=h;rcases Nat.lt_trichotomy i l.length with c|c|c
 ·rw[ZG c]at h1;rw[Zac (by omega)]at h4;exact ZxH ⟨i,f,s,h1,h2,h3,h4,h5⟩ [e']
 ·subst c;simp only[List.getElem?_concat_length,Zan]at h1;subst h1;rw[List.take_left]at h4;have:=ZoK (l:=l) (e:=e') h2 (by omega)
  rwa [←h4,hm,h5]at this
 rw[ZM (by simp;omega)]at h1;cases h1
def Zi1 (e:ZaL):sumL [e]=e.Long:=by simp[sumL]
structure Runs (G:Int) (F:Nat->Bool) (k:Nat) (l:List ZaL):Prop where
 sum:sumL l=(k:Int)*G
 ok:∀e∈l,(e.Mask=127∨e.Mask=128)/\1<=e.Long
 at_:∀r:Int,0<=r->r<(k:Int)*G->atM l r (ZfR (F (r/G).toNat))
 last:∀a e,l=a++[e]->e.Mask=ZfR (F (k-1))
 ne:0<k->l≠[]
 cnt:l.length<=(List.range k).countP λi=>decide (i=0)||F i !=F (i-1)
def ZtI (b:Bool):ZfR b=127∨ZfR b=128:=by cases b<;>simp[ZfR]
def Runs.step {G:Int}(hG:1<=G){F:Nat->Bool}{k:Nat}{l:List ZaL}(h:Runs G F k l):Runs G F (k+1) (addE G l (ZfR (F k))):=by
 have hk:((k+1:Nat):Int)*G=(k:Int)*G+G:=by rw[show((k+1:Nat):Int)=(k:Int)+1 by omega,Zl,Int.one_mul]
 have h3:∀r:Int,(k:Int)*G<=r->r<(k:Int)*G+G->(r/G).toNat=k:=λr h1 h2=>by
  rw[ZmH (q:=(k:Int)) (by omega) h1 h2];omega
 have h4:(List.range (k+1)).countP (λi=>decide (i=0)||F i !=F (i-1))=(List.range k).countP (λi=>decide (i=0)||F i !=F (i-1))+(if(decide (k=0)||F k !=F (k-1))=true then 1 else 0):=ZhG k _;by_cases hn:l=[]
 ·subst hn;have h0:k=0:=by
   rcases Nat.eq_zero_or_pos k with c|c
   ·exact c
   exact absurd rfl (h.ne c)
  subst h0;have e:addE G [] (ZfR (F 0))=[⟨ZfR (F 0),G⟩]:=by simp[addE]
  rw[e];refine⟨by rw[Zi1,hk];show G=_;simp,λx hx=>?_,λr r0 r1=>?_,λa x hx=>?_,λ_=>by simp,by rw[h4];simp⟩
  ·rw[List.mem_singleton.1 hx];exact⟨ZtI _,hG⟩
  ·have hd:=h3 r (by omega) (by omega);rw[hd];have:=ZoK (l:=[]) (e:=⟨ZfR (F 0),G⟩) r0 (by simp only;omega);simpa[sumL]using this
  have:=congrArg List.getLast? hx;simp at this;rw[←this]
 obtain⟨a,e,rfl⟩:=ZzP hn;have h5:=h.last a e rfl;have h6:=h.sum;rw[Zeg,Zi1]at h6;have h7:=h.ok e (by simp);have k0:0<k:=by
  rcases Nat.eq_zero_or_pos k with c|c
  ·subst c;have hc:=h.cnt;simp at hc
  exact c
 rw[ZxM];by_cases c:e.Mask=ZfR (F k)
 ·rw[Zav c];refine⟨by rw[Zeg,Zi1,hk];simp only;omega,λx hx=>?_,λr r0 r1=>?_,λa' x hx=>?_,λ_=>by simp,?_⟩
  ·rcases List.mem_append.1 hx with hx|hx
   ·exact h.ok x (List.mem_append_left _ hx)
   rw[List.mem_singleton.1 hx];exact⟨h7.1,by simp only;omega⟩
  ·by_cases d:r<(k:Int)*G
   ·exact Zy3 (e:=e) (e':=⟨e.Mask,e.Long+G⟩) rfl (show e.Long<=e.Long+G by omega) (h.at_ r r0 d)
   rw[h3 r (by omega) (by omega)];have:=ZoK (l:=a) (e:=⟨e.Mask,e.Long+G⟩) (s:=r-sumL a) (by omega) (by simp only;omega);rw[show sumL a+(r-sumL a)=r by omega]at this;simp only[c]at this⊢;exact this
  ·obtain⟨_,rfl⟩:=List.append_singleton_inj.1 hx;exact c
  have:=h.cnt;rw[h4];simp only[ZV,Z0]at this⊢;omega
 rw[Zau c];refine⟨by rw[Zeg,Zeg,Zi1,Zi1,hk];simp only;omega,λx hx=>?_,λr r0 r1=>?_,λa' x hx=>?_,λ_=>by simp,?_⟩
 ·rcases List.mem_append.1 hx with hx|hx
  ·exact h.ok x hx
  rw[List.mem_singleton.1 hx];exact⟨ZtI _,hG⟩
 ·by_cases d:r<(k:Int)*G
  ·exact ZxH (h.at_ r r0 d) _
  rw[h3 r (by omega) (by omega)];have:=ZoK (l:=a++[e]) (e:=⟨ZfR (F k),G⟩) (s:=r-sumL (a++[e])) (by rw[Zeg,Zi1];omega) (by rw[Zeg,Zi1];simp only;omega)
  rwa [show sumL (a++[e])+(r-sumL (a++[e]))=r by omega]at this
 ·obtain⟨_,rfl⟩:=List.append_singleton_inj.1 hx;rfl
 have hc:=h.cnt;have h8:(decide (k=0)||F k !=F (k-1))=true:=by
  rw[h5]at c;have:F k≠F (k-1):=λhh=>c (by rw[hh])
  simp[this]
 rw[h4,Zav h8];simp only[ZV,Z0]at hc⊢;omega
def Zs4 {G:Int}(hG:1<=G)(F:Nat->Bool):∀k,Runs G F k (Zqr G ((List.range k).map F))
 |0=>⟨by simp[Zqr,sumL],by simp[Zqr],λr h0 h1=>by simp at h1;omega,by simp[Zqr],by simp,by simp[Zqr]⟩
 |k+1=>by
  have:=(Zs4 hG F k).step hG;unfold Zqr at this⊢;rw[Zaa,Z2,ZD];exact this
def ZmI {n:Nat}{q:Nat->Bool}(h:∀i j,i<n->j<n->q i=true->q j=true->i=j):(List.range n).countP q<=1:=by
 rcases Nat.lt_or_ge 1 ((List.range n).countP q)with c|c
 ·obtain⟨k,m,h1,h2,h3,h4,h5⟩:=Zzy.1 c;exact absurd (h k m h1 h2 h4 h5) h3
 exact c
def Zl2 {n:Nat}{p q:Nat->Bool}(h:∀i,i<n->p i=true->q i=true):(List.range n).countP p<=(List.range n).countP q:=
 List.countP_mono_left λi hi hp=>h i (List.mem_range.1 hi) hp
def Zp8 {n:Nat}(p q:Nat->Bool):(List.range n).countP (λi=>p i||q i)<=(List.range n).countP p+(List.range n).countP q:=by
 induction n with
 |zero=>simp
 |succ n ih=>
  rw[ZhG,ZhG,ZhG];cases p n<;>cases q n<;>simp<;>omega
def Zp7 {P:Nat}(hP:0<P)(b:Int):∀c:Nat,(List.range (P*c)).countP (λj:Nat=>decide (((j:Int)-b)%P=0))<=c
 |0=>by simp
 |c+1=>by
  have ih:=Zp7 hP b c;rw[Nat.mul_succ,List.range_add,List.countP_append,List.countP_map];have:(List.range P).countP ((λj:Nat=>decide (((j:Int)-b)%P=0)) ∘ λx=>P*c+x)<=1:=by
   refine ZmI λi j hi hj h1 h2=>?_
   simp only[Function.comp_apply,Zas]at h1 h2;have h3:=Int.emod_eq_emod_iff_emod_sub_eq_zero.1 (h1.trans h2.symm);rw[show(((P*c+i:Nat):Int)-b)-(((P*c+j:Nat):Int)-b)=(i:Int)-j by omega]at h3;obtain⟨z,hz⟩:=Int.dvd_of_emod_eq_zero h3;have:z=0:=by
    rcases Int.lt_trichotomy z 0 with d|d|d
    ·have:(P:Int)*z<=(P:Int)*(-1):=Int.mul_le_mul_of_nonneg_left (by omega) (by omega);omega
    ·exact d
    have:(P:Int)*1<=(P:Int)*z:=Int.mul_le_mul_of_nonneg_left (by omega) (by omega);omega
   subst this;omega
  omega
section
variable {N:Nat} {t:Zaz} {u:ZaC} {s:Zax}
def ZyT (w:Tw)(i:Nat):hitW u w i=true↔hitI u w i:=by
 unfold hitW hitI opW;rw[Zas]
def Zxo {w:Tw}{C:Nat}(hC:0<C)(hd:w.s.Period∣(C:Int))(y:Int):hitW u w (y%(C:Int)).toNat=true↔hitI u w y:=by
 have m0:=Int.emod_nonneg y (show(C:Int)≠0 by omega);rw[ZyT,Zt m0];unfold hitI;rw[Int.sub_emod,Zn _ hd,←Int.sub_emod]
def Zp6 (u:ZaC)(w:Tw)(i:Nat):Bool:=decide (((i:Int)-opW u w)%w.s.Period.toNat=0)||decide (((i:Int)-(opW u w+Zdk u w))%w.s.Period.toNat=0)
def ZAJ {w:Tw}(hp:1<=w.s.Period)(hU:0<=Zdk u w){i:Nat}(hi:0<i)(h:hitW u w i≠hitW u w (i-1)):Zp6 u w i=true:=by
 unfold Zp6;rw[Zt (by omega),Zj,Zas,Zas];have e1:hitW u w i=decide (((i:Int)-opW u w)%w.s.Period<Zdk u w):=rfl;have e2:hitW u w (i-1)=decide (((i:Int)-opW u w-1)%w.s.Period<Zdk u w):=by
  unfold hitW;rw[show((i-1:Nat):Int)-(w.h.Open/u.Grid+w.x)=(i:Int)-opW u w-1 by unfold opW;omega]
 rw[e1,e2]at h;obtain⟨P,hP⟩:∃P,P=w.s.Period:=⟨_,rfl⟩;obtain⟨U,h0⟩:∃U,U=Zdk u w:=⟨_,rfl⟩;obtain⟨y,hy⟩:∃y,y=(i:Int)-opW u w:=⟨_,rfl⟩;rw[show(i:Int)-(opW u w+Zdk u w)=y-U by omega];rw[←hP,←hy,←h0]at h;rw[←hP,←hy];by_cases c:y%P=0
 ·exact .inl c
 right;have m0:=Int.emod_nonneg y (show P≠0 by omega);have m1:=Int.emod_lt_of_pos y (show 0<P by omega);have e3:(y-1)%P=y%P-1:=by
  rw[Int.sub_emod,←Zn (y%P-1%P) (Int.dvd_refl P)];by_cases d:P=1
  ·subst d;omega
  rw[Zo (a:=1) (by omega) (by omega),Zn _ (Int.dvd_refl P),Zo (by omega) (by omega)]
 rw[e3]at h;have hu:y%P=U:=by
  by_cases d:y%P<U
  ·exact absurd (by rw[Zar d,Zar (show y%P-1<U by omega)]) h
  by_cases d2:y%P-1<U
  ·omega
  exact absurd (by rw[decide_eq_false d,decide_eq_false d2]) h
 rw[←hu,Int.sub_emod,Zn _ (Int.dvd_refl P),Int.sub_self,Int.zero_emod]
def ZwK {ws:List Tw}(hw:∀w∈ws,1<=w.s.Period/\0<=Zdk u w){q i:Nat}(hi:0<i)(h:ZcF u ws q i≠ZcF u ws q (i-1)):(ws.any λw=>decide ((q:Int)=w.h.Port)&&Zp6 u w i)=true:=by
 apply Classical.byContradiction;intro h0;apply h;unfold ZcF;rw[Zw]at h0;have:∀w∈ws,(decide ((q:Int)=w.h.Port)&&hitW u w i)=(decide ((q:Int)=w.h.Port)&&hitW u w (i-1)):=λw hm=>by
  by_cases c:(q:Int)=w.h.Port
  ·rw[Zar c,Zk,Zk];apply Classical.byContradiction;intro hd;exact h0 ⟨w,hm,by rw[Zar c,Zk];exact ZAJ (hw w hm).1 (hw w hm).2 hi hd⟩
  rw[decide_eq_false c];rfl
 clear h h0;induction ws with
 |nil=>rfl
 |cons w ws ih=>
  rw[Zv,Zv,this w (by simp),ih (λx hx=>hw x (by simp[hx])) λx hx=>this x (by simp[hx])]
def Zrv {P:List Int}{C:Nat}{q:Nat}:∀{ws:List Tw},(∀w∈ws,1<=w.s.Period/\w.s.Period∣(C:Int)/\perU P (useW u w)=w.s.Period)→
  (((List.range C).countP λi=>ws.any λw=>decide ((q:Int)=w.h.Port)&&Zp6 u w i:Nat):Int)<=2*ZgZ P C (ws.map (useW u)) q
 |[],_=>by simp[ZgZ,sumC]
 |w::ws,h=>by
  have ih:=Zrv (P:=P) (C:=C) (q:=q) (ws:=ws) λx hx=>h x (by simp[hx])
  obtain⟨h1,h2,h3⟩:=h w (by simp);have h5:=Zp8 (n:=C) (λi=>decide ((q:Int)=w.h.Port)&&Zp6 u w i) (λi=>ws.any λw=>decide ((q:Int)=w.h.Port)&&Zp6 u w i);simp only[Zv,Z3];unfold ZgZ at ih⊢;by_cases c:(q:Int)=w.h.Port
  ·have hf:(useW u w::ws.map (useW u)).filter (λx=>x.Port==(q:Int))=useW u w::(ws.map (useW u)).filter (λx=>x.Port==(q:Int)):=List.filter_cons_of_pos (by show(w.h.Port==(q:Int))=true;simp[c]);rw[hf,sumC,h3];obtain⟨P',h0⟩:∃P':Nat,w.s.Period=P':=⟨w.s.Period.toNat,by omega⟩;obtain⟨z,hz⟩:=h2;have h4:0<=z:=by
    rcases Int.lt_or_le z 0 with d|d
    ·have:w.s.Period*z<=1*z:=Int.mul_le_mul_of_nonpos_right h1 (by omega);omega
    exact d
   have hq:(C:Int).tdiv w.s.Period=z:=by rw[hz,Int.mul_tdiv_cancel_left _ (by omega)]
   have hC:C=P'*z.toNat:=by
    have:(C:Int)=((P'*z.toNat:Nat):Int):=by rw[hz,h0];push_cast;rw[Zt h4]
    omega
   have h6:(List.range C).countP (λi=>decide ((q:Int)=w.h.Port)&&Zp6 u w i)<=2*z.toNat:=by
    refine Nat.le_trans (Zl2 (q:=Zp6 u w) λi _ hi=>by rw[Ze]at hi;exact hi.2) ?_;have a1:=Zp7 (P:=P') (by omega) (opW u w) z.toNat;have a2:=Zp7 (P:=P') (by omega) (opW u w+Zdk u w) z.toNat;have a3:=Zp8 (n:=C) (λi=>decide (((i:Int)-opW u w)%w.s.Period.toNat=0)) (λi=>decide (((i:Int)-(opW u w+Zdk u w))%w.s.Period.toNat=0));rw[←hC]at a1 a2;rw[h0,Zs]at a3;unfold Zp6;rw[h0,Zs];omega
   rw[hq];omega
  have hf:(useW u w::ws.map (useW u)).filter (λx=>x.Port==(q:Int))=(ws.map (useW u)).filter (λx=>x.Port==(q:Int)):=List.filter_cons_of_neg (by show ¬(w.h.Port==(q:Int))=true;simp[Ne.symm c]);rw[hf];have hz:(List.range C).countP (λi=>decide ((q:Int)=w.h.Port)&&Zp6 u w i)=0:=by
   rw[decide_eq_false c];simp
  omega
def Zyr {l:List Zax}{o:List Int}(h:Fit t u l o)(q:Nat):ZgZ (accA t u l).P (lcmL (accA t u l).P:Nat) (accA t u l).U q<=63:=by
 have he:=h.err;have hl:=(VP.of h.prob).lcm;simp only at hl;unfold errC at he;rw[Zav hl]at he;by_cases hf:ZqZ (accA t u l).P (lcmL (accA t u l).P:Nat) (accA t u l).U=true
 ·rw[Zav hf]at he;omega
 unfold ZqZ at hf;rw[Zw]at hf;rcases Int.lt_or_le 63 (ZgZ (accA t u l).P (lcmL (accA t u l).P:Nat) (accA t u l).U q)with c|c
 ·exfalso;by_cases hx:∃x∈(accA t u l).U,x.Port=(q:Int)
  ·obtain⟨x,hx,hp⟩:=hx;exact hf ⟨x,hx,by rw[hp];exact Zar c⟩
  have:(accA t u l).U.filter (λx=>x.Port==(q:Int))=[]:=List.filter_eq_nil_iff.2 λx h0=>by
   rw[beq_iff_eq];exact λhp=>hx ⟨x,h0,hp⟩
  unfold ZgZ at c;rw[this]at c;simp[sumC]at c
 exact c
def ZmD (u:ZaC)(ws:List Tw)(C q:Nat):ZaM:=⟨Zqr u.Grid ((List.range C).map (ZcF u ws q)),(C:Int)*u.Grid⟩
def Fit.valid {l:List Zax}{o:List Int}(h:Fit t u l o)(q:Nat):VG (ZmD u (Za3 t u l o).2 (lcmL (accA t u l).P) q)/\Runs u.Grid (ZcF u (Za3 t u l o).2 q) (lcmL (accA t u l).P) (ZmD u (Za3 t u l o).2 (lcmL (accA t u l).P) q).Entries:=by
 have hu:=Zbk h.set;have g1:=hu.g1;have g2:=hu.g2;have hv:=VP.of h.prob;have hC:=hv.lcm;have h5:=hv.lpos;simp only at hC h5;obtain⟨C,eC⟩:∃C,C=lcmL (accA t u l).P:=⟨_,rfl⟩;obtain⟨ws,ew⟩:∃ws,ws=(Za3 t u l o).2:=⟨_,rfl⟩;have hw:∀w∈ws,(1<=w.s.Period/\0<=Zdk u w)/\w.s.Period∣(C:Int)/\perU (accA t u l).P (useW u w)=w.s.Period:=λw hm=>by
  rw[ew]at hm;obtain⟨ok,_,a,_,b⟩:=h.win hm;rw[eC];exact⟨⟨ok.s.per1,(ok.num hu).2.2.1.1⟩,b,a⟩
 have hp:=Zyr h q;rw[ZmT l o,←ew,←eC]at hp;rw[←eC]at hC h5;rw[←ew,←eC];have hr:=Zs4 g1 (ZcF u ws q) C;refine⟨?_,hr⟩;have h4:=hr.cnt;have h9:(List.range C).countP (λi=>decide (i=0)||ZcF u ws q i !=ZcF u ws q (i-1))<=127:=by
  have a1:=Zp8 (n:=C) (λi=>decide (i=0)) (λi=>decide (0<i)&&ZcF u ws q i !=ZcF u ws q (i-1));have a2:(List.range C).countP (λi=>decide (i=0))<=1:=ZmI λi j _ _ h1 h2=>by
   rw[Zas]at h1 h2;omega
  have a3:(List.range C).countP (λi=>decide (0<i)&&ZcF u ws q i !=ZcF u ws q (i-1))<=(List.range C).countP λi=>ws.any λw=>decide ((q:Int)=w.h.Port)&&Zp6 u w i:=Zl2 λi _ hi=>by
   rw[Ze,Zas,bne_iff_ne]at hi;exact ZwK (λw hm=>(hw w hm).1) hi.1 hi.2
  have a4:=Zrv (u:=u) (P:=(accA t u l).P) (C:=C) (q:=q) (ws:=ws) λw hm=>⟨(hw w hm).1.1,(hw w hm).2⟩
  have a5:(List.range C).countP (λi=>decide (i=0)||ZcF u ws q i !=ZcF u ws q (i-1))<=(List.range C).countP (λi=>decide (i=0)||(decide (0<i)&&ZcF u ws q i !=ZcF u ws q (i-1))):=Zl2 λi _ hi=>by
   by_cases c:i=0
   ·simp[c]
   simp only[c,decide_false,Bool.false_or]at hi⊢;rw[hi,Zar (by omega)];rfl
  omega
 have h8:(ZmD u ws C q).Entries.length<=127:=Nat.le_trans h4 h9;have h6:=hr.ne h5;obtain⟨m1,m2⟩:=mulG (x:=(C:Int)) (by omega) (by omega) g1 g2;have ha:(C:Int)*u.Grid<=9600000:=by
  calc (C:Int)*u.Grid<=960*10000:=Int.mul_le_mul (by omega) g2 (by omega) (by omega)
   _=_:=by decide
 have h0:=hr.sum;have h3:∀(l:List ZaL),(∀e∈l,(e.Mask=127∨e.Mask=128)/\1<=e.Long)->0<=sumL l/\∀e∈l,e.Long<=sumL l:=λl=>by
  induction l with
  |nil=>intro _;simp[sumL]
  |cons x l ih=>
   intro hx;obtain⟨i1,i2⟩:=ih λe he=>hx e (by simp[he])
   have:=(hx x (by simp)).2;refine⟨by simp only[sumL];omega,λe he=>?_⟩;simp only[sumL];rcases List.mem_cons.1 he with rfl|he
   ·omega
   have:=i2 e he;omega
 have h7:=(h3 _ hr.ok).2;refine⟨?_,by omega,List.all_eq_true.2 λe he=>ZjD.2 ?_,h0,ha⟩
 ·exact List.length_pos_iff.2 h6
 obtain⟨b1,b2⟩:=hr.ok e he;have:=h7 e he;rw[h0]at this;exact⟨by omega,by omega,b2,by omega⟩
def Fit.mask {l:List Zax}{o:List Int}(h:Fit t u l o)(q:Nat)(τ:Int):mAt (ZmD u (Za3 t u l o).2 (lcmL (accA t u l).P) q).Entries τ=ZfR (ZcF u (Za3 t u l o).2 q ((τ/u.Grid)%(lcmL (accA t u l).P:Nat)).toNat):=by
 have hu:=Zbk h.set;have g1:=hu.g1;have g2:=hu.g2;have hv:=VP.of h.prob;have h6:=hv.lpos;simp only at h6;obtain⟨h0,hr⟩:=h.valid q;obtain⟨C,eC⟩:∃C,C=lcmL (accA t u l).P:=⟨_,rfl⟩;rw[←eC]at h0 hr h6⊢;have h8:0<(C:Int)*u.Grid:=Int.mul_pos (by omega) (by omega);have r0:=Int.emod_nonneg τ (show(C:Int)*u.Grid≠0 by omega);have r1:=Int.emod_lt_of_pos τ h8;obtain⟨i,e,s,h1,h2,h3,h4,h5⟩:=hr.at_ _ r0 r1;have ha:AtE (ZmD u (Za3 t u l o).2 C q).Entries τ i e s:=⟨h1,h2,h3,by rw[hr.sum];exact h4⟩;rw[ZnZ h0.ok ha,h5]
 congr 3
 have:=Int.emod_add_mul_ediv τ ((C:Int)*u.Grid);obtain⟨z,hz⟩:∃z,z=τ/((C:Int)*u.Grid):=⟨_,rfl⟩;rw[←hz]at this;obtain⟨r,h7⟩:∃r,r=τ%((C:Int)*u.Grid):=⟨_,rfl⟩;rw[←h7]at this r0 r1⊢;have e1:τ/u.Grid=r/u.Grid+C*z:=by
  rw[←this,show(C:Int)*u.Grid*z=u.Grid*(C*z)by rw[←Int.mul_assoc,Zp u.Grid],Int.add_mul_ediv_left _ _ (by omega)]
 rw[e1,Zm,Zo (Int.ediv_nonneg r0 (by omega)) (Int.ediv_lt_of_lt_mul (by omega) r1)]
end
end Go.Sh

namespace Go.Sh
open Go Go.Eng
section
variable {N:Nat} {t:Zaz} {u:ZaC} {s:Zax}
def Zzx {a b G k:Int}(hG:1<=G):(a*G+b*G+k)/G=a+b+k/G:=by
 rw[←Zl,Int.add_comm,Int.add_mul_ediv_right _ _ (by omega)];omega
def Fit.open {l:List Zax}{o:List Int}(h:Fit t u l o){w:Tw}(hw:w∈(Za3 t u l o).2){q:Nat}(hq:w.h.Port=q){m k:Int}(k0:0<=k)(k1:k<w.h.Long):
  mAt (ZmD u (Za3 t u l o).2 (lcmL (accA t u l).P) q).Entries ((w.x+m*w.s.Period)*u.Grid+w.h.Open+k)=128:=by
 have hu:=Zbk h.set;have g1:=hu.g1;obtain⟨ok,_,_,_,hd⟩:=h.win hw;have h0:=(VP.of h.prob).lpos;simp only at h0;have h1:=Int.mul_ediv_add_emod w.h.Open u.Grid;rw[ok.grid]at h1;have p1:=ok.s.per1;rw[h.mask q];have e:ZcF u (Za3 t u l o).2 q ((((w.x+m*w.s.Period)*u.Grid+w.h.Open+k)/u.Grid)%(lcmL (accA t u l).P:Nat)).toNat=true:=by
  unfold ZcF;rw[Zw];refine⟨w,hw,?_⟩;rw[Zar hq.symm,Zk,Zxo h0 hd];have e1:((w.x+m*w.s.Period)*u.Grid+w.h.Open+k)/u.Grid=w.x+m*w.s.Period+w.h.Open/u.Grid+k/u.Grid:=by
   rw[←Zzx g1,Zp (w.h.Open/u.Grid)]
   congr 2
   omega
  unfold hitI opW;rw[e1,show w.x+m*w.s.Period+w.h.Open/u.Grid+k/u.Grid-(w.h.Open/u.Grid+w.x)=k/u.Grid+m*w.s.Period by omega,Int.add_mul_emod_self_right];have d0:=Int.ediv_nonneg k0 (show 0<=u.Grid by omega);have d1:k/u.Grid%w.s.Period<=k/u.Grid:=by
   have:=Int.emod_add_mul_ediv (k/u.Grid) w.s.Period;have h4:0<=w.s.Period*(k/u.Grid/w.s.Period):=Int.mul_nonneg (by omega) (Int.ediv_nonneg d0 (by omega));omega
  have d2:k/u.Grid<Zdk u w:=by
   unfold Zdk;have h2:k/u.Grid+1<=(w.h.Long+u.Grid-1)/u.Grid:=by
    rw[show w.h.Long+u.Grid-1=(w.h.Long-1)+u.Grid*1 by omega,Int.add_mul_ediv_left _ _ (by omega)];have:=Int.ediv_le_ediv (show 0<u.Grid by omega) (show k<=w.h.Long-1 by omega);omega
   omega
  omega
 rw[e];rfl
def Zsv {ws:List Tw}{C q:Nat}(hq:q<2*t.Links.length):idx (ZeN t u ws C) (q:Int)=some (ZmD u ws C q):=by
 unfold ZeN;rw[Ze6 _ hq];rfl
def Zxf {l:List Zax}{o:List Int}(h:(ZlE t u l o).2≠0):(ZlE t u l o).1=[]:=by
 unfold ZlE at h⊢;split
 ·split
  ·split
   ·rename_i a b c;rw[Zav a,Zav b,Zav c]at h;exact absurd rfl h
   rfl
  rfl
 rfl
end
end Go.Sh

namespace Go.Sh
open Go Go.Eng
section
variable {N:Nat} {t:Zaz} {u:ZaC} {s:Zax}
def okG (E:List ZaL)(B L:Int):Prop:=∀k,0<=k->k<L->mAt E (B+k)=128
def ZvY {E:List ZaL}(h:∀e∈E,okE e=true)(h0:1<=E.length){B L:Int}(z:Int):okG E (B+z*sumL E) L↔okG E B L:=by
 have e:∀k,mAt E (B+z*sumL E+k)=mAt E (B+k):=λk=>by
  rw[show B+z*sumL E+k=B+k+z*sumL E by omega];exact Zri h h0 _ _
 unfold okG;simp only[e]
def Zsu (hN:200<=N){g:ZaM}{τ:Int}(h:errS g 0 τ 0=0):∃q,IsSt g.Entries (λm=>m==mAt g.Entries τ) τ q/\Zk0 N g τ=some (if q=g.Cycle then(0,4)else(τ+q,0)):=by
 obtain⟨hg,_,_,h2,h1,_⟩:=Zxw h;obtain⟨i,e,s,ha⟩:=ZiV hg.ok hg.1 τ;have hC:=hg.2.2.2;obtain⟨q,hq⟩:=ZuU hg (λm=>m==e.Mask) τ;have h3:0<=q/\q<=9600000:=by
  have hb:=(Zhb hg.ok).1;rcases hq with⟨a,_⟩|⟨a,b,_⟩<;>omega
 refine⟨q,by rw[ZnZ hg.ok ha];exact hq,?_⟩;unfold Zk0;rw[ZlG hN,Zak,Zau (by simp[h]),ZjK hN hg ha,Zak];simp only;rw[ZfE ha.1,Zak,Zow hN hg (p:=λm=>m==e.Mask) (λ_ _=>rfl) hq,Zak,ZaK (by omega) (by omega)];by_cases h0:q=g.Cycle<;>simp[h0]
def ZwX (hN:200<=N){g:ZaM}(hg:VG g){B L:Int}(b0: -1000000<=B)(b1:B<=1000000000)(l0:1<=L)(l1:L<=10000000):∃b,ZhR N g B L=some b/\(b=true↔okG g.Entries B L):=by
 have h0:errS g 0 B 0=0:=by unfold errS;rw[Zav hg,Zav (by omega)]
 unfold ZhR;rw[ZmC hN,Zav h0,Zak];by_cases c:mAt g.Entries B=128
 ·rw[Zau (by simpa using c)];obtain⟨q,hq,e⟩:=Zsu hN h0;have hC:=hg.2.2.2.1;rw[e,Zak,ZaK (x:=B+L) (by omega) (by omega)];refine⟨_,rfl,?_⟩;rw[c]at hq;rcases hq with⟨q1,q2⟩|⟨q1,q2,q3,q4⟩
  ·rw[Zav (by omega)];refine⟨λ_ k k0 k1=>?_,λ_=>rfl⟩;obtain⟨x,hx,hm⟩:=ZuE hg.ok hg.1 (B+k);rw[hm];simpa using q2 x hx
  rw[Zau (by omega)];simp only[Zaq,Bool.false_or,Zas];refine⟨λh k k0 k1=>by simpa using q3 k k0 (by omega),λh=>?_⟩;rcases Int.lt_or_le q L with d|d
  ·rw[h q q1 d]at q4;simp at q4
  omega
 rw[Zav (by simpa using c)];refine⟨false,rfl,⟨λh=>(by cases h),λh=>absurd (by simpa using h 0 (by omega) (by omega)) c⟩⟩
def allW (u:ZaC)(E:List ZaL)(w:Tw):Prop:=∀z:Int,okG E (w.h.Open+w.x*u.Grid+z*(w.s.Period*u.Grid)) w.h.Long
def ZAZ (hu:ZeZ u){w:Tw}(ok:TwOK t u w):1<=w.s.Period*u.Grid:=by
 have p1:=ok.s.per1;have g1:=hu.g1
 calc (1:Int)<=1*u.Grid:=by omega
  _<=_:=Int.mul_le_mul_of_nonneg_right p1 (by omega)
def ZxK {E:List ZaL}(h:∀e∈E,okE e=true)(h0:1<=E.length){w:Tw}{q:Int}(hq:0<q)(hs:sumL E=q*(w.s.Period*u.Grid)){b:Int}{z0:Int}(hb:b=w.h.Open+w.x*u.Grid+z0*(w.s.Period*u.Grid)):allW u E w↔∀m:Nat,(m:Int)<q->okG E (b+m*(w.s.Period*u.Grid)) w.h.Long:=by
 unfold allW;obtain⟨D,eD⟩:∃D,D=w.s.Period*u.Grid:=⟨_,rfl⟩;obtain⟨B,eB⟩:∃B,B=w.h.Open+w.x*u.Grid:=⟨_,rfl⟩;rw[←eD,←eB]at hb;rw[←eD]at hs⊢;rw[←eB];constructor
 ·intro H m _;have:=H (z0+m)
  rwa [Zl,←Int.add_assoc,←hb]at this
 intro H z;have m0:=Int.emod_nonneg (z-z0) (show q≠0 by omega);have m1:=Int.emod_lt_of_pos (z-z0) hq;have h1:=H ((z-z0)%q).toNat (by omega);rw[Zt m0]at h1;have h2:=Int.emod_add_mul_ediv (z-z0) q;have h3:B+z*D=b+((z-z0)%q)*D+((z-z0)/q)*sumL E:=by
  rw[hs,hb,←Int.mul_assoc,Zp ((z-z0)/q) q,Int.add_assoc,Int.add_assoc,←Zl,h2,←Zl]
  congr 2
  omega
 rw[h3];exact(ZvY h h0 _).2 h1
variable {σ:Type} {y:σ->Za6->Option (σ×Bool)} {q:Tw->Prop} {s0 s1:σ} {W:List Tw}
def Zza (u:ZaC)(y:σ->Za6->Option (σ×Bool))(s0 s1:σ)(q:Tw->Prop)(w:Tw):Prop:=(q w/\y s0 (synW u w)=some (s0,true))∨(¬q w/\y s0 (synW u w)=some (s1,false))
def ZzE (hu:ZeZ u){n:Nat}{x:Int}{hs:List ZaZ}{e:Int}(h8:hs.length<=8)(h0:∀h∈hs,TwOK t u ⟨n,s,x,h⟩)(hy:∀h∈hs,Zza u y s0 s1 q ⟨n,s,x,h⟩)(hN:2000<=N):
  ∃r,ZaT (λz:Int×σ=>Zbt N y u s x (hs,e) z.1 z.2) N (0,s0)=some r/\((r=.inl s0/\∀h∈hs,q ⟨n,s,x,h⟩)∨(r=.inr s1/\∃h∈hs,¬q ⟨n,s,x,h⟩)):=
 ZbK (body:=λz:Int×σ=>Zbt N y u s x (hs,e) z.1 z.2) (λz=>∃k:Nat,z=((k:Int),s0)/\k<=hs.length/\∀j (hj:j<hs.length),j<k->q ⟨n,s,x,hs[j]⟩) (λz=>(hs.length-z.1).toNat)
  (λr=>(r=.inl s0/\∀h∈hs,q ⟨n,s,x,h⟩)∨(r=.inr s1/\∃h∈hs,¬q ⟨n,s,x,h⟩)) (λz hz=>by
   obtain⟨k,rfl,k1,k2⟩:=hz;simp only[Zbt];by_cases c:k<hs.length
   ·have ok:=h0 _ (List.getElem_mem c);obtain⟨⟨a1,a2⟩,⟨b1,b2⟩,⟨c1,c2⟩,d1,d2⟩:=ok.num hu;obtain⟨_,_,o1,o2,l1,l2,_⟩:=ok.h;simp only at a1 a2 b1 b2 o1 o2;rw[Zav (by simpa using c),ZbH c,Zak,ZaK (x:=x*u.Grid) (by omega) (by omega),ZaK (x:=hs[k].Open+x*u.Grid) (by omega) (by omega),ZaK (x:=s.Period*u.Grid) (by omega) (by omega)];have e:Za6.mk hs[k].Port (hs[k].Open+x*u.Grid) hs[k].Long (s.Period*u.Grid)=synW u ⟨n,s,x,hs[k]⟩:=rfl;rw[e];rcases hy _ (List.getElem_mem c)with⟨h1,h2⟩|⟨h1,h2⟩
    ·left;rw[h2,Zak,Zau (by simp),ZaO (by omega)];refine⟨_,rfl,⟨k+1,rfl,by omega,λj hj h3=>?_⟩,by simp only;omega⟩;by_cases d:j=k
     ·subst d;exact h1
     exact k2 j hj (by omega)
    right;rw[h2,Zak,Zav (by simp)];exact⟨_,rfl,.inr ⟨rfl,_,List.getElem_mem c,h1⟩⟩
   right;rw[Zau (by simpa using c)];refine⟨_,rfl,.inl ⟨rfl,λh hm=>?_⟩⟩;obtain⟨j,hj,rfl⟩:=List.getElem_of_mem hm;exact k2 j hj (by omega)) N (0,s0) ⟨0,rfl,by omega,λj hj h=>by omega⟩ (by simp only;omega)
def ZzF (hT:Zef t=true)(hU:ZdB u=true)(h:SS t s){n:Nat}{x:Int}(x1:0<=x)(x2:x<s.Period)(hy:∀w∈ZhK t u n s x,Zza u y s0 s1 q w)(hN:2000<=N):
  ∃r,ZaT (λz:Int×σ=>Zbu N y t u s x z.1 z.2) N (0,s0)=some r/\((r=.inl s0/\∀w∈ZhK t u n s x,q w)∨(r=.inr s1/\∃w∈ZhK t u n s x,¬q w)):=by
 have g:=Zbg.1 hT;have hu:=Zbk hU;have r2:=h.r2;exact ZbK (body:=λz:Int×σ=>Zbu N y t u s x z.1 z.2) (λz=>∃k:Nat,z=((k:Int),s0)/\k<=s.Routes.length/\∀j (hj:j<s.Routes.length),j<k->∀w∈ZmU t u n s x s.Routes[j],q w) (λz=>(s.Routes.length-z.1).toNat)
  (λr=>(r=.inl s0/\∀w∈ZhK t u n s x,q w)∨(r=.inr s1/\∃w∈ZhK t u n s x,¬q w)) (λz hz=>by
   obtain⟨k,rfl,k1,k2⟩:=hz;simp only[Zbu];by_cases c:k<s.Routes.length
   ·have hv:=h.rt _ (List.getElem_mem c);have h8:=(Zch hv).2.1;have h0:∀h'∈Zgt t u s s.Routes[k],(⟨n,s,x,h'⟩:Tw)∈ZhK t u n s x:=λh' hh=>List.mem_flatMap.2 ⟨_,List.getElem_mem c,List.mem_map.2 ⟨h',hh,rfl⟩⟩
    obtain⟨r,e1,e2⟩:=ZzE (N:=N) (t:=t) (s:=s) (n:=n) (x:=x) (e:=0) (y:=y) (q:=q) (s0:=s0) (s1:=s1) hu (hs:=Zgt t u s s.Routes[k]) (by simp[Zgt];omega) (λh' hh=>ZrM g hu h x1 x2 (h0 h' hh)) (λh' hh=>hy _ (h0 h' hh)) hN;rw[Zav (by simpa using c),Ze0 hT hU h.str h.cls (by omega) (by omega) (by omega),Zak,ZiC k c];unfold Zgt at e1;rw[e1,Zak];rcases e2 with⟨rfl,e2⟩|⟨rfl,h',hm,e2⟩
    ·left;refine⟨(((k+1:Nat):Int),s0),by simp only;rw[ZaO (by omega)],⟨k+1,rfl,by omega,λj hj h1 w hw=>?_⟩,by simp only;omega⟩;by_cases d:j=k
     ·subst d;obtain⟨h',hh,rfl⟩:=List.mem_map.1 hw;exact e2 h' hh
     exact k2 j hj (by omega) w hw
    exact .inr ⟨_,rfl,.inr ⟨rfl,_,h0 h' hm,e2⟩⟩
   right;rw[Zau (by simpa using c)];refine⟨_,rfl,.inl ⟨rfl,λw hw=>?_⟩⟩;obtain⟨r,hr,hw⟩:=List.mem_flatMap.1 hw;obtain⟨j,hj,rfl⟩:=List.getElem_of_mem hr;exact k2 j hj (by omega) w hw) N (0,s0) ⟨0,rfl,by omega,λj hj h=>by omega⟩ (by simp only;omega)
def ZsX (hT:Zef t=true)(hU:ZdB u=true){l:List Zax}(hl:∀x∈l,Zbz t x=true)(h4:l.length<=12){o:List Int}(ho:ZfQ ⟨(accA t u l).P,(accA t u l).U⟩ o=true)(hy:∀w∈(Za3 t u l o).2,Zza u y s0 s1 q w)(hN:2000<=N):
  ∃r,Zc0 N y l o t u s0=some r/\((r=s0/\∀w∈(Za3 t u l o).2,q w)∨(r=s1/\∃w∈(Za3 t u l o).2,¬q w)):=by
 have g:=Zbg.1 hT;have hu:=Zbk hU;unfold Zc0;obtain⟨r,hr,er⟩:=ZbK (body:=λz:Int×Int×σ=>Zb2 N y l o t u z.1 z.2.1 z.2.2)
  (λz=>∃k:Nat,z=(((Za3 t u (l.take k) o).1:Int),(k:Int),s0)/\k<=l.length/\∀w∈(Za3 t u (l.take k) o).2,q w) (λz=>(l.length-z.2.1).toNat)
  (λr=>(r=.inl s0/\∀w∈(Za3 t u l o).2,q w)∨(r=.inr s1/\∃w∈(Za3 t u l o).2,¬q w)) (λz hz=>by
   obtain⟨k,rfl,hk,hj⟩:=hz;simp only[Zb2];by_cases c:k<l.length
   ·rw[Zav (by simpa using c),ZbH c,Zak,ZaO (n:=k) (by omega)];have ex:=Zg9 (t:=t) (u:=u) l o k c;unfold Zj3 at ex;by_cases hc:l[k].Class=7
    ·obtain⟨h1,h2,h3⟩:=Zvb c hc ho;have hs:=SS.of (hl _ (List.getElem_mem c)) hc;rw[Zav hc]at ex;have h0:∀w∈ZhK t u (Za3 t u (l.take k) o).1 l[k] (o.getD (Za3 t u (l.take k) o).1 0),w∈(Za3 t u l o).2:=λw hw=>ZsS l o (k+1) (by rw[ex];exact List.mem_append_right _ hw)
     obtain⟨r,e1,e2⟩:=ZzF (N:=N) (y:=y) (q:=q) (s0:=s0) (s1:=s1) hT hU hs h2 h3 (λw hw=>hy w (h0 w hw)) hN;have h7:=Zj6 (t:=t) (u:=u) (l.take k) o;have h8:=(ZhJ (t:=t) (u:=u) g hu (l:=l.take k) λx hx=>hl x (List.mem_of_mem_take hx)).pl;rw[Z1]at h8;rw[Zau (by simpa using hc),Zb0 0 (by omega) (by omega),Zak,Zs,e1,Zak];rcases e2 with⟨rfl,e2⟩|⟨rfl,w,hw,e2⟩
     ·left;refine⟨(((Za3 t u (l.take (k+1)) o).1:Int),((k+1:Nat):Int),s0),?_,⟨k+1,rfl,by omega,λw hw=>?_⟩,by simp only;omega⟩
      ·rw[ex];simp only;rw[ZaO (n:=(Za3 t u (l.take k) o).1) (by omega)]
      rw[ex]at hw;rcases List.mem_append.1 hw with hw|hw
      ·exact hj w hw
      exact e2 w hw
     exact .inr ⟨_,rfl,.inr ⟨rfl,w,h0 w hw,e2⟩⟩
    rw[Zau hc]at ex;left;refine⟨(((Za3 t u (l.take (k+1)) o).1:Int),((k+1:Nat):Int),s0),?_,⟨k+1,rfl,by omega,λw hw=>?_⟩,by simp only;omega⟩
    ·rw[Zav (by simpa using hc),ex]
    rw[ex]at hw;exact hj w hw
   right;obtain rfl:k=l.length:=by omega
   rw[Zad]at hj;rw[Zau (by simp)];exact⟨_,rfl,.inl ⟨rfl,hj⟩⟩) N (0,0,s0) ⟨0,by simp[Za3],by omega,by simp[Za3]⟩ (by simp only;omega)
 rw[hr];rcases er with⟨rfl,er⟩|⟨rfl,er⟩
 ·exact⟨_,rfl,.inl ⟨rfl,er⟩⟩
 exact⟨_,rfl,.inr ⟨rfl,er⟩⟩
end
end Go.Sh

namespace Go.Sh
open Go Go.Eng
section
variable {N:Nat} {t:Zaz} {u:ZaC} {s:Zax}
def g00:ZaM:=⟨[],0⟩
def atP (y:List ZaM)(w:Tw):ZaM:=y.getD w.h.Port.toNat g00
open Classical in
noncomputable def Zvl (t:Zaz) (u:ZaC) (l:List Zax) (o:List Int) (y:List ZaM):Bool×Int:=
 if(ofS t u l).2=0 then(if ZfQ (ofS t u l).1 o=true then(if(y.all λg=>decide (VG g))=true then(if y.length=2*t.Links.length then(if(y.all λg=>decide (g.Cycle=(lcmL (ofS t u l).1.Periods:Int)*u.Grid))=true then
  (decide (∀w∈(Za3 t u l o).2,allW u (atP y w).Entries w),0)else(false,0))else(false,0))else(false,370))else(false,2))else(false,(ofS t u l).2)
def ZYo (hu:ZeZ u){w:Tw}(ok:TwOK t u w){y:List ZaM}{C:Nat}(hC:0<C)(h6:C<=960)(hl:y.length=2*t.Links.length)(hg:VG (atP y w))(hc:(atP y w).Cycle=(C:Int)*u.Grid){q:Int}(hq:0<q)(h3:(C:Int)*u.Grid=q*(w.s.Period*u.Grid))(hN:30000000<=N):
  ∃b,ZcS N u y ((C:Int),0) (synW u w)=some ((),b)/\((b=0/\allW u (atP y w).Entries w)∨(b=1/\¬allW u (atP y w).Entries w)):=by
 obtain⟨⟨a1,a2⟩,⟨b1,b2⟩,_,_⟩:=ok.num hu;obtain⟨_,_,o1,o2,l1,l2,_⟩:=ok.h;have g1:=hu.g1;have g2:=hu.g2;have x2:=ok.x2;have x1:=ok.x1;have p2:=ok.s.per2;have xg:w.x*u.Grid<=2400000:=by
  calc w.x*u.Grid<=240*10000:=Int.mul_le_mul (by omega) g2 (by omega) (by omega)
   _=_:=by decide
 have cg:(C:Int)*u.Grid<=9600000:=by
  calc (C:Int)*u.Grid<=960*10000:=Int.mul_le_mul (by omega) g2 (by omega) (by omega)
   _=_:=by decide
 have cg0:0<=(C:Int)*u.Grid:=Int.mul_nonneg (by omega) (by omega);have h4:=ZAZ hu ok;have h0:=ok.port;simp only[ZcD,Ze,Zas]at h0;have h5:idx y w.h.Port=some (atP y w):=Zb0 g00 (by omega) (by omega);obtain⟨D,eD⟩:∃D,D=w.s.Period*u.Grid:=⟨_,rfl⟩;obtain⟨B,eB⟩:∃B,B=w.h.Open+w.x*u.Grid:=⟨_,rfl⟩;obtain⟨X,eX⟩:∃X,X=(C:Int)*u.Grid:=⟨_,rfl⟩;have key:=ZxK (u:=u) hg.ok hg.1 (w:=w) hq (by rw[hg.2.2.2.1,hc,h3]) (b:=B) (z0:=0) (by rw[Int.zero_mul,Int.add_zero];exact eB);rw[←eD]at h3 b1 b2 h4 key;rw[←eX]at h3 hc cg cg0;unfold ZcS synW;simp only;rw[←eD,←eB];obtain⟨r,hr,e⟩:=ZbK (body:=λx:Int=>Zd0 N u y ((C:Int),0) ⟨w.h.Port,B,w.h.Long,D⟩ x) (λx=>∃m:Nat,x=B+m*D/\x<=B+13000000/\∀j:Nat,j<m->okG (atP y w).Entries (B+j*D) w.h.Long) (λx=>(B+13000000-x).toNat)
  (λr=>(r=.inl ()/\∀m:Nat,(m:Int)<q->okG (atP y w).Entries (B+m*D) w.h.Long)∨(r=.inr ()/\∃m:Nat,(m:Int)<q/\¬okG (atP y w).Entries (B+m*D) w.h.Long)) (λx hx=>by
   obtain⟨m,rfl,m1,m2⟩:=hx;have mD:0<=(m:Int)*D:=Int.mul_nonneg (by omega) (by omega);have eS:((m+1:Nat):Int)*D=m*D+D:=by rw[show((m+1:Nat):Int)=(m:Int)+1 by omega,Zl,Int.one_mul]
   simp only[Zd0];rw[←eX,ZaK (x:=X) (by omega) (by omega),ZaK (x:=B+X) (by omega) (by omega)];by_cases c:B+m*D<B+X
   ·have mq:(m:Int)<q:=by
     rcases Int.lt_or_le (m:Int) q with d|d
     ·exact d
     have:q*D<=m*D:=Int.mul_le_mul_of_nonneg_right d (by omega);omega
    obtain⟨b,hb,e⟩:=ZwX (N:=N) (by omega) hg (B:=B+m*D) (L:=w.h.Long) (by omega) (by omega) (by omega) (by omega);rw[Zav (by simpa using c),h5,Zak,hb,Zak];cases b with
    |true=>
     left;refine⟨B+(m+1:Nat)*D,?_,⟨m+1,rfl,by rw[eS];omega,λj hj=>?_⟩,by rw[eS];omega⟩
     ·rw[Zau (by simp),eS,←Int.add_assoc,ZaK (by omega) (by omega)]
     by_cases d:j=m
     ·subst d;exact e.1 rfl
     exact m2 j (by omega)
    |false=>exact .inr ⟨.inr (),by rw[Zav (by simp)],.inr ⟨rfl,m,mq,λh=>by have:=e.2 h;cases this⟩⟩
   refine .inr ⟨.inl (),by rw[Zau (by simpa using c)],.inl ⟨rfl,λj hj=>m2 j ?_⟩⟩;rcases Nat.lt_or_ge j m with d|d
   ·exact d
   exfalso;have h1:(m:Int)+1<=q:=by omega
   have h2:((m:Int)+1)*D<=q*D:=Int.mul_le_mul_of_nonneg_right h1 (by omega);rw[Zl,Int.one_mul]at h2;omega) N B ⟨0,by simp,by omega,λj hj=>by omega⟩ (by omega)
 rw[hr,Zak];rcases e with⟨rfl,e⟩|⟨rfl,m,mq,e⟩
 ·exact⟨0,rfl,.inl ⟨rfl,key.2 e⟩⟩
 exact⟨1,rfl,.inr ⟨rfl,λh=>e (key.1 h m mq)⟩⟩
structure ZxU (t:Zaz) (u:ZaC) (l:List Zax) (o:List Int) (y:List ZaM):Prop where
 topo:Zef t=true
 set:ZdB u=true
 str:∀x∈l,Zbz t x=true
 l12:l.length<=12
 off:ZfQ ⟨(accA t u l).P,(accA t u l).U⟩ o=true
 of:ofS t u l=(⟨(accA t u l).P,(accA t u l).U⟩,0)
 prob:ZiL ⟨(accA t u l).P,(accA t u l).U⟩=true
 len:y.length=2*t.Links.length
 vg:∀g∈y,VG g
 cyc:∀g∈y,g.Cycle=(lcmL (accA t u l).P:Int)*u.Grid
def ZxU.win {l:List Zax}{o:List Int}{y:List ZaM}(h:ZxU t u l o y){w:Tw}(hw:w∈(Za3 t u l o).2):TwOK t u w/\VG (atP y w)/\(atP y w).Cycle=(lcmL (accA t u l).P:Int)*u.Grid/\∃q:Int,0<q/\(lcmL (accA t u l).P:Int)*u.Grid=q*(w.s.Period*u.Grid):=by
 have g:=Zbg.1 h.topo;have h1:w∈(Za3 t u (l.take l.length) o).2:=by rw[Zad];exact hw
 have ok:=(Zoy g (Zbk h.set) h.str h.off l.length (Nat.le_refl _)).1 w h1;have h0:=ok.port;simp only[ZcD,Ze,Zas]at h0;have h2:=h.len;have hm:atP y w∈y:=by
  unfold atP;rw[ZbE (by omega)];exact List.getElem_mem _
 refine⟨ok,h.vg _ hm,h.cyc _ hm,?_⟩;have h3:=ZpC (t:=t) (u:=u) g (Zbk h.set) h.str (o:=o) l.length (Nat.le_refl _) w h1;have hd:=Int.natCast_dvd_natCast.2 (Zh2.1 (Nat.dvd_refl (lcmL (accA t u l).P)) _ h3);have p1:=ok.s.per1;rw[Zt (by omega)]at hd;obtain⟨z,hz⟩:=hd;have h4:=(VP.of h.prob).lpos;simp only at h4;refine⟨z,?_,by rw[hz,Zp w.s.Period z,Int.mul_assoc]⟩;rcases Int.lt_or_le 0 z with c|c
 ·exact c
 have:w.s.Period*z<=w.s.Period*0:=Int.mul_le_mul_of_nonneg_left c (by omega);omega
open Classical in
def Zqn (l:List Zax) (o:List Int) {y:List ZaM} (hy:y.length<=1000) (hN:30000000<=N):Ze8 N t u l o y=some (Zvl t u l o y):=by
 have h2:2000<=N:=by omega
 unfold Ze8 Zvl;rw[Zrc _ h2,Zak];by_cases h0:(ofS t u l).2=0
 ·obtain⟨hT,hU,hA,he,h1⟩:=ZoF h0;obtain⟨h3,hl⟩:=Znz hA;have g:=Zbg.1 hT;have hu:=Zbk hU;have hp:ZiL (ofS t u l).1=true:=by rw[h1];exact Zms g (ZhJ g hu hl) h3 he
  have hv:=VP.of hp;have hC:=hv.lcm;have h4:=hv.lpos;have h5:=g.l24;have g1:=hu.g1;have g2:=hu.g2;have cg:(lcmL (ofS t u l).1.Periods:Int)*u.Grid<=9600000:=by
   calc (lcmL (ofS t u l).1.Periods:Int)*u.Grid<=960*10000:=Int.mul_le_mul (by omega) g2 (by omega) (by omega)
    _=_:=by decide
  have cg0:0<=(lcmL (ofS t u l).1.Periods:Int)*u.Grid:=Int.mul_nonneg (by omega) (by omega);rw[Zau (by simp[h0]),Zav h0,ZnU h2,Zak];unfold Zy0;rw[Zav hp];cases ho:ZfQ (ofS t u l).1 o with
  |false=>rfl
  |true=>
   rw[Zav rfl,Zav rfl];simp only[Zaq,Zg,Zat];rw[ZfU (l:=y) (p:=λg=>decide (VG g)) (bad:=.inr (false,370)) (fin:=.inl ()) (λk hk=>by
    simp only[Zib];rw[Zav (by simpa using hk),ZbH hk,Zak,Zis (by omega),Zak,ZaO (by omega)];by_cases c:VG y[k]<;>simp[c]) (by simp[Zib]) (by omega),Zak]
   by_cases c1:(y.all λg=>decide (VG g))=true
   ·rw[Zav c1,Zav c1];simp only;rw[Zmu h2,Zav hp,Zak];simp only[Zaq,Zg,Zat];rw[ZaK (x:=2*(t.Links.length:Int)) (by omega) (by omega)];by_cases c2:y.length=2*t.Links.length
    ·rw[Zau (by simp;omega),Zav c2,ZfU (l:=y) (p:=λg=>decide (g.Cycle=(lcmL (ofS t u l).1.Periods:Int)*u.Grid)) (bad:=.inr (false,0)) (fin:=.inl ()) (λk hk=>by
      simp only[Zia];rw[Zav (by simpa using hk),ZbH hk,Zak,ZaK (by omega) (by omega),ZaO (by omega)];by_cases c:y[k].Cycle=(lcmL (ofS t u l).1.Periods:Int)*u.Grid<;>simp[c]) (by simp[Zia]) (by omega),Zak]
     by_cases c3:(y.all λg=>decide (g.Cycle=(lcmL (ofS t u l).1.Periods:Int)*u.Grid))=true
     ·rw[Zav c3,Zav c3];simp only;have hk:ZxU t u l o y:=⟨hT,hU,hl,h3,by rw[h1]at ho;exact ho,h1,by rw[h1]at hp;exact hp,c2,λg hg=>of_decide_eq_true (List.all_eq_true.1 c1 g hg),λg hg=>by have:=of_decide_eq_true (List.all_eq_true.1 c3 g hg);rw[h1]at this;exact this⟩;unfold Zey;rw[Zak];have eC:lcmL (ofS t u l).1.Periods=lcmL (accA t u l).P:=by rw[h1]
      rw[eC]at hC h4⊢;obtain⟨r,hr,e⟩:=ZsX (N:=N) (t:=t) (u:=u) (y:=λ(s:(Unit)×Nat) (x1058:Za6)=>ZfJ (λv:Unit=>ZcS N u y ((lcmL (accA t u l).P:Int),0) x1058) s) (q:=λw=>allW u (atP y w).Entries w) (s0:=((),0)) (s1:=((),1)) hT hU hl h3 hk.off (λw hw=>by
       obtain⟨ok,w1,w2,q,q0,q1⟩:=hk.win hw;obtain⟨b,hb,e⟩:=ZYo (N:=N) hu ok h4 hC c2 w1 w2 q0 q1 hN;unfold Zza ZfJ;simp only[Zaw];rw[hb];rcases e with⟨rfl,e⟩|⟨rfl,e⟩
       ·exact .inl ⟨e,rfl⟩
       exact .inr ⟨e,rfl⟩) h2
      rw[hr,Zak];rcases e with⟨rfl,e⟩|⟨rfl,w,hw,e⟩
      ·rw[Zar e];rfl
      rw[decide_eq_false λh=>e (h w hw)];rfl
     rw[Zau c3,Zau c3]
    rw[Zav (by simp;omega),Zau c2]
   rw[Zau c1,Zau c1]
 rw[Zav (by simpa using h0),Zau h0]
end
end Go.Sh

namespace Go.Sh
open Go Go.Eng
def b2i (b:Bool):Int:=if b=true then 1 else 0
def rowI (C:Nat)(G:Nat->Bool):List Int:=(List.range C).map λi=>b2i (G i)
def tabI (n C:Nat)(F:Nat->Nat->Bool):List (List Int):=(List.range n).map λp=>rowI C (F p)
def Zq9 {C:Nat}{G G':Nat->Bool}(h:∀i,i<C->G i=G' i):rowI C G=rowI C G':=List.map_congr_left λi hi=>by rw[h i (List.mem_range.1 hi)]
def Zyl {C i:Nat}{G:Nat->Bool}(hi:i<C):(rowI C G).set i 1=rowI C λk=>G k||decide (i=k):=by
 unfold rowI;refine List.ext_getElem (by simp) λk h1 h2=>?_
 rw[List.getElem_set];simp only[ZT,ZU];by_cases c:i=k
 ·subst c;simp[b2i]
 simp[c]
def Zx4 {n C q:Nat}{F:Nat->Nat->Bool}{G:Nat->Bool}(hq:q<n):(tabI n C F).set q (rowI C G)=tabI n C λp=>if p=q then G else F p:=by
 unfold tabI;refine List.ext_getElem (by simp) λp h1 h2=>?_
 rw[List.getElem_set];simp only[ZT,ZU];by_cases c:q=p
 ·subst c;simp
 rw[Zau c,Zau (Ne.symm c)]
def ZvN {n C:Nat}{F F':Nat->Nat->Bool}(h:∀p,p<n->∀i,i<C->F p i=F' p i):tabI n C F=tabI n C F':=List.map_congr_left λp hp=>Zq9 λi hi=>h p (List.mem_range.1 hp) i hi
def Zw8 {b x y C:Nat}(hx:x<C)(hy:y<C)(h:(b+x)%C=(b+y)%C):x=y:=by
 have h1:=Nat.div_add_mod (b+x) C;have h2:=Nat.div_add_mod (b+y) C;rw[h]at h1;rcases Nat.lt_trichotomy ((b+x)/C) ((b+y)/C)with c|c|c
 ·have:=Nat.mul_le_mul_left C (show(b+x)/C+1<=(b+y)/C by omega);rw[Nat.mul_add,Nat.mul_one]at this;omega
 ·rw[c]at h1;omega
 have:=Nat.mul_le_mul_left C (show(b+y)/C+1<=(b+x)/C by omega);rw[Nat.mul_add,Nat.mul_one]at this;omega
def Zx1 {b P C U m m' j j':Nat}(hP:0<P)(hd:P∣C)(h3:U<=P)(hm:m<C/P)(h0:m'<C/P)(hj:j<U)(h2:j'<U)(h:(b+m*P+j)%C=(b+m'*P+j')%C):m=m'/\j=j':=by
 have hC:C/P*P=C:=Nat.div_mul_cancel hd;have e1:(m+1)*P<=C/P*P:=Nat.mul_le_mul_right P hm;have e2:(m'+1)*P<=C/P*P:=Nat.mul_le_mul_right P h0;rw[Zah,Nat.one_mul]at e1 e2;have:=Zw8 (b:=b) (x:=m*P+j) (y:=m'*P+j') (C:=C) (by omega) (by omega) (by rw[←Zag,←Zag];exact h);have d:∀a c:Nat,c<U->(a*P+c)/P=a:=λa c hc=>by rw[Nat.add_comm,Nat.add_mul_div_right _ _ hP,Nat.div_eq_of_lt (by omega),Zaj]
 have h1:=d m j hj;rw[this,d m' j' h2]at h1;subst h1;exact⟨rfl,by omega⟩
section
variable {N:Nat} {t:Zaz} {u:ZaC} {s:Zax}
structure WN (u:ZaC) (w:Tw) (b P U:Nat):Prop where
 hb:w.h.Open/u.Grid+w.x=b
 hP:w.s.Period=P
 hU:Zdk u w=U
 b1:b<=30000000
 U1:U<=1552000
 P0:0<P
def WN.of (hu:ZeZ u){w:Tw}(ok:TwOK t u w):∃b P U,WN u w b P U:=by
 obtain⟨_,_,⟨c1,c2⟩,_⟩:=ok.num hu;have p1:=ok.s.per1;have p2:=ok.s.per2;have x1:=ok.x1;have x2:=ok.x2;have o1:=ok.h.o1;have o2:=ok.h.o2;have g1:=hu.g1;obtain⟨h2,h1⟩:=Zdd (a:=w.h.Open) (B:=20000000) g1 (by omega) o2 (by omega);have h0:=Int.ediv_nonneg o1 (show 0<=u.Grid by omega);exact⟨(w.h.Open/u.Grid+w.x).toNat,w.s.Period.toNat,(Zdk u w).toNat,by omega,by omega,by omega,by omega,by omega,by omega⟩
def Zyx (hu:ZeZ u){l:List Zax}{o:List Int}{i n:Nat}(hi:i<l.length)(hn:n<o.length){x:ZaZ}(ok:TwOK t u ⟨n,l[i],o.getD n 0,x⟩){b P U m C:Nat}(wn:WN u ⟨n,l[i],o.getD n 0,x⟩ b P U)(hC:0<C)(hh:C<=960)(h7:m*P<=960)(h8:m<=960)(hf:U<=C){G:Nat->Bool}
  (fresh:∀j,j<U->G ((b+m*P+j)%C)=false) (hN:30000000<=N):
  ZaT (λz:Int×(List Int)=>ZbV N (t,u,l,o) (n:Int) (i:Int) x (m:Int) z.1 z.2) N (0,rowI C G)=some (rowI C λk=>G k||(List.range U).any λj=>decide ((b+m*P+j)%C=k)):=by
 have g1:=hu.g1;have g2:=hu.g2;have p1:=ok.s.per1;have p2:=ok.s.per2;have x1:=ok.x1;have x2:=ok.x2;obtain⟨_,_,o1,o2,l1,l2,_⟩:=ok.h;have h1:=wn.hb;have h2:=wn.hP;have h5:=wn.hU;have he:=wn.b1;have hg:=wn.U1;simp only at p1 p2 x1 x2 o1 o2 l1 l2 h1 h2;obtain⟨ha,h9⟩:=Zdd (a:=x.Open) (B:=20000000) g1 (by omega) o2 (by omega);have h6:=Int.ediv_nonneg o1 (show 0<=u.Grid by omega);have h0:∀k:Nat,k<=2000000->((k:Int)*u.Grid<x.Long↔k<U):=λk _=>by
  have e:Zdk u ⟨n,l[i],o.getD n 0,x⟩=(x.Long-1)/u.Grid+1:=by
   unfold Zdk;simp only;rw[show x.Long+u.Grid-1=(x.Long-1)+u.Grid*1 by omega,Int.add_mul_ediv_left _ _ (by omega)]
  rw[h5]at e;obtain⟨d1,d2⟩:=Zk3 (a:=x.Long-1) (G:=u.Grid) (by omega);constructor
  ·intro h;rcases Nat.lt_or_ge k U with c|c
   ·exact c
   have:((x.Long-1)/u.Grid+1)*u.Grid<=(k:Int)*u.Grid:=Int.mul_le_mul_of_nonneg_right (by omega) (by omega);rw[Zl,Int.one_mul]at this;omega
  intro h;have:(k:Int)*u.Grid<=(x.Long-1)/u.Grid*u.Grid:=Int.mul_le_mul_of_nonneg_right (by omega) (by omega);omega
 have key:=(Zl0 (body:=λz:Int×(List Int)=>ZbV N (t,u,l,o) (n:Int) (i:Int) x (m:Int) z.1 z.2) (N:=N) (List.range U) (λ(F:Nat->Bool) j=>λk=>F k||decide ((b+m*P+j)%C=k)) (λk F=>∀j,k<=j->j<U->F ((b+m*P+j)%C)=false) (λk F=>((k:Int),rowI C F)) (fin:=rowI C) (b:=G) (by rw[ZZ];omega) (λj _ hj=>fresh j hj) (λk hk F hF=>by
   rw[ZZ]at hk;rw[ZU];have hr:(b+m*P+k)%C<C:=Nat.mod_lt _ hC;refine⟨?_,λj hj h3=>?_⟩
   ·simp only[ZbV];obtain⟨m1,m2⟩:=mulG (x:=(k:Int)) (by omega) (by omega) g1 g2;have em:(m:Int)*P=((m*P:Nat):Int):=by push_cast;rfl
    rw[ZaK (x:=(k:Int)*u.Grid) (by omega) (by omega),Zav (by simpa using(h0 k (by omega)).2 hk),Zkr g1 (by omega) (by omega),Zak,Zb0 0 (by omega) (by omega),Zak,ZbH hi,Zak,Zs,h2,em,ZaK (x:=x.Open/u.Grid+o.getD n 0) (by omega) (by omega),h1,ZaK (x:=((m*P:Nat):Int)) (by omega) (by omega),ZaK (x:=(b:Int)+((m*P:Nat):Int)) (by omega) (by omega),ZaK (x:=(b:Int)+((m*P:Nat):Int)+k) (by omega) (by omega)];have el:((List.length (rowI C F):Nat):Int)=C:=by simp[rowI]
    have e1:((b:Int)+((m*P:Nat):Int)+k).tmod (C:Int)=(((b+m*P+k)%C:Nat):Int):=by
     rw[show(b:Int)+((m*P:Nat):Int)+k=((b+m*P+k:Nat):Int)by omega];exact(Int.ofNat_tmod _ _).symm
    rw[el,ZcO (by omega),Zak,e1];have h4:idx (rowI C F) (((b+m*P+k)%C:Nat):Int)=some 0:=by
     unfold rowI;rw[Ze6 _ hr,hF k (Nat.le_refl _) hk];rfl
    rw[h4,Zak,Zak,Zs,ZaO (by omega),show w64 ((0:Int)+1)=1 by decide,Zyl hr]
   ·show(F ((b+m*P+j)%C)||decide ((b+m*P+k)%C=(b+m*P+j)%C))=false;rw[hF j (by omega) h3,Bool.false_or,decide_eq_false];intro e;have:=Zw8 (b:=b+m*P) (by omega) (by omega) e;omega) (λF _=>by
   simp only[ZbV,ZZ];obtain⟨m1,m2⟩:=mulG (x:=(U:Int)) (by omega) (by omega) g1 g2;rw[ZaK (x:=(U:Int)*u.Grid) (by omega) (by omega),Zau (by rw[Zas];exact λh=>absurd ((h0 U (by omega)).1 h) (by omega))])).1
 rw[show((0:Nat):Int)=0 from rfl]at key;rw[key]
 congr 2
 have:∀U,(List.range U).foldl (λ(F:Nat->Bool) j=>λk=>F k||decide ((b+m*P+j)%C=k)) G=λk=>G k||(List.range U).any λj=>decide ((b+m*P+j)%C=k):=λU=>by
  induction U with
  |zero=>funext k;simp
  |succ U ih=>
   rw[Zaa,ZD,ih];funext k;simp only[ZE,List.foldl_nil,List.any_append,Zv,List.any_nil,Bool.or_false,Bool.or_assoc]
 exact this U
def Zyy (hu:ZeZ u){l:List Zax}{o:List Int}{i n:Nat}(hi:i<l.length)(hn:n<o.length){x:ZaZ}(ok:TwOK t u ⟨n,l[i],o.getD n 0,x⟩){b P U C:Nat}(wn:WN u ⟨n,l[i],o.getD n 0,x⟩ b P U)(hC:0<C)(h7:C<=960)(hd:P∣C)(h5:U<=P){T:List (List Int)}{G:Nat->Bool}
  (fresh:∀m j,m<C/P->j<U->G ((b+m*P+j)%C)=false) (hN:30000000<=N):
  ZaT (λz:Int×(List Int)=>ZbW N (t,u,l,o) (n:Int) (i:Int) T x z.1 z.2) N (0,rowI C G)=some (T.set x.Port.toNat (rowI C λk=>G k||hitW u ⟨n,l[i],o.getD n 0,x⟩ k)):=by
 have p1:=ok.s.per1;have p2:=ok.s.per2;have h2:=wn.hP;simp only at p1 p2 h2;have h9:C/P*P=C:=Nat.div_mul_cancel hd;have h3:=wn.P0;have h8:P<=C:=Nat.le_of_dvd hC hd;have h6:C/P<=C:=Nat.div_le_self _ _;have eq_:∀F,quoI .i64 ((List.length (rowI C F):Nat):Int) l[i].Period=some ((C/P:Nat):Int):=λF=>by
  have el:((List.length (rowI C F):Nat):Int)=C:=by simp[rowI]
  rw[el,h2,Zkr (by omega) (by omega) (by omega)];rfl
 have key:=(Zl0 (body:=λz:Int×(List Int)=>ZbW N (t,u,l,o) (n:Int) (i:Int) T x z.1 z.2) (N:=N) (List.range (C/P)) (λ(F:Nat->Bool) m=>λk=>F k||(List.range U).any λj=>decide ((b+m*P+j)%C=k)) (λk F=>∀m j,k<=m->m<C/P->j<U->F ((b+m*P+j)%C)=false) (λk F=>((k:Int),rowI C F)) (fin:=λF=>T.set x.Port.toNat (rowI C F)) (b:=G) (by rw[ZZ];omega) (λm j _ hm hj=>fresh m j hm hj) (λk hk F hF=>by
   rw[ZZ]at hk;rw[ZU];refine⟨?_,λm j hm h0 hj=>?_⟩
   ·have h4:(k+1)*P<=C/P*P:=Nat.mul_le_mul_right P hk;rw[Zah,Nat.one_mul]at h4;simp only[ZbW];rw[ZbH hi,Zak,eq_,Zak,Zav (by rw[Zas];exact Int.ofNat_lt.2 hk),Zyx hu hi hn ok wn hC h7 (by omega) (by omega) (by omega) (λj hj=>hF k j (Nat.le_refl _) hk hj) hN,Zak,ZaO (by omega)]
   ·show(F ((b+m*P+j)%C)||(List.range U).any λj'=>decide ((b+k*P+j')%C=(b+m*P+j)%C))=false;rw[hF m j (by omega) h0 hj,Bool.false_or,Bool.eq_false_iff,ne_eq,Zw];rintro⟨j',h1,e⟩;rw[Z5]at h1;rw[Zas]at e;have:=(Zx1 h3 hd h5 hk h0 h1 hj e).1;omega) (λF _=>by
   simp only[ZbW,ZZ];rw[ZbH hi,Zak,eq_,Zak,Zau (by simp)])).1
 rw[show((0:Nat):Int)=0 from rfl]at key;rw[key]
 congr 2
 have:∀M,(List.range M).foldl (λ(F:Nat->Bool) m=>λk=>F k||(List.range U).any λj=>decide ((b+m*P+j)%C=k)) G=λk=>G k||(List.range M).any λm=>(List.range U).any λj=>decide ((b+m*P+j)%C=k):=λM=>by
  induction M with
  |zero=>funext k;simp
  |succ M ih=>
   rw[Zaa,ZD,ih];funext k;simp only[ZE,List.foldl_nil,List.any_append,Zv,List.any_nil,Bool.or_false,Bool.or_assoc]
 rw[this];refine Zq9 λk hk=>?_
 rw[Zxp h3 hd hC hk];unfold hitW;rw[wn.hb,wn.hP,wn.hU]
def Fit.fresh {l:List Zax}{o:List Int}(h:Fit t u l o){A B:List Tw}{w:Tw}(he:(Za3 t u l o).2=A++w::B){q:Nat}(hq:w.h.Port=q){y:Int}(hy:hitI u w y):ZcF u A q (y%((lcmL (accA t u l).P:Nat):Int)).toNat=false:=by
 rw[←Bool.not_eq_true];unfold ZcF;rw[Zw];rintro⟨w',h1,hh⟩;rw[Ze,Zas]at hh;obtain⟨hp,hh⟩:=hh;have h2:=(VP.of h.prob).lpos;simp only at h2;have h3:w'∈(Za3 t u l o).2:=by rw[he];exact List.mem_append_left _ h1
 have hm:w∈(Za3 t u l o).2:=by rw[he];simp
 obtain⟨ok',_,_,_,h5⟩:=h.win h3;obtain⟨ok,_,_,h0,_⟩:=h.win hm;rw[Zxo h2 h5]at hh;obtain⟨j,hj,rfl⟩:=List.getElem_of_mem h1;have hk:A.length<(Za3 t u l o).2.length:=by rw[he];simp
 have h4:j<(Za3 t u l o).2.length:=by omega
 have e1:(Za3 t u l o).2[A.length]=w:=by simp[he]
 have e2:(Za3 t u l o).2[j]=A[j]:=by simp only[he];exact List.getElem_append_left hj
 refine h.apart hk h4 (by omega) (by rw[e1,e2,hq,←hp]) (y:=y) ?_ (by rw[e2];exact hh);rw[e1];exact Zxn (Zbk h.set) ok h0 hy
end
end Go.Sh

namespace Go.Sh
open Go Go.Eng
section
variable {N:Nat} {t:Zaz} {u:ZaC} {s:Zax}
def ZvM (ws:List Tw)(w:Tw)(p i:Nat):ZcF u (ws++[w]) p i=(ZcF u ws p i||(decide ((p:Int)=w.h.Port)&&hitW u w i)):=by
 unfold ZcF;rw[List.any_append];simp
def Zyz {l:List Zax}{o:List Int}(h:Fit t u l o){i n:Nat}(hi:i<l.length)(hn:n<o.length){hs:List ZaZ}{e:Int}(h8:hs.length<=8){pre suf:List Tw}(he:(Za3 t u l o).2=pre++hs.map (Tw.mk n l[i] (o.getD n 0))++suf)(hN:30000000<=N):
  ZaT (λz:Int×(List (List Int))=>Zcc N (t,u,l,o) (n:Int) (i:Int) (hs,e) z.1 z.2) N (0,tabI (2*t.Links.length) (lcmL (accA t u l).P) (ZcF u pre))=some (tabI (2*t.Links.length) (lcmL (accA t u l).P) (ZcF u (pre++hs.map (Tw.mk n l[i] (o.getD n 0))))):=by
 have hu:=Zbk h.set;have hv:=VP.of h.prob;have hC:=hv.lcm;have hf:=hv.lpos;simp only at hC hf;obtain⟨r,hr,er⟩:=ZbK (body:=λz:Int×(List (List Int))=>Zcc N (t,u,l,o) (n:Int) (i:Int) (hs,e) z.1 z.2)
  (λz=>∃k:Nat,z=((k:Int),tabI (2*t.Links.length) (lcmL (accA t u l).P) (ZcF u (pre++(hs.take k).map (Tw.mk n l[i] (o.getD n 0)))))/\k<=hs.length) (λz=>(hs.length-z.1).toNat)
  (λr=>r=tabI (2*t.Links.length) (lcmL (accA t u l).P) (ZcF u (pre++hs.map (Tw.mk n l[i] (o.getD n 0))))) (λz hz=>by
   obtain⟨k,rfl,hk⟩:=hz;simp only[Zcc];by_cases c:k<hs.length
   ·left;obtain⟨w,hw⟩:∃w,w=(⟨n,l[i],o.getD n 0,hs[k]⟩:Tw):=⟨_,rfl⟩;have h0:hs.map (Tw.mk n l[i] (o.getD n 0))=(hs.take k).map (Tw.mk n l[i] (o.getD n 0))++w::(hs.drop (k+1)).map (Tw.mk n l[i] (o.getD n 0)):=by
     rw[hw,←Z3,←Z2,←Zgu c,List.take_append_drop]
    have ha:(Za3 t u l o).2=(pre++(hs.take k).map (Tw.mk n l[i] (o.getD n 0)))++w::((hs.drop (k+1)).map (Tw.mk n l[i] (o.getD n 0))++suf):=by
     rw[he,h0];simp
    have hm:w∈(Za3 t u l o).2:=by rw[ha];simp
    obtain⟨ok,_,_,h9,hd⟩:=h.win hm;obtain⟨b,P,U,wn⟩:=WN.of hu ok;obtain⟨e1,e2,_⟩:=ZwB hu ok;have h4:=ok.port;simp only[ZcD,Ze,Zas]at h4;obtain⟨q,hq⟩:∃q:Nat,w.h.Port=q:=⟨w.h.Port.toNat,by omega⟩;have h7:q<2*t.Links.length:=by omega
    have h6:hs[k].Port=q:=by rw[hw]at hq;exact hq
    have hh:P∣lcmL (accA t u l).P:=by
     rw[wn.hP]at hd;exact Int.natCast_dvd_natCast.1 hd
    have hg:U<=P:=by
     have a:=wn.hP;have b:=wn.hU;omega
    refine⟨(((k+1:Nat):Int),tabI (2*t.Links.length) (lcmL (accA t u l).P) (ZcF u (pre++(hs.take (k+1)).map (Tw.mk n l[i] (o.getD n 0))))),?_,⟨k+1,rfl,by omega⟩,by simp only;omega⟩;have h5:idx (tabI (2*t.Links.length) (lcmL (accA t u l).P) (ZcF u (pre++(hs.take k).map (Tw.mk n l[i] (o.getD n 0))))) hs[k].Port=some (rowI (lcmL (accA t u l).P) (ZcF u (pre++(hs.take k).map (Tw.mk n l[i] (o.getD n 0))) q)):=by
     rw[h6];exact Ze6 _ h7
    subst hw;rw[Zav (by simpa using c),ZbH c,Zak,h5,Zak,Zyy hu hi hn ok wn hf hC hh hg (λm j _ hj=>by
     have hy:hitI u ⟨n,l[i],o.getD n 0,hs[k]⟩ ((b+m*P+j:Nat):Int):=by
      unfold hitI;have h1:=wn.hb;have h2:=wn.hP;have h3:=wn.hU;have e0:((b+m*P+j:Nat):Int)-opW u ⟨n,l[i],o.getD n 0,hs[k]⟩=(j:Int)+P*m:=by
       unfold opW;rw[h1]
       push_cast
       rw[Zp (P:Int) m];omega
      rw[e0,h2,h3,Zm,Zo (by omega) (by omega)];omega
     have:=h.fresh ha hq hy
     rwa [←Int.natCast_emod,Zs]at this) hN,Zak,ZaO (by omega),h6,Zs,Zx4 h7]
    congr 3
    refine ZvN λp hp k' ht=>?_
    rw[ZcJ c,Z2,←Zx,List.map_singleton,ZvM];by_cases d:p=q
    ·subst d;rw[Zav rfl,Zar h6.symm,Zk]
    rw[Zau d,decide_eq_false (by show ¬(p:Int)=hs[k].Port;omega),Bool.false_and,Bool.or_false]
   right;obtain rfl:k=hs.length:=by omega
   rw[Zau (by simp),Zad];exact⟨_,rfl,rfl⟩) N (0,tabI (2*t.Links.length) (lcmL (accA t u l).P) (ZcF u pre)) ⟨0,by simp,by omega⟩ (by simp only;omega)
 rw[hr,er]
def ZyA {l:List Zax}{o:List Int}(h:Fit t u l o){i n:Nat}(hi:i<l.length)(hn:n<o.length)(ss:SS t l[i]){pre suf:List Tw}(he:(Za3 t u l o).2=pre++ZhK t u n l[i] (o.getD n 0)++suf)(hN:30000000<=N):
  ZaT (λz:Int×(List (List Int))=>Zcd N (t,u,l,o) (n:Int) (i:Int) z.1 z.2) N (0,tabI (2*t.Links.length) (lcmL (accA t u l).P) (ZcF u pre))=some (.inl (tabI (2*t.Links.length) (lcmL (accA t u l).P) (ZcF u (pre++ZhK t u n l[i] (o.getD n 0))))):=by
 have r2:=ss.r2;obtain⟨r,hr,er⟩:=ZbK (body:=λz:Int×(List (List Int))=>Zcd N (t,u,l,o) (n:Int) (i:Int) z.1 z.2)
  (λz=>∃k:Nat,z=((k:Int),tabI (2*t.Links.length) (lcmL (accA t u l).P) (ZcF u (pre++(l[i].Routes.take k).flatMap (ZmU t u n l[i] (o.getD n 0)))))/\k<=l[i].Routes.length) (λz=>(l[i].Routes.length-z.1).toNat)
  (λr=>r=.inl (tabI (2*t.Links.length) (lcmL (accA t u l).P) (ZcF u (pre++ZhK t u n l[i] (o.getD n 0))))) (λz hz=>by
   obtain⟨k,rfl,hk⟩:=hz;simp only[Zcd];by_cases c:k<l[i].Routes.length
   ·left;have hv:=ss.rt _ (List.getElem_mem c);have h8:=(Zch hv).2.1;have h0:ZhK t u n l[i] (o.getD n 0)=(l[i].Routes.take k).flatMap (ZmU t u n l[i] (o.getD n 0))++((Zgt t u l[i] l[i].Routes[k]).map (Tw.mk n l[i] (o.getD n 0))++(l[i].Routes.drop (k+1)).flatMap (ZmU t u n l[i] (o.getD n 0))):=by
     have e2:(Zgt t u l[i] l[i].Routes[k]).map (Tw.mk n l[i] (o.getD n 0))=ZmU t u n l[i] (o.getD n 0) l[i].Routes[k]:=rfl;unfold ZhK;rw[e2,←List.flatMap_cons,←Zgu c,←List.flatMap_append,List.take_append_drop]
    have h1:(Za3 t u l o).2=(pre++(l[i].Routes.take k).flatMap (ZmU t u n l[i] (o.getD n 0)))++(Zgt t u l[i] l[i].Routes[k]).map (Tw.mk n l[i] (o.getD n 0))++((l[i].Routes.drop (k+1)).flatMap (ZmU t u n l[i] (o.getD n 0))++suf):=by
     rw[he,h0];simp
    have e:=Zyz (N:=N) (e:=0) h hi hn (hs:=Zgt t u l[i] l[i].Routes[k]) (by simp[Zgt];omega) h1 hN;unfold Zgt at e;refine⟨(((k+1:Nat):Int),_),?_,⟨k+1,rfl,by omega⟩,by simp only;omega⟩;rw[ZbH hi,Zak,Zav (by simpa using c),Zak,Ze0 h.topo h.set ss.str ss.cls (by omega) (by omega) (by omega),Zak,ZiC k c,Zau (by simp),e,Zak,ZaO (by omega),ZcJ c,List.flatMap_append];simp[ZmU,Zgt]
   right;obtain rfl:k=l[i].Routes.length:=by omega
   rw[ZbH hi,Zak,Zau (by simp),Zad];exact⟨_,rfl,rfl⟩) N (0,tabI (2*t.Links.length) (lcmL (accA t u l).P) (ZcF u pre)) ⟨0,by simp,by omega⟩ (by simp only;omega)
 rw[hr,er]
def ZsR (o:List Int):∀(l:List Zax) (a:Nat×List Tw),∃suf,(l.foldl (Zj3 t u o) a).2=a.2++suf
 |[],a=>⟨[],by simp⟩
 |s::l,a=>by
  obtain⟨suf,e⟩:=ZsR o l (Zj3 t u o a s);rw[ZE,e];unfold Zj3;split
  ·exact⟨ZhK t u a.1 s (o.getD a.1 0)++suf,by rw[Zx]⟩
  exact⟨suf,rfl⟩
def ZyB {l:List Zax}{o:List Int}(h:Fit t u l o)(hN:30000000<=N):
  ZaT (λz:Int×Int×(List (List Int))=>Zce N (t,u,l,o) z.1 z.2.1 z.2.2) N (0,0,tabI (2*t.Links.length) (lcmL (accA t u l).P) λ_ _=>false)=some (.inl (tabI (2*t.Links.length) (lcmL (accA t u l).P) (ZcF u (Za3 t u l o).2))):=by
 have g:=Zbg.1 h.topo;have hu:=Zbk h.set;have h4:=h.l12;obtain⟨r,hr,er⟩:=ZbK (body:=λz:Int×Int×(List (List Int))=>Zce N (t,u,l,o) z.1 z.2.1 z.2.2)
  (λz=>∃k:Nat,z=(((Za3 t u (l.take k) o).1:Int),(k:Int),tabI (2*t.Links.length) (lcmL (accA t u l).P) (ZcF u (Za3 t u (l.take k) o).2))/\k<=l.length) (λz=>(l.length-z.2.1).toNat)
  (λr=>r=.inl (tabI (2*t.Links.length) (lcmL (accA t u l).P) (ZcF u (Za3 t u l o).2))) (λz hz=>by
   obtain⟨k,rfl,hk⟩:=hz;simp only[Zce];by_cases c:k<l.length
   ·left;refine⟨(((Za3 t u (l.take (k+1)) o).1:Int),((k+1:Nat):Int),tabI (2*t.Links.length) (lcmL (accA t u l).P) (ZcF u (Za3 t u (l.take (k+1)) o).2)),?_,⟨k+1,rfl,by omega⟩,by simp only;omega⟩;rw[Zav (by simpa using c),ZbH c,Zak,ZaO (n:=k) (by omega)];have ex:=Zg9 (t:=t) (u:=u) l o k c;unfold Zj3 at ex;by_cases hc:l[k].Class=7
    ·obtain⟨h1,h2,h3⟩:=Zvb c hc h.off;have hs:=SS.of (h.str _ (List.getElem_mem c)) hc;have h7:=Zj6 (t:=t) (u:=u) (l.take k) o;have h8:=(ZhJ (t:=t) (u:=u) g hu (l:=l.take k) λx hx=>h.str x (List.mem_of_mem_take hx)).pl;rw[Z1]at h8;rw[Zav hc]at ex;obtain⟨suf,h0⟩:=ZsR (t:=t) (u:=u) o (l.drop (k+1)) (Za3 t u (l.take (k+1)) o);have he:(Za3 t u l o).2=(Za3 t u (l.take k) o).2++ZhK t u (Za3 t u (l.take k) o).1 l[k] (o.getD (Za3 t u (l.take k) o).1 0)++suf:=by
      have h9:(Za3 t u l o).2=(Za3 t u (l.take (k+1)) o).2++suf:=by
       rw[←h0];unfold Za3;rw[←ZD,List.take_append_drop]
      rw[h9,ex]
     rw[Zau (by simpa using hc),ZyA (N:=N) h c h1 hs he hN,Zak,ex,ZaO (n:=(Za3 t u (l.take k) o).1) (by omega)]
    rw[Zau hc]at ex;rw[Zav (by simpa using hc),ex]
   right;obtain rfl:k=l.length:=by omega
   rw[Zau (by simp),Zad];exact⟨_,rfl,rfl⟩) N (0,0,tabI (2*t.Links.length) (lcmL (accA t u l).P) λ_ _=>false) ⟨0,by simp only[Za3,List.take_zero,List.foldl_nil];rfl,by omega⟩ (by simp only;omega)
 rw[hr,er]
def ZyU {C:Nat}{G:Int}(hG:1<=G)(hC:C<=960)(h2:G<=10000):remI ((C:Int)*G) G=some 0/\quoI .i64 ((C:Int)*G) G=some (C:Int)/\0<=(C:Int)*G/\(C:Int)*G<=9600000:=by
 have h0:0<=(C:Int)*G:=Int.mul_nonneg (by omega) (by omega);have h1:(C:Int)*G<=9600000:=by
  calc (C:Int)*G<=960*10000:=Int.mul_le_mul (by omega) h2 (by omega) (by omega)
   _=_:=by decide
 refine⟨?_,?_,h0,h1⟩
 ·rw[ZcO (by omega),Zr h0,Int.mul_emod_left]
 rw[Zkr hG h0 (by omega),Int.mul_ediv_cancel _ (by omega)]
def ZyC {l:List Zax}{o:List Int}(h:Fit t u l o)(hN:30000000<=N):
  ZaT (λz:Int×(List (List Int))=>Zcf N (t,u,l,o) (ZeN t u (Za3 t u l o).2 (lcmL (accA t u l).P),0) z.1 z.2) N (0,[])=some (.inl (tabI (2*t.Links.length) (lcmL (accA t u l).P) λ_ _=>false)):=by
 have g:=Zbg.1 h.topo;have hu:=Zbk h.set;have g1:=hu.g1;have g2:=hu.g2;have h2:=g.l24;have hv:=VP.of h.prob;have hC:=hv.lcm;have h1:=hv.lpos;simp only at hC h1;obtain⟨c1,c2,c3,c4⟩:=ZyU (C:=lcmL (accA t u l).P) g1 hC g2;obtain⟨r,hr,er⟩:=ZbK (body:=λz:Int×(List (List Int))=>Zcf N (t,u,l,o) (ZeN t u (Za3 t u l o).2 (lcmL (accA t u l).P),0) z.1 z.2)
  (λz=>∃k:Nat,z=((k:Int),tabI k (lcmL (accA t u l).P) λ_ _=>false)/\k<=2*t.Links.length) (λz=>((2*t.Links.length:Nat)-z.1).toNat)
  (λr=>r=.inl (tabI (2*t.Links.length) (lcmL (accA t u l).P) λ_ _=>false)) (λz hz=>by
   obtain⟨k,rfl,hk⟩:=hz;have h0:(ZeN t u (Za3 t u l o).2 (lcmL (accA t u l).P)).length=2*t.Links.length:=by simp[ZeN]
   simp only[Zcf];by_cases c:k<2*t.Links.length
   ·left;have em:Zgs 8 ((lcmL (accA t u l).P:Nat):Int) ((lcmL (accA t u l).P:Nat):Int) (0:Int)=some (List.replicate (lcmL (accA t u l).P) 0):=by
     unfold Zgs;rw[Zav (by omega),Zs]
    have ec:(ZmD u (Za3 t u l o).2 (lcmL (accA t u l).P) k).Cycle=(lcmL (accA t u l).P:Int)*u.Grid:=rfl;have ec0:(ZmD u (Za3 t u l o).2 (lcmL (accA t u l).P) 0).Cycle=(lcmL (accA t u l).P:Int)*u.Grid:=rfl;have g0:idx (ZeN t u (Za3 t u l o).2 (lcmL (accA t u l).P)) 0=some (ZmD u (Za3 t u l o).2 (lcmL (accA t u l).P) 0):=Zsv (q:=0) (by omega);refine⟨(((k+1:Nat):Int),tabI (k+1) (lcmL (accA t u l).P) λ_ _=>false),?_,⟨k+1,rfl,by omega⟩,by simp only;omega⟩;rw[Zav (by rw[h0,Zas];exact Int.ofNat_lt.2 c),Zsv c,Zak,Zis (by omega),Zav (h.valid k).1,Zak,Zau (by simp),Zak,g0,Zak,ec,ec0,Zau (by simp),Zak,ec,c1,Zak,Zak,Zau (by simp),Zak,ec,c2,Zak,em,Zak,Zd9 (by simp[tabI];omega) (by omega),Zak,ZaO (by omega)]
    congr 3
    unfold tabI;rw[Zaa,Z2];simp[rowI,b2i,List.map_const']
   right;obtain rfl:k=2*t.Links.length:=by omega
   rw[Zau (by rw[h0];simp)];exact⟨_,rfl,rfl⟩) N (0,[]) ⟨0,by simp[tabI],by omega⟩ (by simp only;omega)
 rw[hr,er]
def Zyv {l:List Zax}{o:List Int}(h:Fit t u l o){p:Nat}(hp:p<2*t.Links.length)(hN:30000000<=N):
  ZaT (λx:Int=>ZdP N (t,u,l,o) (ZeN t u (Za3 t u l o).2 (lcmL (accA t u l).P),0) (tabI (2*t.Links.length) (lcmL (accA t u l).P) (ZcF u (Za3 t u l o).2)) (p:Int) x) N 0=some (.inl ()):=by
 have hu:=Zbk h.set;have g1:=hu.g1;have g2:=hu.g2;have hv:=VP.of h.prob;have hC:=hv.lcm;have h5:=hv.lpos;simp only at hC h5;obtain⟨C,eC⟩:∃C,C=lcmL (accA t u l).P:=⟨_,rfl⟩;have h1:idx (tabI (2*t.Links.length) (lcmL (accA t u l).P) (ZcF u (Za3 t u l o).2)) (p:Int)=some (rowI (lcmL (accA t u l).P) (ZcF u (Za3 t u l o).2 p)):=Ze6 _ hp;have h2:(rowI (lcmL (accA t u l).P) (ZcF u (Za3 t u l o).2 p)).length=lcmL (accA t u l).P:=by simp[rowI]
 have h0:∀(τ:Int) (k:Nat),k<lcmL (accA t u l).P->τ/u.Grid=k→ -1000000<=τ->τ<=100000000->ZfV N (ZmD u (Za3 t u l o).2 (lcmL (accA t u l).P) p) τ=some (ZfR (ZcF u (Za3 t u l o).2 p k),0):=λτ k hk e a b=>by
  have h3:errS (ZmD u (Za3 t u l o).2 (lcmL (accA t u l).P) p) 0 τ 0=0:=by unfold errS;rw[Zav (h.valid p).1,Zav (by omega)]
  rw[ZmC (by omega),Zav h3,h.mask p,e,Zo (by omega) (by omega),Zs]
 rw[Zbm (n:=lcmL (accA t u l).P) (p:=λ_=>true) (bad:=.inr false) (fin:=.inl ()) (λk hk=>by
  simp only[ZdP];obtain⟨m1,m2⟩:=mulG (x:=(k:Int)) (by omega) (by omega) g1 g2;have kg:(k:Int)*u.Grid<=9600000:=by
   calc (k:Int)*u.Grid<=960*10000:=Int.mul_le_mul (by omega) g2 (by omega) (by omega)
    _=_:=by decide
  have eS:((k:Int)+1)*u.Grid=k*u.Grid+u.Grid:=by rw[Zl,Int.one_mul]
  have d1:(k:Int)*u.Grid/u.Grid=k:=Int.mul_ediv_cancel _ (by omega);have d2:((k:Int)*u.Grid+u.Grid-1)/u.Grid=k:=ZmH (q:=(k:Int)) (by omega) (by omega) (by omega);have h4:idx (rowI (lcmL (accA t u l).P) (ZcF u (Za3 t u l o).2 p)) (k:Int)=some (b2i (ZcF u (Za3 t u l o).2 p k)):=Ze6 _ hk;rw[h1,Zak,h2,Zav (by simpa using hk),Zsv hp,Zak,ZaK (x:=(k:Int)*u.Grid) (by omega) (by omega),h0 _ k hk d1 (by omega) (by omega),Zak,Zak,ZaK (x:=(k:Int)+1) (by omega) (by omega),eS,ZaK (x:=(k:Int)*u.Grid+u.Grid) (by omega) (by omega),ZaK (x:=(k:Int)*u.Grid+u.Grid-1) (by omega) (by omega),h0 _ k hk d2 (by omega) (by omega),Zak,Zak,h4,Zak,Zak];cases hx:ZcF u (Za3 t u l o).2 p k with
  |true=>simp[b2i,ZfR,h4,hx,ZaO (n:=k) (by omega)]
  |false=>simp[b2i,ZfR,h4,hx,ZaO (n:=k) (by omega)]) (by
  simp only[ZdP];rw[h1,Zak,h2,Zau (by simp)]) (by omega)]
 rw[Zav (Zbr.2 λ_ _=>rfl)]
def Zyw {l:List Zax}{o:List Int}(h:Fit t u l o)(hN:30000000<=N):
  ZaT (λx:Int=>ZdQ N (t,u,l,o) (ZeN t u (Za3 t u l o).2 (lcmL (accA t u l).P),0) (tabI (2*t.Links.length) (lcmL (accA t u l).P) (ZcF u (Za3 t u l o).2)) x) N 0=some (.inl ()):=by
 have h1:=(Zbg.1 h.topo).l24;have h0:(ZeN t u (Za3 t u l o).2 (lcmL (accA t u l).P)).length=2*t.Links.length:=by simp[ZeN]
 rw[Zbm (n:=2*t.Links.length) (p:=λ_=>true) (bad:=.inr false) (fin:=.inl ()) (λk hk=>by
  simp only[ZdQ];rw[Zav (by rw[h0,Zas];exact Int.ofNat_lt.2 hk),Zyv h hk hN,Zak,ZaO (by omega)];rfl) (by simp only[ZdQ];rw[Zau (by rw[h0];simp)]) (by omega)]
 rw[Zav (Zbr.2 λ_ _=>rfl)]
def Fit.all {l:List Zax}{o:List Int}(h:Fit t u l o):∀w∈(Za3 t u l o).2,allW u (atP (ZeN t u (Za3 t u l o).2 (lcmL (accA t u l).P)) w).Entries w:=λw hw z k k0 k1=>by
 have ok:=(h.win hw).1;have h0:=ok.port;simp only[ZcD,Ze,Zas]at h0;obtain⟨q,hq⟩:∃q:Nat,w.h.Port=q:=⟨w.h.Port.toNat,by omega⟩;have e:atP (ZeN t u (Za3 t u l o).2 (lcmL (accA t u l).P)) w=ZmD u (Za3 t u l o).2 (lcmL (accA t u l).P) q:=by
  unfold atP ZeN;rw[hq,Zs,ZbE (by simp;omega)];simp[ZmD]
 rw[e];have:=h.open hw hq (m:=z) k0 k1
 rwa [Zl,show w.x*u.Grid+z*w.s.Period*u.Grid+w.h.Open+k=w.h.Open+w.x*u.Grid+z*w.s.Period*u.Grid+k by omega,Int.mul_assoc]at this
open Classical in
def Fit.holds {l:List Zax} {o:List Int} (h:Fit t u l o):Zvl t u l o (ZeN t u (Za3 t u l o).2 (lcmL (accA t u l).P))=(true,0):=by
 unfold Zvl;rw[h.of];simp only;rw[Zav trivial,Zav h.off,Zav (List.all_eq_true.2 λg hg=>by
  obtain⟨p,_,rfl⟩:=List.mem_map.1 hg;exact Zar (h.valid p).1),Zav (by simp[ZeN]),Zav (List.all_eq_true.2 λg hg=>by
  obtain⟨p,_,rfl⟩:=List.mem_map.1 hg;exact Zar rfl),Zar h.all]
def synthOpens_true (c:ZfS)(hc:ZjR c):∃N,ZgE N c=some true:=by
 refine⟨30000000+c.L.length,?_⟩;obtain⟨N,eN⟩:∃N,N=30000000+c.L.length:=⟨_,rfl⟩;rw[←eN];obtain⟨t,u,l,o,h2,_⟩:=Zxd (N:=N) hc (by omega);have hN:30000000<=N:=by omega
 unfold ZgE;rw[Zzr (by omega),Zak,Zau (by simp),h2,Zak];simp only;rw[Zqm _ _ hN,Zak];by_cases h0:(ZlE t u l o).2=0
 ·obtain⟨hf,eg⟩:=Zxe h0;have h3:=(Zbg.1 hf.topo).l24;rw[Zau (by simpa using h0)];have e:ZlE t u l o=(ZeN t u (Za3 t u l o).2 (lcmL (accA t u l).P),0):=by rw[←eg,←h0]
  have h1:(ZeN t u (Za3 t u l o).2 (lcmL (accA t u l).P)).length=2*t.Links.length:=by simp[ZeN]
  rw[e];simp only;rw[Zqn _ _ (by omega) hN,hf.holds,Zak,h1,ZaK (x:=2*(t.Links.length:Int)) (by omega) (by omega),Zau (by simp),ZyC hf hN,Zak];simp only;rw[ZyB hf hN,Zak];simp only;rw[Zyw hf hN,Zak]
 rw[Zav (by simpa using h0),Zxf h0];rfl
end
end Go.Sh

