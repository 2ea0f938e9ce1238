/-Part of the proof. -/
import Derived.Test.YtlajapegdomhfaaGreatSynthRoomPlm2
set_option linter.all false
namespace Go.Sh
open Go Go.Eng
theorem Zzs {α:Type}{l:List α}(h:l≠[]):∃a e,l=a++[e]:=⟨l.dropLast,l.getLast h,(List.dropLast_concat_getLast h).symm⟩
theorem ZxB (G:Int)(a:List ZaF)(e:ZaF)(m:Int):addE G (a++[e]) m=if e.Mask=m then a++[⟨e.Mask,e.Long+G⟩]else a++[e]++[⟨m,G⟩]:=by
 have h:ZfA (a++[e])=e:=by simp[ZfA]
 unfold addE;rw[h];by_cases c:e.Mask=m
 ·rw[Zar ⟨by simp,c⟩,Zar c];simp
 rw[Zaq λh=>c h.2,Zaq c]
def atM (l:List ZaF)(r m:Int):Prop:=∃i e s,l[i]?=some e/\0<=s/\s<e.Long/\r=sumL (l.take i)+s/\e.Mask=m
theorem Zxx {l:List ZaF}{r m:Int}(h:atM l r m)(x:List ZaF):atM (l++x) r m:=by
 obtain⟨i,e,s,h1,h2,h3,h4,h5⟩:=h;have hi:i<l.length:=by
  rcases Nat.lt_or_ge i l.length with c|c
  ·exact c
  rw[ZJ c]at h1;cases h1
 exact⟨i,e,s,by rw[ZD hi];exact h1,h2,h3,by rw[Z9 (by omega)];exact h4,h5⟩
theorem Zor {l:List ZaF}{e:ZaF}{s:Int}(h0:0<=s)(h1:s<e.Long):atM (l++[e]) (sumL l+s) e.Mask:=
 ⟨l.length,e,s,by simp,h0,h1,by rw[List.take_left],rfl⟩
theorem ZyI {l:List ZaF}{e e':ZaF}(hm:e'.Mask=e.Mask)(hl:e.Long<=e'.Long){r m:Int}(h:atM (l++[e]) r m):atM (l++[e']) r m:=by
 obtain⟨i,f,s,h1,h2,h3,h4,h5⟩:=h;rcases Nat.lt_trichotomy i l.length with c|c|c
 ·rw[ZD c]at h1;rw[Z9 (by omega)]at h4;exact Zxx ⟨i,f,s,h1,h2,h3,h4,h5⟩ [e']
 ·subst c;simp only[List.getElem?_concat_length,Zaj]at h1;subst h1;rw[List.take_left]at h4;have:=Zor (l:=l) (e:=e') h2 (by omega)
  rwa [←h4,hm,h5]at this
 rw[ZJ (by simp;omega)]at h1;cases h1
theorem ZiH (e:ZaF):sumL [e]=e.Long:=by simp[sumL]
structure Runs (G:Int) (F:Nat->Bool) (k:Nat) (l:List ZaF):Prop where
 sum:sumL l=(k:Int)*G
 ok:∀e∈l,(e.Mask=127∨e.Mask=128)/\1<=e.Long
 at_:∀r:Int,0<=r->r<(k:Int)*G->atM l r (ZgM (F (r/G).toNat))
 last:∀a e,l=a++[e]->e.Mask=ZgM (F (k-1))
 ne:0<k->l≠[]
 cnt:l.length<=(List.range k).countP λi=>decide (i=0)||F i !=F (i-1)
theorem ZtE (b:Bool):ZgM b=127∨ZgM b=128:=by cases b<;>simp[ZgM]
theorem Runs.step {G:Int}(hG:1<=G){F:Nat->Bool}{k:Nat}{l:List ZaF}(h:Runs G F k l):Runs G F (k+1) (addE G l (ZgM (F k))):=by
 have hk:((k+1:Nat):Int)*G=(k:Int)*G+G:=by rw[show((k+1:Nat):Int)=(k:Int)+1 by omega,Int.add_mul,Int.one_mul]
 have hdiv:∀r:Int,(k:Int)*G<=r->r<(k:Int)*G+G->(r/G).toNat=k:=λr h1 h2=>by
  rw[Zon (q:=(k:Int)) (by omega) h1 h2];omega
 have hcnt:(List.range (k+1)).countP (λi=>decide (i=0)||F i !=F (i-1))=(List.range k).countP (λi=>decide (i=0)||F i !=F (i-1))+(if(decide (k=0)||F k !=F (k-1))=true then 1 else 0):=Zhw k _;by_cases hn:l=[]
 ·subst hn;have h0:k=0:=by
   rcases Nat.eq_zero_or_pos k with c|c
   ·exact c
   exact absurd rfl (h.ne c)
  subst h0;have e:addE G [] (ZgM (F 0))=[⟨ZgM (F 0),G⟩]:=by simp[addE]
  rw[e];refine⟨by rw[ZiH,hk];show G=_;simp,λx hx=>?_,λr r0 r1=>?_,λa x hx=>?_,λ_=>by simp,by rw[hcnt];simp⟩
  ·rw[List.mem_singleton.1 hx];exact⟨ZtE _,hG⟩
  ·have hd:=hdiv r (by omega) (by omega);rw[hd];have:=Zor (l:=[]) (e:=⟨ZgM (F 0),G⟩) r0 (by simp only;omega);simpa[sumL]using this
  have:=congrArg List.getLast? hx;simp at this;rw[←this]
 obtain⟨a,e,rfl⟩:=Zzs hn;have hlast:=h.last a e rfl;have hsum:=h.sum;rw[Zd2,ZiH]at hsum;have hoke:=h.ok e (by simp);have k0:0<k:=by
  rcases Nat.eq_zero_or_pos k with c|c
  ·subst c;have hc:=h.cnt;simp at hc
  exact c
 rw[ZxB];by_cases c:e.Mask=ZgM (F k)
 ·rw[Zar c];refine⟨by rw[Zd2,ZiH,hk];simp only;omega,λx hx=>?_,λr r0 r1=>?_,λa' x hx=>?_,λ_=>by simp,?_⟩
  ·rcases List.mem_append.1 hx with hx|hx
   ·exact h.ok x (List.mem_append_left _ hx)
   rw[List.mem_singleton.1 hx];exact⟨hoke.1,by simp only;omega⟩
  ·by_cases d:r<(k:Int)*G
   ·exact ZyI (e:=e) (e':=⟨e.Mask,e.Long+G⟩) rfl (show e.Long<=e.Long+G by omega) (h.at_ r r0 d)
   rw[hdiv r (by omega) (by omega)];have:=Zor (l:=a) (e:=⟨e.Mask,e.Long+G⟩) (s:=r-sumL a) (by omega) (by simp only;omega);rw[show sumL a+(r-sumL a)=r by omega]at this;simp only[c]at this⊢;exact this
  ·obtain⟨_,rfl⟩:=List.append_singleton_inj.1 hx;exact c
  have:=h.cnt;rw[hcnt];simp only[ZS,ZX]at this⊢;omega
 rw[Zaq c];refine⟨by rw[Zd2,Zd2,ZiH,ZiH,hk];simp only;omega,λx hx=>?_,λr r0 r1=>?_,λa' x hx=>?_,λ_=>by simp,?_⟩
 ·rcases List.mem_append.1 hx with hx|hx
  ·exact h.ok x hx
  rw[List.mem_singleton.1 hx];exact⟨ZtE _,hG⟩
 ·by_cases d:r<(k:Int)*G
  ·exact Zxx (h.at_ r r0 d) _
  rw[hdiv r (by omega) (by omega)];have:=Zor (l:=a++[e]) (e:=⟨ZgM (F k),G⟩) (s:=r-sumL (a++[e])) (by rw[Zd2,ZiH];omega) (by rw[Zd2,ZiH];simp only;omega)
  rwa [show sumL (a++[e])+(r-sumL (a++[e]))=r by omega]at this
 ·obtain⟨_,rfl⟩:=List.append_singleton_inj.1 hx;rfl
 have hc:=h.cnt;have hne:(decide (k=0)||F k !=F (k-1))=true:=by
  rw[hlast]at c;have:F k≠F (k-1):=λhh=>c (by rw[hh])
  simp[this]
 rw[hcnt,Zar hne];simp only[ZS,ZX]at hc⊢;omega
theorem ZsX {G:Int}(hG:1<=G)(F:Nat->Bool):∀k,Runs G F k (Zqb G ((List.range k).map F))
 |0=>⟨by simp[Zqb,sumL],by simp[Zqb],λr h0 h1=>by simp at h1;omega,by simp[Zqb],by simp,by simp[Zqb]⟩
 |k+1=>by
  have:=(ZsX hG F k).step hG;unfold Zqb at this⊢;rw[Z7,ZZ,ZA];exact this
theorem Zms {n:Nat}{q:Nat->Bool}(h:∀i j,i<n->j<n->q i=true->q j=true->i=j):(List.range n).countP q<=1:=by
 rcases Nat.lt_or_ge 1 ((List.range n).countP q)with c|c
 ·obtain⟨k,m,h1,h2,h3,h4,h5⟩:=Zze.1 c;exact absurd (h k m h1 h2 h4 h5) h3
 exact c
theorem ZlP {n:Nat}{p q:Nat->Bool}(h:∀i,i<n->p i=true->q i=true):(List.range n).countP p<=(List.range n).countP q:=
 List.countP_mono_left λi hi hp=>h i (List.mem_range.1 hi) hp
theorem ZpP {n:Nat}(p q:Nat->Bool):(List.range n).countP (λi=>p i||q i)<=(List.range n).countP p+(List.range n).countP q:=by
 induction n with
 |zero=>simp
 |succ n ih=>
  rw[Zhw,Zhw,Zhw];cases p n<;>cases q n<;>simp<;>omega
theorem ZpO {P:Nat}(hP:0<P)(b:Int):∀c:Nat,(List.range (P*c)).countP (λj:Nat=>decide (((j:Int)-b)%P=0))<=c
 |0=>by simp
 |c+1=>by
  have ih:=ZpO hP b c;rw[Nat.mul_succ,List.range_add,List.countP_append,List.countP_map];have:(List.range P).countP ((λj:Nat=>decide (((j:Int)-b)%P=0)) ∘ λx=>P*c+x)<=1:=by
   refine Zms λi j hi hj h1 h2=>?_
   simp only[Function.comp_apply,Zao]at h1 h2;have h3:=Int.emod_eq_emod_iff_emod_sub_eq_zero.1 (h1.trans h2.symm);rw[show(((P*c+i:Nat):Int)-b)-(((P*c+j:Nat):Int)-b)=(i:Int)-j by omega]at h3;obtain⟨z,hz⟩:=Int.dvd_of_emod_eq_zero h3;have:z=0:=by
    rcases Int.lt_trichotomy z 0 with d|d|d
    ·have:(P:Int)*z<=(P:Int)*(-1):=Int.mul_le_mul_of_nonneg_left (by omega) (by omega);omega
    ·exact d
    have:(P:Int)*1<=(P:Int)*z:=Int.mul_le_mul_of_nonneg_left (by omega) (by omega);omega
   subst this;omega
  omega
section
variable {N:Nat} {t:Zav} {u:Zay} {s:Zat}
theorem Zyy (w:Tw)(i:Nat):hitW u w i=true↔hitI u w i:=by
 unfold hitW hitI opW;rw[Zao]
def ZpN (u:Zay)(w:Tw)(i:Nat):Bool:=decide (((i:Int)-opW u w)%w.s.Period.toNat=0)||decide (((i:Int)-(opW u w+Zdl u w))%w.s.Period.toNat=0)
theorem ZAr {w:Tw}(hp:1<=w.s.Period)(hU:0<=Zdl u w){i:Nat}(hi:0<i)(h:hitW u w i≠hitW u w (i-1)):ZpN u w i=true:=by
 unfold ZpN;rw[Zs (by omega),Zj,Zao,Zao];have e1:hitW u w i=decide (((i:Int)-opW u w)%w.s.Period<Zdl u w):=rfl;have e2:hitW u w (i-1)=decide (((i:Int)-opW u w-1)%w.s.Period<Zdl u w):=by
  unfold hitW;rw[show((i-1:Nat):Int)-(w.h.Open/u.Grid+w.x)=(i:Int)-opW u w-1 by unfold opW;omega]
 rw[e1,e2]at h;obtain⟨P,hP⟩:∃P,P=w.s.Period:=⟨_,rfl⟩;obtain⟨U,hU'⟩:∃U,U=Zdl u w:=⟨_,rfl⟩;obtain⟨y,hy⟩:∃y,y=(i:Int)-opW u w:=⟨_,rfl⟩;rw[show(i:Int)-(opW u w+Zdl u w)=y-U by omega];rw[←hP,←hy,←hU']at h;rw[←hP,←hy];by_cases c:y%P=0
 ·exact .inl c
 right;have m0:=Int.emod_nonneg y (show P≠0 by omega);have m1:=Int.emod_lt_of_pos y (show 0<P by omega);have e3:(y-1)%P=y%P-1:=by
  rw[Int.sub_emod,←Zm (y%P-1%P) (Int.dvd_refl P)];by_cases d:P=1
  ·subst d;omega
  rw[Zn (a:=1) (by omega) (by omega),Zm _ (Int.dvd_refl P),Zn (by omega) (by omega)]
 rw[e3]at h;have hu:y%P=U:=by
  by_cases d:y%P<U
  ·exact absurd (by rw[Zan d,Zan (show y%P-1<U by omega)]) h
  by_cases d2:y%P-1<U
  ·omega
  exact absurd (by rw[decide_eq_false d,decide_eq_false d2]) h
 rw[←hu,Int.sub_emod,Zm _ (Int.dvd_refl P),Int.sub_self,Int.zero_emod]
theorem ZwD {ws:List Tw}(hw:∀w∈ws,1<=w.s.Period/\0<=Zdl u w){q i:Nat}(hi:0<i)(h:Zg2 u ws q i≠Zg2 u ws q (i-1)):(ws.any λw=>decide ((q:Int)=w.h.Port)&&ZpN u w i)=true:=by
 apply Classical.byContradiction;intro hno;apply h;unfold Zg2;rw[List.any_eq_true]at hno;have:∀w∈ws,(decide ((q:Int)=w.h.Port)&&hitW u w i)=(decide ((q:Int)=w.h.Port)&&hitW u w (i-1)):=λw hm=>by
  by_cases c:(q:Int)=w.h.Port
  ·rw[Zan c,Zk,Zk];apply Classical.byContradiction;intro hd;exact hno ⟨w,hm,by rw[Zan c,Zk];exact ZAr (hw w hm).1 (hw w hm).2 hi hd⟩
  rw[decide_eq_false c];rfl
 clear h hno;induction ws with
 |nil=>rfl
 |cons w ws ih=>
  rw[List.any_cons,List.any_cons,this w (by simp),ih (λx hx=>hw x (by simp[hx])) λx hx=>this x (by simp[hx])]
theorem Zrg {P:List Int}{C:Nat}{q:Nat}:∀{ws:List Tw},(∀w∈ws,1<=w.s.Period/\w.s.Period∣(C:Int)/\perU P (useW u w)=w.s.Period)→
  (((List.range C).countP λi=>ws.any λw=>decide ((q:Int)=w.h.Port)&&ZpN u w i:Nat):Int)<=2*ZgI P C (ws.map (useW u)) q
 |[],_=>by simp[ZgI,sumC]
 |w::ws,h=>by
  have ih:=Zrg (P:=P) (C:=C) (q:=q) (ws:=ws) λx hx=>h x (by simp[hx])
  obtain⟨h1,h2,h3⟩:=h w (by simp);have hor:=ZpP (n:=C) (λi=>decide ((q:Int)=w.h.Port)&&ZpN u w i) (λi=>ws.any λw=>decide ((q:Int)=w.h.Port)&&ZpN u w i);simp only[List.any_cons,Z0];unfold ZgI at ih⊢;by_cases c:(q:Int)=w.h.Port
  ·have hf:(useW u w::ws.map (useW u)).filter (λx=>x.Port==(q:Int))=useW u w::(ws.map (useW u)).filter (λx=>x.Port==(q:Int)):=List.filter_cons_of_pos (by show(w.h.Port==(q:Int))=true;simp[c]);rw[hf,sumC,h3];obtain⟨P',hP'⟩:∃P':Nat,w.s.Period=P':=⟨w.s.Period.toNat,by omega⟩;obtain⟨z,hz⟩:=h2;have hz0:0<=z:=by
    rcases Int.lt_or_le z 0 with d|d
    ·have:w.s.Period*z<=1*z:=Int.mul_le_mul_of_nonpos_right h1 (by omega);omega
    exact d
   have hq:(C:Int).tdiv w.s.Period=z:=by rw[hz,Int.mul_tdiv_cancel_left _ (by omega)]
   have hC:C=P'*z.toNat:=by
    have:(C:Int)=((P'*z.toNat:Nat):Int):=by rw[hz,hP'];push_cast;rw[Zs hz0]
    omega
   have hcw:(List.range C).countP (λi=>decide ((q:Int)=w.h.Port)&&ZpN u w i)<=2*z.toNat:=by
    refine Nat.le_trans (ZlP (q:=ZpN u w) λi _ hi=>by rw[Ze]at hi;exact hi.2) ?_;have a1:=ZpO (P:=P') (by omega) (opW u w) z.toNat;have a2:=ZpO (P:=P') (by omega) (opW u w+Zdl u w) z.toNat;have a3:=ZpP (n:=C) (λi=>decide (((i:Int)-opW u w)%w.s.Period.toNat=0)) (λi=>decide (((i:Int)-(opW u w+Zdl u w))%w.s.Period.toNat=0));rw[←hC]at a1 a2;rw[hP',Zr]at a3;unfold ZpN;rw[hP',Zr];omega
   rw[hq];omega
  have hf:(useW u w::ws.map (useW u)).filter (λx=>x.Port==(q:Int))=(ws.map (useW u)).filter (λx=>x.Port==(q:Int)):=List.filter_cons_of_neg (by show ¬(w.h.Port==(q:Int))=true;simp[Ne.symm c]);rw[hf];have hz:(List.range C).countP (λi=>decide ((q:Int)=w.h.Port)&&ZpN u w i)=0:=by
   rw[decide_eq_false c];simp
  omega
theorem Zye {l:List Zat}{o:List Int}(h:Fit t u l o)(q:Nat):ZgI (accA t u l).P (lcmL (accA t u l).P:Nat) (accA t u l).U q<=63:=by
 have he:=h.err;have hl:=(VP.of h.prob).lcm;simp only at hl;unfold errC at he;rw[Zar hl]at he;by_cases hf:ZqK (accA t u l).P (lcmL (accA t u l).P:Nat) (accA t u l).U=true
 ·rw[Zar hf]at he;omega
 unfold ZqK at hf;rw[List.any_eq_true]at hf;rcases Int.lt_or_le 63 (ZgI (accA t u l).P (lcmL (accA t u l).P:Nat) (accA t u l).U q)with c|c
 ·exfalso;by_cases hx:∃x∈(accA t u l).U,x.Port=(q:Int)
  ·obtain⟨x,hx,hp⟩:=hx;exact hf ⟨x,hx,by rw[hp];exact Zan c⟩
  have:(accA t u l).U.filter (λx=>x.Port==(q:Int))=[]:=List.filter_eq_nil_iff.2 λx hx'=>by
   rw[beq_iff_eq];exact λhp=>hx ⟨x,hx',hp⟩
  unfold ZgI at c;rw[this]at c;simp[sumC]at c
 exact c
def Zof (u:Zay)(ws:List Tw)(C q:Nat):ZaI:=⟨Zqb u.Grid ((List.range C).map (Zg2 u ws q)),(C:Int)*u.Grid⟩
theorem Fit.valid {l:List Zat}{o:List Int}(h:Fit t u l o)(q:Nat):VG (Zof u (Zbn t u l o).2 (lcmL (accA t u l).P) q)/\Runs u.Grid (Zg2 u (Zbn t u l o).2 q) (lcmL (accA t u l).P) (Zof u (Zbn t u l o).2 (lcmL (accA t u l).P) q).Entries:=by
 have hu:=Zbx h.set;have g1:=hu.g1;have g2:=hu.g2;have hv:=VP.of h.prob;have hC:=hv.lcm;have hC0:=hv.lpos;simp only at hC hC0;obtain⟨C,eC⟩:∃C,C=lcmL (accA t u l).P:=⟨_,rfl⟩;obtain⟨ws,ew⟩:∃ws,ws=(Zbn t u l o).2:=⟨_,rfl⟩;have hw:∀w∈ws,(1<=w.s.Period/\0<=Zdl u w)/\w.s.Period∣(C:Int)/\perU (accA t u l).P (useW u w)=w.s.Period:=λw hm=>by
  rw[ew]at hm;obtain⟨ok,_,a,_,b⟩:=h.win hm;rw[eC];exact⟨⟨ok.s.per1,(ok.num hu).2.2.1.1⟩,b,a⟩
 have hp:=Zye h q;rw[ZmE l o,←ew,←eC]at hp;rw[←eC]at hC hC0;rw[←ew,←eC];have hr:=ZsX g1 (Zg2 u ws q) C;refine⟨?_,hr⟩;have hcnt:=hr.cnt;have hc2:(List.range C).countP (λi=>decide (i=0)||Zg2 u ws q i !=Zg2 u ws q (i-1))<=127:=by
  have a1:=ZpP (n:=C) (λi=>decide (i=0)) (λi=>decide (0<i)&&Zg2 u ws q i !=Zg2 u ws q (i-1));have a2:(List.range C).countP (λi=>decide (i=0))<=1:=Zms λi j _ _ h1 h2=>by
   rw[Zao]at h1 h2;omega
  have a3:(List.range C).countP (λi=>decide (0<i)&&Zg2 u ws q i !=Zg2 u ws q (i-1))<=(List.range C).countP λi=>ws.any λw=>decide ((q:Int)=w.h.Port)&&ZpN u w i:=ZlP λi _ hi=>by
   rw[Ze,Zao,bne_iff_ne]at hi;exact ZwD (λw hm=>(hw w hm).1) hi.1 hi.2
  have a4:=Zrg (u:=u) (P:=(accA t u l).P) (C:=C) (q:=q) (ws:=ws) λw hm=>⟨(hw w hm).1.1,(hw w hm).2⟩
  have a5:(List.range C).countP (λi=>decide (i=0)||Zg2 u ws q i !=Zg2 u ws q (i-1))<=(List.range C).countP (λi=>decide (i=0)||(decide (0<i)&&Zg2 u ws q i !=Zg2 u ws q (i-1))):=ZlP λi _ hi=>by
   by_cases c:i=0
   ·simp[c]
   simp only[c,decide_false,Bool.false_or]at hi⊢;rw[hi,Zan (by omega)];rfl
  omega
 have hlen:(Zof u ws C q).Entries.length<=127:=Nat.le_trans hcnt hc2;have hne:=hr.ne hC0;obtain⟨m1,m2⟩:=mulG (x:=(C:Int)) (by omega) (by omega) g1 g2;have hCG:(C:Int)*u.Grid<=9600000:=by
  calc (C:Int)*u.Grid<=960*10000:=Int.mul_le_mul (by omega) g2 (by omega) (by omega)
   _=_:=by decide
 have hsum:=hr.sum;have hlong:∀(l:List ZaF),(∀e∈l,(e.Mask=127∨e.Mask=128)/\1<=e.Long)->0<=sumL l/\∀e∈l,e.Long<=sumL l:=λl=>by
  induction l with
  |nil=>intro _;simp[sumL]
  |cons x l ih=>
   intro hx;obtain⟨i1,i2⟩:=ih λe he=>hx e (by simp[he])
   have:=(hx x (by simp)).2;refine⟨by simp only[sumL];omega,λe he=>?_⟩;simp only[sumL];rcases List.mem_cons.1 he with rfl|he
   ·omega
   have:=i2 e he;omega
 have hlg:=(hlong _ hr.ok).2;refine⟨?_,by omega,List.all_eq_true.2 λe he=>Zhp.2 ?_,hsum,hCG⟩
 ·exact List.length_pos_iff.2 hne
 obtain⟨b1,b2⟩:=hr.ok e he;have:=hlg e he;rw[hsum]at this;exact⟨by omega,by omega,b2,by omega⟩
theorem Fit.mask {l:List Zat}{o:List Int}(h:Fit t u l o)(q:Nat)(τ:Int):mAt (Zof u (Zbn t u l o).2 (lcmL (accA t u l).P) q).Entries τ=ZgM (Zg2 u (Zbn t u l o).2 q ((τ/u.Grid)%(lcmL (accA t u l).P:Nat)).toNat):=by
 have hu:=Zbx h.set;have g1:=hu.g1;have g2:=hu.g2;have hv:=VP.of h.prob;have hC0:=hv.lpos;simp only at hC0;obtain⟨hvg,hr⟩:=h.valid q;obtain⟨C,eC⟩:∃C,C=lcmL (accA t u l).P:=⟨_,rfl⟩;rw[←eC]at hvg hr hC0⊢;have hCG:0<(C:Int)*u.Grid:=Int.mul_pos (by omega) (by omega);have r0:=Int.emod_nonneg τ (show(C:Int)*u.Grid≠0 by omega);have r1:=Int.emod_lt_of_pos τ hCG;obtain⟨i,e,s,h1,h2,h3,h4,h5⟩:=hr.at_ _ r0 r1;have ha:AtE (Zof u (Zbn t u l o).2 C q).Entries τ i e s:=⟨h1,h2,h3,by rw[hr.sum];exact h4⟩;rw[Zq2 hvg.ok ha,h5]
 congr 3
 have:=Int.emod_add_mul_ediv τ ((C:Int)*u.Grid);obtain⟨z,hz⟩:∃z,z=τ/((C:Int)*u.Grid):=⟨_,rfl⟩;rw[←hz]at this;obtain⟨r,hr'⟩:∃r,r=τ%((C:Int)*u.Grid):=⟨_,rfl⟩;rw[←hr']at this r0 r1⊢;have e1:τ/u.Grid=r/u.Grid+C*z:=by
  rw[←this,show(C:Int)*u.Grid*z=u.Grid*(C*z)by rw[←Int.mul_assoc,Zo u.Grid],Int.add_mul_ediv_left _ _ (by omega)]
 rw[e1,Zl,Zn (Int.ediv_nonneg r0 (by omega)) (Int.ediv_lt_of_lt_mul (by omega) r1)]
end
end Go.Sh

namespace Go.Sh
open Go Go.Eng
section
variable {N:Nat} {t:Zav} {u:Zay} {s:Zat}
theorem Zxd {w:Tw}{C:Nat}(hC:0<C)(hd:w.s.Period∣(C:Int))(y:Int):hitW u w (y%(C:Int)).toNat=true↔hitI u w y:=by
 have m0:=Int.emod_nonneg y (show(C:Int)≠0 by omega);rw[Zyy,Zs m0];unfold hitI;rw[Int.sub_emod,Zm _ hd,←Int.sub_emod]
theorem Zzd {a b G k:Int}(hG:1<=G):(a*G+b*G+k)/G=a+b+k/G:=by
 rw[←Int.add_mul,Int.add_comm,Int.add_mul_ediv_right _ _ (by omega)];omega
theorem Fit.open {l:List Zat}{o:List Int}(h:Fit t u l o){w:Tw}(hw:w∈(Zbn t u l o).2){q:Nat}(hq:w.h.Port=q){m k:Int}(k0:0<=k)(k1:k<w.h.Long):
  mAt (Zof u (Zbn t u l o).2 (lcmL (accA t u l).P) q).Entries ((w.x+m*w.s.Period)*u.Grid+w.h.Open+k)=128:=by
 have hu:=Zbx h.set;have g1:=hu.g1;obtain⟨ok,_,_,_,hd⟩:=h.win hw;have hC0:=(VP.of h.prob).lpos;simp only at hC0;have hop:=Int.mul_ediv_add_emod w.h.Open u.Grid;rw[ok.grid]at hop;have p1:=ok.s.per1;rw[h.mask q];have e:Zg2 u (Zbn t u l o).2 q ((((w.x+m*w.s.Period)*u.Grid+w.h.Open+k)/u.Grid)%(lcmL (accA t u l).P:Nat)).toNat=true:=by
  unfold Zg2;rw[List.any_eq_true];refine⟨w,hw,?_⟩;rw[Zan hq.symm,Zk,Zxd hC0 hd];have e1:((w.x+m*w.s.Period)*u.Grid+w.h.Open+k)/u.Grid=w.x+m*w.s.Period+w.h.Open/u.Grid+k/u.Grid:=by
   rw[←Zzd g1,Zo (w.h.Open/u.Grid)]
   congr 2
   omega
  unfold hitI opW;rw[e1,show w.x+m*w.s.Period+w.h.Open/u.Grid+k/u.Grid-(w.h.Open/u.Grid+w.x)=k/u.Grid+m*w.s.Period by omega,Int.add_mul_emod_self_right];have d0:=Int.ediv_nonneg k0 (show 0<=u.Grid by omega);have d1:k/u.Grid%w.s.Period<=k/u.Grid:=by
   have:=Int.emod_add_mul_ediv (k/u.Grid) w.s.Period;have h4:0<=w.s.Period*(k/u.Grid/w.s.Period):=Int.mul_nonneg (by omega) (Int.ediv_nonneg d0 (by omega));omega
  have d2:k/u.Grid<Zdl u w:=by
   unfold Zdl;have hlt:k/u.Grid+1<=(w.h.Long+u.Grid-1)/u.Grid:=by
    rw[show w.h.Long+u.Grid-1=(w.h.Long-1)+u.Grid*1 by omega,Int.add_mul_ediv_left _ _ (by omega)];have:=Int.ediv_le_ediv (show 0<u.Grid by omega) (show k<=w.h.Long-1 by omega);omega
   omega
  omega
 rw[e];rfl
theorem Fit.shut {l:List Zat}{o:List Int}(h:Fit t u l o){w:Tw}(hw:w∈(Zbn t u l o).2){q:Nat}(hq:w.h.Port=q)(m:Int)(hlt:w.h.Early<w.h.Open):
  mAt (Zof u (Zbn t u l o).2 (lcmL (accA t u l).P) q).Entries ((w.x+m*w.s.Period)*u.Grid+w.h.Early)=127:=by
 have hu:=Zbx h.set;have g1:=hu.g1;obtain⟨ok,_,_,hlong,hd⟩:=h.win hw;have hC0:=(VP.of h.prob).lpos;simp only at hC0;rw[h.mask q];have e1:((w.x+m*w.s.Period)*u.Grid+w.h.Early)/u.Grid=earW u w+w.s.Period*m:=by
  rw[Int.add_comm,Int.add_mul_ediv_right _ _ (by omega),Zo m];unfold earW;omega
 rw[e1];have e:Zg2 u (Zbn t u l o).2 q ((earW u w+w.s.Period*m)%(lcmL (accA t u l).P:Nat)).toNat=false:=by
  rw[←Bool.not_eq_true];unfold Zg2;rw[List.any_eq_true];rintro⟨w',hw',hh⟩;rw[Ze,Zao]at hh;obtain⟨hp,hh⟩:=hh;obtain⟨ok',_,_,_,hd'⟩:=h.win hw';rw[Zxd hC0 hd']at hh;obtain⟨k,hk,rfl⟩:=List.getElem_of_mem hw;obtain⟨j,hj,rfl⟩:=List.getElem_of_mem hw';obtain⟨c1,c2⟩:=Zxn hu ok hlong (y:=earW u (Zbn t u l o).2[k]+(Zbn t u l o).2[k].s.Period*m) ⟨m,by omega⟩;by_cases c:k=j
  ·subst c;exact c2 hlt hh
  exact h.apart hk hj c (by rw[hq,←hp]) c1 hh
 rw[e];rfl
theorem Zyz {ws:List Tw}{C q:Nat}(hq:q<2*t.Links.length):idx (Zlt t u ws C) (q:Int)=some (Zof u ws C q):=by
 unfold Zlt;rw[ZhP _ hq];rfl
theorem Zx9 {l:List Zat}{o:List Int}(h:Fit t u l o){w:Tw}(hw:w∈(Zbn t u l o).2){q:Nat}(hq:w.h.Port=q){m:Int}(m0:0<=m)(m1:m<=255){S:Int}(hS:S=(w.x+m*w.s.Period)*u.Grid)(s0:0<=S)(s1:S<=1000000000)(hN:20000000<=N):
  ∃f v,ZkN N (Zof u (Zbn t u l o).2 (lcmL (accA t u l).P) q) 7 (S+w.h.Open) w.h.Long=some (true,0)/\Zkr N (Zof u (Zbn t u l o).2 (lcmL (accA t u l).P) q) 6 (S+w.h.Open) 1=some f/\(f.2=0->S+w.h.Open+w.h.Long<=f.1)∧
   ZkM N (Zof u (Zbn t u l o).2 (lcmL (accA t u l).P) q) 7 (S+w.h.Early)=some (v,0)/\(w.h.Early<w.h.Open->v=0):=by
 have hop:=λk k0 k1=>h.open hw hq (m:=m) (k:=k) k0 k1
 have hsh:=h.shut hw hq m;rw[←hS]at hop hsh;obtain⟨hg,_⟩:=h.valid q;obtain⟨e1,e2,o1,o2,l1,l2,eo⟩:=(h.win hw).1.h;obtain⟨g,eg⟩:∃g,g=Zof u (Zbn t u l o).2 (lcmL (accA t u l).P) q:=⟨_,rfl⟩;rw[←eg]at hop hsh hg⊢;have hsl:=(ZdJ hg.ok).1;have hcy:=hg.2.2.2.1;have hln:=hg.1;have err:∀c τ ln:Int,0<=c/\c<=7→ -1000000<=τ/\τ<=2000000000->0<=ln/\ln<=2000000000->errS g c τ ln=0:=λc τ ln h1 h2 h3=>by
  unfold errS;rw[Zar hg,Zar (by omega)]
 obtain⟨r1,hr1⟩:=Zjy hg (bitB 7) (S+w.h.Open);obtain⟨r2,hr2⟩:=Zjy hg (bitB 7) (S+w.h.Early);obtain⟨z,hz,ez⟩:=ZtQ (N:=N) hN (err 6 (S+w.h.Open) 1 (by omega) (by omega) (by omega));refine⟨fitS z,opn g.Cycle r2,?_,ez,?_,?_,?_⟩
 ·unfold ZkN;rw[Zib (by omega),Zag,err 7 _ _ (by omega) (by omega) (by omega),Zaq (by simp),ZgS (by omega) hg (by omega) hr1,Zag];have:=(ZyX hg hr1 (l:=w.h.Long) (by omega) (by omega)).2 (.inr (.inr λk k0 k1=>by rw[hop k k0 k1];decide));rw[Zan (by omega)]
 ·cases z with
  |none=>intro hh;simp[fitS]at hh
  |some y=>
   intro _;obtain⟨z1,z2,_⟩:=hz;show S+w.h.Open+w.h.Long<=y;have h128:=hop 0 (by omega) (by omega);rcases z2 with z2|z2|z2
   ·omega
   ·obtain⟨e,he,hm⟩:=ZlN hg.ok hln (S+w.h.Open+0);have:=z2 e he;rw[←hm,h128]at this;exact absurd this (by decide)
   rcases Int.lt_or_le y (S+w.h.Open+w.h.Long)with c|c
   ·have h1:=z2 0 (by omega) (by omega);have h2:=hop (y-(S+w.h.Open)) (by omega) (by omega);rw[show S+w.h.Open+(y-(S+w.h.Open))=y+0 by omega]at h2;rw[h2]at h1;exact absurd h1 (by decide)
   exact c
 ·unfold ZkM;rw[Zib (by omega),Zag,err 7 _ _ (by omega) (by omega) (by omega),Zaq (by simp),ZgS (by omega) hg (by omega) hr2,Zag]
 intro hlt;have h127:=hsh hlt;have hr0:r2=0:=by
  rcases hr2 with⟨_,a⟩|⟨a0,a1,a2,_⟩
  ·obtain⟨e,he,hm⟩:=ZlN hg.ok hln (S+w.h.Early);have:=a e he;rw[←hm,h127]at this;exact absurd this (by decide)
  rcases Int.lt_or_le 0 r2 with c|c
  ·have:=a2 0 (by omega) c;rw[Int.add_zero,h127]at this;exact absurd this (by decide)
  omega
 unfold opn;rw[hr0,Zaq (by omega)]
theorem Zzu {l:List Zat}{o:List Int}(h:Fit t u l o){i n:Nat}(hi:i<l.length)(hn:n<o.length){hs:List ZaX}(h8:hs.length<=8)(hw:∀x∈hs,(⟨n,l[i],o.getD n 0,x⟩:Tw)∈(Zbn t u l o).2){m e:Int}(m0:0<=m)(m1:m<=255)(hN:30000000<=N):
  ZaO (λx:Int=>ZdW N m (t,u,l,o) (Zlt t u (Zbn t u l o).2 (lcmL (accA t u l).P),0) (n:Int) (i:Int) (hs,e) x) N 0=some (.inl ()):=by
 have hu:=Zbx h.set;have g1:=hu.g1;have g2:=hu.g2;rw[ZfB (l:=hs) (p:=λ_=>true) (bad:=.inr false) (fin:=.inl ()) (λk hk=>by
  have hm:=hw _ (List.getElem_mem hk);have ok:=(h.win hm).1;have x1:=ok.x1;have x2:=ok.x2;have p1:=ok.s.per1;have p2:=ok.s.per2;have hport:=ok.port;simp only[Zcy,Ze,Zao]at hport;obtain⟨e1,e2,o1,o2,l1,l2,eo⟩:=ok.h;simp only at x1 x2 p1 p2 hport e1 e2 o1 o2 l1 l2 eo;obtain⟨q,hq⟩:∃q:Nat,hs[k].Port=q:=⟨hs[k].Port.toNat,by omega⟩;have hql:q<2*t.Links.length:=by omega
  have mp0:0<=m*l[i].Period:=Int.mul_nonneg m0 (by omega);have mp1:m*l[i].Period<=61200:=by
   calc m*l[i].Period<=255*240:=Int.mul_le_mul m1 p2 (by omega) (by omega)
    _=_:=by decide
  have s0:0<=(o.getD n 0+m*l[i].Period)*u.Grid:=Int.mul_nonneg (by omega) (by omega);have s1:(o.getD n 0+m*l[i].Period)*u.Grid<=1000000000:=by
   calc (o.getD n 0+m*l[i].Period)*u.Grid<=100000*10000:=Int.mul_le_mul (by omega) g2 (by omega) (by omega)
    _=_:=by decide
  obtain⟨S,hS⟩:∃S,S=(o.getD n 0+m*l[i].Period)*u.Grid:=⟨_,rfl⟩;obtain⟨f,v,q1,q2,q3,q4,q5⟩:=Zx9 (N:=N) h hm hq m0 m1 (S:=S) hS (by omega) (by omega) (by omega);simp only at q1 q2 q3 q4 q5;simp only[ZdW];rw[Zar (by simpa using hk),ZbM hk,Zag,ZbX 0 (by omega) (by omega),Zag,ZbM hi,Zag,hq,Zyz hql];simp only[Zag,Zr];have wS:w64 (w64 (o.getD n 0+w64 (w64 m*l[i].Period))*u.Grid)=S:=by
   rw[ZaG (x:=m) (by omega) (by omega),ZaG (x:=m*l[i].Period) (by omega) (by omega),ZaG (x:=o.getD n 0+m*l[i].Period) (by omega) (by omega),←hS,ZaG (x:=S) (by omega) (by omega)]
  have w1:w64 (S+hs[k].Open)=S+hs[k].Open:=ZaG (by omega) (by omega);have w2:w64 (S+hs[k].Early)=S+hs[k].Early:=ZaG (by omega) (by omega);have w3:w64 (S+hs[k].Open+hs[k].Long)=S+hs[k].Open+hs[k].Long:=ZaG (by omega) (by omega);simp only[wS,w1,w2,w3,q1,q2,q4,Zag];rw[Zaq (λhcond=>by
   simp only[Zi,Bool.false_or,Zam]at hcond;split at hcond
   ·rename_i h2;rw[Zj,Zao,Ze,Zao,Zao]at hcond;have h3:=q3 (by simpa using h2);rcases hcond with a|⟨a,b⟩
    ·omega
    have:=q5 b;omega
   rw[Ze,Zao,Zao]at hcond;have:=q5 hcond.2;omega)]
  rw[Zar trivial,ZaL (by omega)]) (by simp[ZdW]) (by omega)]
 simp
theorem Zzv {l:List Zat}{o:List Int}(h:Fit t u l o){i n:Nat}(hi:i<l.length)(hn:n<o.length)(ss:SS t l[i])(hw:∀w∈Zry t u n l[i] (o.getD n 0),w∈(Zbn t u l o).2){m:Int}(m0:0<=m)(m1:m<=255)(hN:30000000<=N):
  ZaO (λx:Int=>ZdX N m (t,u,l,o) (Zlt t u (Zbn t u l o).2 (lcmL (accA t u l).P),0) (n:Int) (i:Int) x) N 0=some (.inl ()):=by
 have r2:=ss.r2;rw[ZfB (l:=l[i].Routes) (p:=λ_=>true) (bad:=.inr false) (fin:=.inl ()) (λk hk=>by
  have hv:=ss.rt _ (List.getElem_mem hk);have h8:=(Zca hv).2.1;simp only[ZdX];have e:=Zzu (N:=N) h hi hn (hs:=ZjO t u l[i] l[i].Routes[k]) (e:=0) (by simp[ZjO];omega) (λx hx=>hw _ (List.mem_flatMap.2 ⟨_,List.getElem_mem hk,List.mem_map.2 ⟨x,hx,rfl⟩⟩)) m0 m1 hN;unfold ZjO at e;rw[ZbM hi,Zag,Zar (by simpa using hk),Zag,Zge h.topo h.set ss.str ss.cls (by omega) (by omega) (by omega),Zag,ZkD k hk,Zaq (by simp),e,Zag,ZaL (by omega)];simp) (by simp only[ZdX];rw[ZbM hi,Zag,Zaq (by simp)]) (by omega)]
 simp
theorem Zzw {l:List Zat}{o:List Int}(h:Fit t u l o){m:Int}(m0:0<=m)(m1:m<=255)(hN:30000000<=N):
  ZaO (λx:Int×Int=>ZdY N m (t,u,l,o) (Zlt t u (Zbn t u l o).2 (lcmL (accA t u l).P),0) x.1 x.2) N (0,0)=some (.inl ()):=by
 have g:=Zbo.1 h.topo;have hu:=Zbx h.set;have h12:=h.l12;obtain⟨r,hr,er⟩:=Zb6 (body:=λx:Int×Int=>ZdY N m (t,u,l,o) (Zlt t u (Zbn t u l o).2 (lcmL (accA t u l).P),0) x.1 x.2)
  (λx=>∃k:Nat,x=(((Zbn t u (l.take k) o).1:Int),(k:Int))/\k<=l.length) (λx=>(l.length-x.2).toNat) (λr=>r=.inl ()) (λx hx=>by
   obtain⟨k,rfl,hk⟩:=hx;simp only[ZdY];by_cases c:k<l.length
   ·left;refine⟨(((Zbn t u (l.take (k+1)) o).1:Int),((k+1:Nat):Int)),?_,⟨k+1,rfl,by omega⟩,by simp only;omega⟩;rw[Zar (by simpa using c),ZbM c,Zag,ZaL (n:=k) (by omega),ZgU l o k c];have ex:=ZgU (t:=t) (u:=u) l o k c;unfold ZlU at ex⊢;by_cases hc:l[k].Class=7
    ·obtain⟨h1,h2,h3⟩:=ZwZ c hc h.off;have hs:=SS.of (h.str _ (List.getElem_mem c)) hc;have h7:=ZlT (t:=t) (u:=u) (l.take k) o;have h8:=(Zjv (t:=t) (u:=u) g hu (l:=l.take k) λx hx=>h.str x (List.mem_of_mem_take hx)).pl;rw[ZY]at h8;rw[Zar hc]at ex;rw[Zaq (by simpa using hc),Zar hc,Zzv (N:=N) h c h1 hs (λw hw=>ZsM l o (k+1) (by rw[ex];exact List.mem_append_right _ hw)) m0 m1 hN,Zag,ZaL (n:=(Zbn t u (l.take k) o).1) (by omega)]
    rw[Zar (by simpa using hc),Zaq hc]
   right;obtain rfl:k=l.length:=by omega
   rw[Zaq (by simp)];exact⟨_,rfl,rfl⟩) N (0,0) ⟨0,by simp[Zbn],by omega⟩ (by simp only;omega)
 rw[hr,er]
theorem Zw7 {l:List Zat}{o:List Int}(h:(Zlr t u l o).2≠0):(Zlr t u l o).1=[]:=by
 unfold Zlr at h⊢;split
 ·split
  ·split
   ·rename_i a b c;rw[Zar a,Zar b,Zar c]at h;exact absurd rfl h
   rfl
  rfl
 rfl
theorem synthRoom_true (c:Zfz)(m:Int)(hc:Zjx c)(hm:InK .u8 m):∃N,Zhs N c m=some true:=by
 refine⟨30000000+c.L.length,?_⟩;obtain⟨N,eN⟩:∃N,N=30000000+c.L.length:=⟨_,rfl⟩;rw[←eN];obtain⟨t,u,l,o,hmd⟩:=Zw5 (N:=N) hc (by omega);obtain⟨m0,m1⟩:=Ze1 hm;have hN:30000000<=N:=by omega
 unfold Zhs;rw[Zy7 (by omega),Zag,Zaq (by simp),hmd,Zag];simp only;rw[Zp5 _ _ hN,Zag];by_cases h0:(Zlr t u l o).2=0
 ·obtain⟨hf,eg⟩:=Zw6 h0;rw[Zaq (by simpa using h0)];have e:Zlr t u l o=(Zlt t u (Zbn t u l o).2 (lcmL (accA t u l).P),0):=by rw[←eg,←h0]
  rw[e,Zzw hf m0 m1 hN,Zag]
 rw[Zar (by simpa using h0),Zw7 h0];rfl
end
end Go.Sh

