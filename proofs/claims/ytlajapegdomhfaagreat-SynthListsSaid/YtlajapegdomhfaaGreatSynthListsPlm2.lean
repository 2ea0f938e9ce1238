/-Part of the proof. -/
import Derived.Test.YtlajapegdomhfaaGreatSynthListsStr1
set_option linter.all false
namespace Go.Sh
open Go Go.Eng
section
variable {N:Nat} {t:Zan} {u:Zaq} {s:Zam}
structure AcOK (t:Zan) (u:Zaq) (n:Nat) (a:Ac):Prop where
 pl:a.P.length<=n
 ul:a.U.length<=16*a.P.length
 per:a.P.all perB=true
 st:∀x∈a.U,0<=x.Stream/\x.Stream<(a.P.length:Int)
 port:∀x∈a.U,Zcq t x.Port=true
 fr:∀x∈a.U,0<=x.From/\x.From<perU a.P x
 lg:∀x∈a.U,1<=x.Long/\x.Long<=100000000
theorem Zxg {P Q:List Int}{x:Zay}(h0:0<=x.Stream)(h1:x.Stream<(P.length:Int)):perU (P++Q) x=perU P x:=by
 unfold perU;rw[Zy,Zy,Zz (by omega)]
theorem Zxf {P:List Int}{q:Int}{x:Zay}(h:x.Stream=(P.length:Int)):perU (P++[q]) x=q:=by
 unfold perU;rw[h,Zo,Zy,ZA (Nat.le_refl _)];simp
theorem Zx0 (g:Good t)(hu:Zfp u)(h:SS t s){r:List Int}(hr:r∈s.Routes){n:Int}{x:Zay}(hx:x∈Zc1 t u n s r):
  x.Stream=n/\Zcq t x.Port=true/\0<=x.From/\x.From<s.Period/\1<=x.Long/\x.Long<=100000000:=by
 obtain⟨h',hh,rfl⟩:=List.mem_map.1 hx;obtain⟨⟨e1,e2,o1,o2,l1,l2,eo⟩,hp⟩:=ZrS g hu (Zdf h.str) (h.rt r hr) hh;have p1:=h.per1;have g1:=hu.g1;have g2:=hu.g2;have d1:=ZdD (a:=h'.Early) (B:=20000000) g1 (by omega) e2 (by omega);have d2:=ZdD (a:=h'.Open+h'.Long+u.Grid-1) (B:=22000000) g1 (by omega) (by omega) (by omega);refine⟨rfl,hp,Int.emod_nonneg _ (by omega),Int.emod_lt_of_pos _ (by omega),?_,?_⟩
 ·show 1<=(h'.Open+h'.Long+u.Grid-1)/u.Grid-h'.Early/u.Grid;obtain⟨a1,a2⟩:=Zm6 (a:=h'.Open+h'.Long+u.Grid-1) (G:=u.Grid) (by omega);obtain⟨b1,b2⟩:=Zm6 (a:=h'.Early) (G:=u.Grid) (by omega);generalize (h'.Open+h'.Long+u.Grid-1)/u.Grid=p at*;generalize h'.Early/u.Grid=q at*;rcases Int.lt_or_le q p with c|c
  ·omega
  have:p*u.Grid<=q*u.Grid:=Int.mul_le_mul_of_nonneg_right c (by omega);omega
 show(h'.Open+h'.Long+u.Grid-1)/u.Grid-h'.Early/u.Grid<=100000000;omega
theorem AcOK.step (g:Good t)(hu:Zfp u){n:Nat}{a:Ac}(h:AcOK t u n a)(hs:Zbq t s=true):AcOK t u (n+1) (ZfQ t u a s):=by
 obtain⟨h1,h2,h3,h4,h5,h6,h7⟩:=h;unfold ZfQ;by_cases c:s.Class=7
 ·rw[Zaj c];have q:=SS.of hs c;have p1:=q.per1;have p2:=q.per2;have r2:=q.r2;have hfl:(s.Routes.flatMap (Zc1 t u (a.P.length:Int) s)).length<=8*s.Routes.length:=Zmf _ _ λr hr=>Zoi g (q.rt r hr) _
  have new:∀x∈s.Routes.flatMap (Zc1 t u (a.P.length:Int) s),x.Stream=(a.P.length:Int)/\Zcq t x.Port=true/\0<=x.From/\x.From<s.Period/\1<=x.Long/\x.Long<=100000000:=λx hx=>by
   obtain⟨r,hr,hx⟩:=List.mem_flatMap.1 hx;exact Zx0 g hu q hr hx
  refine⟨by simp;omega,by simp only[ZN,ZO,ZQ];omega,?_,λx hx=>?_,λx hx=>?_,λx hx=>?_,λx hx=>?_⟩
  ·simp only[List.all_append,h3,Zk,List.all_cons,List.all_nil,Bool.and_true];exact Zi7.2 (by omega)
  ·simp only[ZN,ZO,ZQ];rcases List.mem_append.1 hx with hx|hx
   ·have:=h4 x hx;omega
   have:=(new x hx).1;omega
  ·rcases List.mem_append.1 hx with hx|hx
   ·exact h5 x hx
   exact(new x hx).2.1
  ·rcases List.mem_append.1 hx with hx|hx
   ·have:=h4 x hx;simp only;rw[Zxg this.1 this.2];exact h6 x hx
   have:=new x hx;simp only;rw[Zxf this.1];exact⟨this.2.2.1,this.2.2.2.1⟩
  rcases List.mem_append.1 hx with hx|hx
  ·exact h7 x hx
  exact(new x hx).2.2.2.2
 rw[Zai c];exact⟨by omega,h2,h3,h4,h5,h6,h7⟩
theorem ZxT (g:Good t)(hu:Zfp u):∀(l:List Zam) (n:Nat) (a:Ac),AcOK t u n a->(∀x∈l,Zbq t x=true)->AcOK t u (n+l.length) (l.foldl (ZfQ t u) a)
 |[],n,a,h,_=>h
 |x::l,n,a,h,hl=>by
  have:=ZxT g hu l (n+1) _ (h.step g hu (hl x (by simp))) λy hy=>hl y (by simp[hy])
  simp only[ZO,Zx]
  rwa [show n+(l.length+1)=n+1+l.length by omega]
theorem acc0:AcOK t u 0 ⟨false,[],[]⟩:=⟨by simp,by simp,rfl,by simp,by simp,by simp,by simp⟩
theorem Zh2 (g:Good t)(hu:Zfp u){l:List Zam}(hl:∀x∈l,Zbq t x=true):AcOK t u l.length (accA t u l):=by
 have:=ZxT (t:=t) (u:=u) g hu l 0 _ acc0 hl
 rwa [Z8]at this
theorem Zmo (l:List Zam)(k:Nat)(hk:k<l.length):accA t u (l.take (k+1))=ZfQ t u (accA t u (l.take k)) l[k]:=by
 unfold accA;rw[ZcP hk,Zw];rfl
theorem ZsP (hT:Zeo t=true)(hU:ZdR u=true){l:List Zam}(hl:∀x∈l,Zbq t x=true)(h12:l.length<=12)(hN:2000<=N):
  ZaH (λx:Int×Bool×(List Int)×(List Zay)=>Zkv N t u l x.1 x.2.1 x.2.2.1 x.2.2.2) N (0,false,[],[])=some (.inl ((accA t u l).late,(accA t u l).P,(accA t u l).U)):=by
 have g:=Zbe.1 hT;have hu:=ZbT hU;obtain⟨o,ho,eo⟩:=ZbX (body:=λx:Int×Bool×(List Int)×(List Zay)=>Zkv N t u l x.1 x.2.1 x.2.2.1 x.2.2.2)
  (λx=>∃k:Nat,x.1=k/\k<=l.length/\x.2=((accA t u (l.take k)).late,(accA t u (l.take k)).P,(accA t u (l.take k)).U)) (λx=>(l.length-x.1).toNat)
  (λr=>r=.inl ((accA t u l).late,(accA t u l).P,(accA t u l).U)) (λx hx=>by
   obtain⟨i,y⟩:=x;obtain⟨k,k1,k2,k3⟩:=hx;simp only at k1 k3;subst k1 k3;simp only[Zkv];by_cases c:k<l.length
   ·left;have hs:=hl _ (List.getElem_mem c);have ha:=Zh2 (t:=t) (u:=u) g hu (l:=l.take k) λx hx=>hl x (List.mem_of_mem_take hx)
    have a1:=ha.pl;have a2:=ha.ul;have htl:(l.take k).length<=12:=by simp;omega
    refine⟨(((k+1:Nat):Int),(accA t u (l.take (k+1))).late,(accA t u (l.take (k+1))).P,(accA t u (l.take (k+1))).U),?_,⟨k+1,rfl,by omega,rfl⟩,by simp;omega⟩;rw[Zaj (by simpa using c),Zbj c,Z9,ZaB (by omega),Zmo l k c];by_cases hc:l[k].Class=7
    ·rw[Zai (by simpa using hc),ZmS hT hU (SS.of hs hc) (by omega) (by omega) hN,Z9];rfl
    rw[Zaj (by simpa using hc)];unfold ZfQ;rw[Zai hc]
   right;obtain rfl:k=l.length:=by omega
   exact⟨.inl ((accA t u l).late,(accA t u l).P,(accA t u l).U),by rw[Zai (by simp),Z4],rfl⟩) N (0,false,[],[]) ⟨0,rfl,by omega,by simp[accA]⟩ (by simp;omega)
 rw[ho,eo]
def sumC (P:List Int)(C:Int):List Zay->Int
 |[]=>0
 |x::l=>C.tdiv (perU P x)+sumC P C l
theorem Zud (P:List Int)(C:Int)(a b:List Zay):sumC P C (a++b)=sumC P C a+sumC P C b:=by
 induction a with
 |nil=>simp[sumC]
 |cons x a ih=>simp only[Zt,sumC,ih];omega
def Zjy (P:List Int)(C:Int)(U:List Zay)(q:Int):Int:=sumC P C (U.filter λx=>x.Port==q)
def Zte (P:List Int)(C:Int)(U:List Zay):Bool:=U.any λx=>decide (Zjy P C U x.Port>63)
def Ziq (P:List Int)(U:List Zay):Bool:=U.any λx=>decide (x.Long>perU P x)
def errC (a:Ac):Int:=if lcmL a.P<=960 then(if Zte a.P (lcmL a.P) a.U=true then 7 else if Ziq a.P a.U=true then 341 else if a.late=true then 342 else 0)else 6
theorem Zmu {P:List Int}{C:Int}(h0:0<=C)(h1:C<=960):∀{U:List Zay},(∀x∈U,1<=perU P x)->0<=sumC P C U/\sumC P C U<=960*U.length
 |[],_=>by simp[sumC]
 |x::U,h=>by
  have ih:=Zmu h0 h1 (U:=U) λy hy=>h y (by simp[hy])
  have hx:=h x (by simp);simp only[sumC,ZO];rw[Zm h0];have d:=ZdD (a:=C) (B:=C) hx (by omega) (by omega) h0;have e:0<=C/perU P x:=Int.ediv_nonneg h0 (by omega);omega
structure Grp (U:List Zay) (m:List (Int×List Zay)):Prop where
 nd:(m.map (·.1)).Nodup
 val:∀p∈m,p.2=U.filter (λx=>x.Port==p.1)/\p.2≠[]
 key:∀x∈U,∃p∈m,p.1=x.Port
theorem Zwi {κ υ:Type}[DecidableEq κ]{m:List (κ×υ)}{z:υ}:∀{p:κ×υ},(m.map (·.1)).Nodup->p∈m->ZhZ m p.1 z=p.2:=by
 intro p hn hp;induction m with
 |nil=>simp at hp
 |cons q m ih=>
  rw[ZmW];simp only[ZV,List.nodup_cons]at hn;rcases List.mem_cons.1 hp with rfl|hp
  ·rw[Zaj rfl]
  rw[Zai,ih hn.2 hp];intro e;exact hn.1 (List.mem_map.2 ⟨p,hp,e.symm⟩)
theorem Zvi {κ υ:Type}[DecidableEq κ]{m:List (κ×υ)}{x:κ}{z:υ}(h:∀p∈m,p.1≠x):ZhZ m x z=z:=by
 induction m with
 |nil=>rfl
 |cons q m ih=>
  rw[ZmW,Zai (h q (by simp)),ih λp hp=>h p (by simp[hp])]
theorem Zvf {κ υ:Type}[DecidableEq κ](m:List (κ×υ))(x:κ)(v:υ):(Zd2 m x v).map (·.1)=if x∈m.map (·.1)then m.map (·.1)else m.map (·.1)++[x]:=by
 induction m with
 |nil=>simp[Zd2]
 |cons q m ih=>
  unfold Zd2;by_cases e:q.1=x
  ·rw[Zaj e];simp[e]
  rw[Zai e,ZV,ih];by_cases c:x∈m.map (·.1)
  ·rw[Zaj c,Zaj (by simp[c])];rfl
  have hx:¬x∈(q::m).map (·.1):=by
   rw[ZV,List.mem_cons];rintro(r|r)
   ·exact e r.symm
   exact c r
  rw[Zai c,Zai hx];rfl
theorem Zmb {κ υ:Type}[DecidableEq κ]{m:List (κ×υ)}{x:κ}{v:υ}(hn:(m.map (·.1)).Nodup){p:κ×υ}:p∈Zd2 m x v↔p=(x,v)∨(p∈m/\p.1≠x):=by
 induction m with
 |nil=>simp[Zd2]
 |cons q m ih=>
  simp only[ZV,List.nodup_cons]at hn;unfold Zd2;by_cases e:q.1=x
  ·rw[Zaj e,List.mem_cons,List.mem_cons];constructor
   ·rintro(r|r)
    ·exact .inl r
    refine .inr ⟨.inr r,λe2=>hn.1 (List.mem_map.2 ⟨p,r,by rw[e2,e]⟩)⟩
   rintro(r|⟨r|r,e2⟩)
   ·exact .inl r
   ·subst r;exact absurd e e2
   exact .inr r
  rw[Zai e,List.mem_cons,ih hn.2,List.mem_cons];constructor
  ·rintro(r|r|⟨r,e2⟩)
   ·subst r;exact .inr ⟨.inl rfl,e⟩
   ·exact .inl r
   exact .inr ⟨.inr r,e2⟩
  rintro(r|⟨r|r,e2⟩)
  ·exact .inr (.inl r)
  ·exact .inl r
  exact .inr (.inr ⟨r,e2⟩)
theorem Grp.get {U:List Zay}{m:List (Int×List Zay)}(h:Grp U m)(q:Int):ZhZ m q []=U.filter (λx=>x.Port==q):=by
 by_cases c:∃p∈m,p.1=q
 ·obtain⟨p,hp,rfl⟩:=c;rw[Zwi h.nd hp,(h.val p hp).1]
 rw[Zvi λp hp e=>c ⟨p,hp,e⟩];symm;rw[List.filter_eq_nil_iff];intro x hx hq;obtain⟨p,hp,e⟩:=h.key x hx;exact c ⟨p,hp,by rw[e];simpa using hq⟩
theorem Grp.add {U:List Zay}{m:List (Int×List Zay)}(h:Grp U m)(x:Zay):Grp (U++[x]) (Zd2 m x.Port (ZhZ m x.Port []++[x])):=by
 refine⟨?_,λp hp=>?_,λy hy=>?_⟩
 ·rw[Zvf];by_cases c:x.Port∈m.map (·.1)
  ·rw[Zaj c];exact h.nd
  rw[Zai c,List.nodup_append];refine⟨h.nd,by simp,λa ha b hb e=>?_⟩;simp only[ZY]at hb;subst hb e;exact c ha
 ·rw[List.filter_append];rcases(Zmb h.nd).1 hp with rfl|⟨hp,hne⟩
  ·simp only;rw[h.get];refine⟨by simp,by simp⟩
  refine⟨?_,(h.val p hp).2⟩;rw[←(h.val p hp).1];simp[Ne.symm hne]
 rcases List.mem_append.1 hy with hy|hy
 ·obtain⟨p,hp,e⟩:=h.key y hy;by_cases c:p.1=x.Port
  ·exact⟨_,(Zmb h.nd).2 (.inl rfl),by rw[←e,c]⟩
  exact⟨p,(Zmb h.nd).2 (.inr ⟨hp,c⟩),e⟩
 simp only[ZY]at hy;subst hy;exact⟨_,(Zmb h.nd).2 (.inl rfl),rfl⟩
theorem ZxM {f:List Zay->Option Bool}{g:List Zay->Bool}:∀{m:List (Int×List Zay)},(∀p∈m,f p.2=some (g p.2))->rgF f m=some (m.any λp=>g p.2)
 |[],_=>rfl
 |p::m,h=>by
  unfold rgF;rw[h p (by simp),Z9,ZxM λq hq=>h q (by simp[hq]),Z9,List.any_cons]
theorem ZvM {P:List Int}{U:List Zay}{b:Bool}(hU:U.length<=300)(hst:∀x∈U,0<=x.Stream/\x.Stream<(P.length:Int))(hN:2000<=N):
  ZaH (λx:Int=>ZbR N ⟨⟨P,U⟩,b⟩ x) N 0=some (if Ziq P U=true then .inr 341 else .inl ()):=by
 rw[ZeT (l:=U) (p:=λx=>!decide (x.Long>perU P x)) (bad:=.inr 341) (fin:=.inl ()) (λk hk=>?_) (by simp[ZbR]) (by omega)]
 ·have e:(U.all λx=>!decide (x.Long>perU P x))=!Ziq P U:=by
   unfold Ziq;rw[List.not_any_eq_all_not]
  rw[e];cases Ziq P U<;>rfl
 obtain⟨a,c⟩:=hst _ (List.getElem_mem hk);simp only[ZbR];rw[Zaj (by simpa using hk),Zbj hk,Z9,Zkd a c,Z9,ZaB (by omega)];by_cases d:U[k].Long>perU P U[k]
 ·rw[Zaj (by simpa using d),Zai (by simpa using d)]
 rw[Zai (by simpa using d),Zaj (by simpa using d)]
theorem W_eq {P:List Int}{U us:List Zay}{b:Bool}{C:Int}(h0:0<=C)(h1:C<=960)(hl:us.length<=300)(hst:∀x∈us,0<=x.Stream/\x.Stream<(P.length:Int))(hp:∀x∈us,1<=perU P x)(e:Int)(hN:2000<=N):
  Zcm N ⟨⟨P,U⟩,b⟩ (C,e) us=some (decide (sumC P C us>63)):=by
 unfold Zcm;obtain⟨o,ho,eo⟩:=ZbX (body:=λx:Int×Int=>Zce N ⟨⟨P,U⟩,b⟩ (C,e) us x.1 x.2)
  (λx=>∃k:Nat,x.2=k/\k<=us.length/\x.1=sumC P C (us.take k)) (λx=>(us.length-x.2).toNat) (λr=>r=sumC P C us) (λx hx=>by
   obtain⟨c,i⟩:=x;obtain⟨k,k1,k2,k3⟩:=hx;simp only at k1 k3;subst k1 k3;simp only[Zce];by_cases c:k<us.length
   ·left;have hm:=List.getElem_mem c;obtain⟨a1,a2⟩:=hst _ hm;have q:=hp _ hm;have s1:=Zmu (P:=P) h0 h1 (U:=us.take k) λx hx=>hp x (List.mem_of_mem_take hx)
    have hlen:(us.take k).length<=300:=by simp;omega
    have d:=ZdD (a:=C) (B:=C) q (by omega) (by omega) h0;have d0:0<=C/perU P us[k]:=Int.ediv_nonneg h0 (by omega);have et:C.tdiv (perU P us[k])=C/perU P us[k]:=Zm h0;refine⟨(sumC P C (us.take (k+1)),((k+1:Nat):Int)),?_,⟨k+1,rfl,by omega,rfl⟩,by simp;omega⟩;rw[Zaj (by simpa using c),Zbj c,Z9,Zkd a1 a2,Z9,Zi0 (by omega),Z9,et];have ew:IntKind.i64.wrap (C/perU P us[k])=C/perU P us[k]:=ZaA (by omega) (by omega);have es:sumC P C (us.take (k+1))=sumC P C (us.take k)+C/perU P us[k]:=by
     rw[ZcP c,Zud];simp[sumC,et]
    rw[ew,ZaA (by omega) (by omega),ZaB (by omega),es]
   right;obtain rfl:k=us.length:=by omega
   exact⟨sumC P C us,by rw[Zai (by simp),Z4],rfl⟩) N (0,0) ⟨0,rfl,by omega,by simp[sumC]⟩ (by simp;omega)
 rw[ho,Z9,eo]
theorem Zxw {P:List Int}{C:Int}{U:List Zay}{m:List (Int×List Zay)}(h:Grp U m):(m.any λp=>decide (sumC P C p.2>63))=Zte P C U:=by
 unfold Zte Zjy;rw[Zf,List.any_eq_true,List.any_eq_true];constructor
 ·rintro⟨p,hp,hs⟩;obtain⟨e,ne⟩:=h.val p hp;obtain⟨x,hx⟩:=List.exists_mem_of_ne_nil _ ne;rw[e]at hx;obtain⟨hx1,hx2⟩:=List.mem_filter.1 hx;have:x.Port=p.1:=by simpa using hx2
  refine⟨x,hx1,?_⟩;rw[this,←e];exact hs
 rintro⟨x,hx,hs⟩;obtain⟨p,hp,e⟩:=h.key x hx;refine⟨p,hp,?_⟩;rw[(h.val p hp).1,e];exact hs
theorem Zly {a:Ac}{n:Nat}(h:AcOK t u n a)(hn:n<=12)(hN:2000<=N):ZdA N ⟨⟨a.P,a.U⟩,a.late⟩=some (errC a):=by
 obtain⟨h1,h2,h3,h4,h5,h6,h7⟩:=h;have hper:∀x∈a.U,1<=perU a.P x:=λx hx=>by
  obtain⟨c,d⟩:=h4 x hx;have:=Zi7.1 (List.all_eq_true.1 h3 _ (ZtO c d));omega
 unfold ZdA errC;simp only;rw[Zha hN (by omega) h3,Z9];by_cases hc:lcmL a.P<=960
 ·rw[Zaj hc,Zaj hc];simp only[Zaf,Zg,Zah];obtain⟨m,hm,em⟩:=ZbX (body:=λx:Int×(List (Int×(List Zay)))=>Zcf N ⟨⟨a.P,a.U⟩,a.late⟩ x.1 x.2)
   (λx=>∃k:Nat,x.1=k/\k<=a.U.length/\Grp (a.U.take k) x.2) (λx=>(a.U.length-x.1).toNat) (λr=>Grp a.U r) (λx hx=>by
    obtain⟨i,m⟩:=x;obtain⟨k,k1,k2,k3⟩:=hx;simp only at k1 k3;subst k1;simp only[Zcf];by_cases c:k<a.U.length
    ·left;have hlen:(ZhZ m a.U[k].Port []).length<=192:=by
      rw[k3.get];have:=List.length_filter_le (λx=>x.Port==a.U[k].Port) (a.U.take k);have e:(a.U.take k).length<=192:=by simp;omega
      omega
     refine⟨(((k+1:Nat):Int),Zd2 m a.U[k].Port (ZhZ m a.U[k].Port []++[a.U[k]])),?_,⟨k+1,rfl,by omega,?_⟩,by simp;omega⟩
     ·rw[Zaj (by simpa using c),Zbj c,Z9,Zim (by omega) (by omega),Z9,ZaB (by omega)]
     simp only;rw[ZcP c];exact k3.add _
    right;obtain rfl:k=a.U.length:=by omega
    rw[Z4]at k3;exact⟨m,by rw[Zai (by simp)],k3⟩) N (0,[]) ⟨0,rfl,by omega,⟨by simp,by simp,by simp⟩⟩ (by simp;omega)
  rw[hm,Z9];rw[ZxM (g:=λus=>decide (sumC a.P (lcmL a.P) us>63)) (λp hp=>by
   have e:=(em.val p hp).1;have hsub:∀x∈p.2,x∈a.U:=λx hx=>by rw[e]at hx;exact(List.mem_filter.1 hx).1
   have hl:p.2.length<=192:=by
    rw[e];have:=List.length_filter_le (λx=>x.Port==p.1) a.U;omega
   exact W_eq (by omega) (by omega) (by omega) (λx hx=>h4 x (hsub x hx)) (λx hx=>hper x (hsub x hx)) 0 hN),Z9,Zxw em]
  cases hf:Zte a.P (lcmL a.P) a.U with
  |true=>rfl
  |false=>
   simp only[Zg,Zah];rw[ZvM (by omega) h4 hN,Z9];cases Ziq a.P a.U with
   |true=>rfl
   |false=>cases a.late<;>rfl
 rw[Zai hc,Zai hc];rfl
def ZsW:Zap:=⟨[],[]⟩
def ofS (t:Zan)(u:Zaq)(l:List Zam):Zap×Int:=
 if Zeo t=true then(if ZdR u=true then(if allR t l=0 then(if errC (accA t u l)=0 then(⟨(accA t u l).P,(accA t u l).U⟩,0)else(ZsW,errC (accA t u l)))else(ZsW,allR t l))else(ZsW,320))else(ZsW,260)
theorem ZxE:allR t []=if Zeo t=true then 0 else 260:=by
 unfold allR;cases Zeo t<;>simp[allB]
theorem Zna {l:List Zam}(h:allR t l=0):l.length<=12/\∀x∈l,Zbq t x=true:=by
 unfold allR at h;by_cases c:Zeo t=true
 ·rw[Zaj c]at h;by_cases d:l.length<=12
  ·rw[Zaj d]at h;by_cases e:l.all (Zbq t)=true
   ·exact⟨d,List.all_eq_true.1 e⟩
   rw[Zai e]at h;omega
  rw[Zai d]at h;omega
 rw[Zai c]at h;omega
theorem Zva (l:List Zam)(hN:2000<=N):Zpa N t u l=some (ofS t u l):=by
 unfold Zpa ofS;rw[Zht _ (by omega),Z9,ZxE];cases hT:Zeo t with
 |false=>rfl
 |true=>
  simp only[Zak,Zaf,Zg,Zah];rw[Zge,Z9];cases hU:ZdR u with
  |false=>rfl
  |true=>
   simp only[Zak,Zaf,Zg,Zah];rw[Zht _ (by omega),Z9];by_cases hA:allR t l=0
   ·obtain⟨h12,hl⟩:=Zna hA;rw[Zaj hA,hA,Zai (by simp),ZsP hT hU hl h12 hN,Z9];simp only;rw[Zly (Zh2 (Zbe.1 hT) (ZbT hU) hl) h12 hN,Z9];by_cases e:errC (accA t u l)=0
    ·rw[Zaj e,e];rfl
    rw[Zai e,Zaj (by simpa using e)];rfl
   rw[Zai hA,Zaj (by simpa using hA)];rfl
end
end Go.Sh

namespace Go.Sh
open Go Go.Eng
section
variable {N:Nat} {t:Zan} {u:Zaq} {s:Zam}
theorem ZsH (g:Good t)(hu:Zfp u)(hs:Zkj s){r:List Int}(e2:ZbB t r=true)(hN:30000000<=N):ZlV N t u s r=some (Zbm t u (ZaQ t u s r (r.length-1))):=by
 obtain⟨h1,h8,hp⟩:=Zb1 e2;have hL:t.Links.length<=1000:=by have:=g.l24;omega
 unfold ZlV;rw[ZjV g hu hs e2 hN,Z9];have hj:r.length-1<r.length:=by omega
 have hb:=ZgF g hu hs hp _ hj;obtain⟨b1,b2,b3,b4⟩:=ZgM g hu hs hp h8 hj;obtain⟨_,_,d1,d2⟩:=ZgK g hb.port;have lo1:=hb.long1;have lo2:=hb.long2;have p1:=hu.p1;have p2:=hu.p2;have x3:idx ((List.range r.length).map (ZaQ t u s r)) (w64 (((List.length ((List.range r.length).map (ZaQ t u s r)):Nat):Int)-1))=some (ZaQ t u s r (r.length-1)):=by
  rw[ZP,ZR,ZaA (by omega) (by omega),show((r.length:Nat):Int)-1=((r.length-1:Nat):Int)by omega,Zjc _ hj]
 rw[x3,Z9,Zlb hL hb.port,Z9];have htold:(ZaQ t u s r (r.length-1)).Open+(ZaQ t u s r (r.length-1)).Long+(plk t (ZaQ t u s r (r.length-1)).Port).Delay+u.Proc=Zbm t u (ZaQ t u s r (r.length-1)):=rfl;rw[ZaA (x:=(ZaQ t u s r (r.length-1)).Open+(ZaQ t u s r (r.length-1)).Long) (by omega) (by omega),ZaA (x:=(ZaQ t u s r (r.length-1)).Open+(ZaQ t u s r (r.length-1)).Long+_) (by omega) (by omega),htold,ZaA (by omega) (by omega)]
theorem ZnU (hT:Zeo t=true)(hU:ZdR u=true){l:List Zam}{i:Nat}(hi:i<l.length)(h:SS t l[i]){b:Bool}{P:List Int}{U:List Zay}(hP:P.length<=100)(hUl:U.length<=900)(hN:30000000<=N):
  ZaH (λx:Bool×Int×(List Zay)=>ZiO N t u l (i:Int) P x.1 x.2.1 x.2.2) N (b,0,U)=some ((ZfQ t u ⟨b,P,U⟩ l[i]).late,(ZfQ t u ⟨b,P,U⟩ l[i]).U):=by
 have g:=Zbe.1 hT;have hu:=ZbT hU;obtain⟨s,es⟩:∃s,s=l[i]:=⟨_,rfl⟩;have ei:idx l (i:Int)=some s:=by rw[Zbj hi,es]
 rw[←es]at h⊢;have hs:=Zdf h.str;have p1:=h.per1;have p2:=h.per2;have r1:=h.r1;have r2:=h.r2;unfold ZfQ;rw[Zaj h.cls];simp only;obtain⟨o,ho,eo⟩:=ZbX (body:=λx:Bool×Int×(List Zay)=>ZiO N t u l (i:Int) P x.1 x.2.1 x.2.2)
  (λx=>∃k:Nat,x.2.1=k/\k<=s.Routes.length/\x.1=(b||(s.Routes.take k).any (Zm0 t u s))/\x.2.2=U++(s.Routes.take k).flatMap (Zc1 t u (P.length:Int) s)) (λx=>(s.Routes.length-x.2.1).toNat)
  (λr=>r=(b||s.Routes.any (Zm0 t u s),U++s.Routes.flatMap (Zc1 t u (P.length:Int) s))) (λx hx=>by
   obtain⟨b',i',U'⟩:=x;obtain⟨k,k1,k2,k3,k4⟩:=hx;simp only at k1 k3 k4;subst k1 k3 k4;simp only[ZiO];rw[ei];simp only[Z9];by_cases c:k<s.Routes.length
   ·left;have hv:=h.rt _ (List.getElem_mem c);obtain⟨v1,v8,vp⟩:=Zb1 hv;refine⟨(b||(s.Routes.take (k+1)).any (Zm0 t u s),((k+1:Nat):Int),U++(s.Routes.take (k+1)).flatMap (Zc1 t u (P.length:Int) s)),?_,⟨k+1,rfl,by omega,rfl,rfl⟩,by simp;omega⟩;rw[Zaj (by simpa using c),Zbj c];simp only[Z9];rw[ZjV g hu hs hv hN,Z9,ZsH g hu hs hv hN];have hfl:((s.Routes.take k).flatMap (Zc1 t u (P.length:Int) s)).length<=8*(s.Routes.take k).length:=Zmf _ _ λr hr=>Zoi g (h.rt r (List.mem_of_mem_take hr)) _
    have htl:(s.Routes.take k).length<=2:=by simp;omega
    obtain⟨q,hq,eq⟩:=ZbX (body:=λx:Int×(List Zay)=>Zlr N u l (i:Int) P ((List.range s.Routes[k].length).map (ZaQ t u s s.Routes[k])) x.1 x.2)
     (λx=>∃j:Nat,x.1=j/\j<=s.Routes[k].length/\x.2=U++(s.Routes.take k).flatMap (Zc1 t u (P.length:Int) s)++(Zc1 t u (P.length:Int) s s.Routes[k]).take j) (λx=>(s.Routes[k].length-x.1).toNat)
     (λr=>r=U++(s.Routes.take k).flatMap (Zc1 t u (P.length:Int) s)++Zc1 t u (P.length:Int) s s.Routes[k]) (λx hx=>by
      obtain⟨i',U'⟩:=x;obtain⟨j,j1,j2,j3⟩:=hx;simp only at j1 j3;subst j1 j3;simp only[Zlr];have hlen:(Zc1 t u (P.length:Int) s s.Routes[k]).length=s.Routes[k].length:=by simp[Zc1,Zil]
      by_cases d:j<s.Routes[k].length
      ·left;refine⟨(((j+1:Nat):Int),U++(s.Routes.take k).flatMap (Zc1 t u (P.length:Int) s)++(Zc1 t u (P.length:Int) s s.Routes[k]).take (j+1)),?_,⟨j+1,rfl,by omega,rfl⟩,by simp;omega⟩;have hmem:ZaQ t u s s.Routes[k] j∈Zil t u s s.Routes[k]:=List.mem_map.2 ⟨j,List.mem_range.2 d,rfl⟩;have eh:(Zc1 t u (P.length:Int) s s.Routes[k])[j]'(by omega)=useH u (P.length:Int) s.Period (ZaQ t u s s.Routes[k] j):=by simp[Zc1,Zil]
       rw[Zaj (by simpa using d),ei,Z9,Zjc _ d,Z9,ZsD hu (ZrS g hu hs hv hmem).1 p1 (by omega),Z9,Zim (by simp only[ZN,ZT];omega) (by omega),Z9,ZaB (by omega),ZcP (by omega),eh];simp only[Zr]
      right;obtain rfl:j=s.Routes[k].length:=by omega
      refine⟨U++(s.Routes.take k).flatMap (Zc1 t u (P.length:Int) s)++Zc1 t u (P.length:Int) s s.Routes[k],?_,rfl⟩;rw[Zai (by simp),Z5 (Nat.le_of_eq hlen)]) N (0,U++(s.Routes.take k).flatMap (Zc1 t u (P.length:Int) s)) ⟨0,rfl,by omega,by simp⟩ (by simp;omega)
    rw[hq,Z9,eq];have hj:s.Routes[k].length-1<s.Routes[k].length:=by omega
    obtain⟨b1,b2,b3,b4⟩:=ZgM g hu hs vp v8 hj;have s1:=hu.s1;have s2:=hu.s2;rw[Z9,ZaA (x:=2*u.Slack) (by omega) (by omega),ZaA (x:=Zbm t u (ZaQ t u s s.Routes[k] (s.Routes[k].length-1))+2*u.Slack) (by omega) (by omega),ZaB (by omega),ZcP c,List.any_append,List.flatMap_append];have el:decide (Zbm t u (ZaQ t u s s.Routes[k] (s.Routes[k].length-1))+2*u.Slack>s.Deadline)=Zm0 t u s s.Routes[k]:=rfl;rw[el];simp only[List.any_cons,List.any_nil,Bool.or_false,List.flatMap_cons,List.flatMap_nil,List.append_nil,Zr];cases b<;>cases (s.Routes.take k).any (Zm0 t u s)<;>cases Zm0 t u s s.Routes[k]<;>simp
   right;obtain rfl:k=s.Routes.length:=by omega
   exact⟨(b||s.Routes.any (Zm0 t u s),U++s.Routes.flatMap (Zc1 t u (P.length:Int) s)),by rw[Zai (by simp),Z4],rfl⟩) N (b,0,U) ⟨0,rfl,by omega,by simp,by simp⟩ (by simp;omega)
 rw[ho,eo]
theorem Zru (hT:Zeo t=true)(hU:ZdR u=true){l:List Zam}(hl:∀x∈l,Zbq t x=true)(h12:l.length<=12)(hN:30000000<=N):
  ZaH (λx:Bool×Int×(List Int)×(List Zay)=>ZiP N t u l x.1 x.2.1 x.2.2.1 x.2.2.2) N (false,0,[],[])=some ((accA t u l).late,(accA t u l).P,(accA t u l).U):=by
 have g:=Zbe.1 hT;have hu:=ZbT hU;obtain⟨o,ho,eo⟩:=ZbX (body:=λx:Bool×Int×(List Int)×(List Zay)=>ZiP N t u l x.1 x.2.1 x.2.2.1 x.2.2.2)
  (λx=>∃k:Nat,x.2.1=k/\k<=l.length/\x.1=(accA t u (l.take k)).late/\x.2.2=((accA t u (l.take k)).P,(accA t u (l.take k)).U)) (λx=>(l.length-x.2.1).toNat)
  (λr=>r=((accA t u l).late,(accA t u l).P,(accA t u l).U)) (λx hx=>by
   obtain⟨b,i,y⟩:=x;obtain⟨k,k1,k2,k3,k4⟩:=hx;simp only at k1 k3 k4;subst k1 k3 k4;simp only[ZiP];by_cases c:k<l.length
   ·left;have hs:=hl _ (List.getElem_mem c);have ha:=Zh2 (t:=t) (u:=u) g hu (l:=l.take k) λx hx=>hl x (List.mem_of_mem_take hx)
    have a1:=ha.pl;have a2:=ha.ul;have htl:(l.take k).length<=12:=by simp;omega
    refine⟨((accA t u (l.take (k+1))).late,((k+1:Nat):Int),(accA t u (l.take (k+1))).P,(accA t u (l.take (k+1))).U),?_,⟨k+1,rfl,by omega,rfl,rfl⟩,by simp;omega⟩;rw[Zaj (by simpa using c),Zbj c];simp only[Z9];rw[ZaB (by omega),Zmo l k c];by_cases hc:l[k].Class=7
    ·have e:=ZnU (N:=N) hT hU c (SS.of hs hc) (b:=(accA t u (l.take k)).late) (P:=(accA t u (l.take k)).P) (U:=(accA t u (l.take k)).U) (by omega) (by omega) hN;rw[Zai (by simpa using hc),e,Z9,Zim (by omega) (by omega),Z9];simp only[Z9];unfold ZfQ;rw[Zaj hc]
    rw[Zaj (by simpa using hc)];unfold ZfQ;rw[Zai hc];rfl
   right;obtain rfl:k=l.length:=by omega
   exact⟨((accA t u l).late,(accA t u l).P,(accA t u l).U),by rw[Zai (by simp),Z4],rfl⟩) N (false,0,[],[]) ⟨0,rfl,by omega,by simp[accA],by simp[accA]⟩ (by simp;omega)
 rw[ho,eo]
theorem Zxe {P:List Int}{U:List Zay}{b:Bool}{C:Int}(h0:0<=C)(h1:C<=960)(hl:U.length<=300)(hst:∀x∈U,0<=x.Stream/\x.Stream<(P.length:Int))(hp:∀x∈U,1<=perU P x)(q:Int)(hN:2000<=N):
  ZaH (λx:Int×Int=>ZiN N (b,P,U) C q x.1 x.2) N (0,0)=some (Zjy P C U q):=by
 obtain⟨o,ho,eo⟩:=ZbX (body:=λx:Int×Int=>ZiN N (b,P,U) C q x.1 x.2)
  (λx=>∃k:Nat,x.2=k/\k<=U.length/\x.1=Zjy P C (U.take k) q) (λx=>(U.length-x.2).toNat) (λr=>r=Zjy P C U q) (λx hx=>by
   obtain⟨c,i⟩:=x;obtain⟨k,k1,k2,k3⟩:=hx;simp only at k1 k3;subst k1 k3;simp only[ZiN];by_cases c:k<U.length
   ·left;have hm:=List.getElem_mem c;obtain⟨a1,a2⟩:=hst _ hm;have hq:=hp _ hm;have s1:=Zmu (P:=P) h0 h1 (U:=(U.take k).filter λx=>x.Port==q) λx hx=>hp x (List.mem_of_mem_take (List.mem_filter.1 hx).1)
    have hlen:((U.take k).filter λx=>x.Port==q).length<=300:=by
     have:=List.length_filter_le (λx:Zay=>x.Port==q) (U.take k);have e:(U.take k).length<=300:=by simp;omega
     omega
    have d:=ZdD (a:=C) (B:=C) hq (by omega) (by omega) h0;have d0:0<=C/perU P U[k]:=Int.ediv_nonneg h0 (by omega);have et:C.tdiv (perU P U[k])=C/perU P U[k]:=Zm h0;have ew:IntKind.i64.wrap (C/perU P U[k])=C/perU P U[k]:=ZaA (by omega) (by omega);refine⟨(Zjy P C (U.take (k+1)) q,((k+1:Nat):Int)),?_,⟨k+1,rfl,by omega,rfl⟩,by simp;omega⟩;have es:Zjy P C (U.take (k+1)) q=Zjy P C (U.take k) q+(if U[k].Port==q then C/perU P U[k]else 0):=by
     unfold Zjy;rw[ZcP c,List.filter_append,Zud]
     congr 1
     cases hh:U[k].Port==q with
     |false=>simp[List.filter,hh,sumC]
     |true=>simp[List.filter,hh,sumC,et]
    have s2:0<=Zjy P C (U.take k) q/\Zjy P C (U.take k) q<=960*300:=by
     unfold Zjy;omega
    rw[Zaj (by simpa using c),Zbj c];simp only[Z9];rw[Zkd a1 a2,Z9,Zi0 (by omega),Z9,et,ew,ZaB (by omega),es];cases hh:U[k].Port==q with
    |false=>simp
    |true=>
     simp only[Zak];rw[Z9,ZaA (by omega) (by omega)]
   right;obtain rfl:k=U.length:=by omega
   exact⟨Zjy P C U q,by rw[Zai (by simp),Z4],rfl⟩) N (0,0) ⟨0,rfl,by omega,by simp[Zjy,sumC]⟩ (by simp;omega)
 rw[ho,eo]
theorem Zvy {P:List Int}{C:Int}{U:List Zay}{n:Nat}(hp:∀x∈U,0<=x.Port/\x.Port<(n:Int)):allB n (λq=>!decide (Zjy P C U (q:Int)>63))=!Zte P C U:=by
 rw[Zf,ZbD];unfold Zte;simp only[Zh,decide_eq_false_iff_not,List.any_eq_false,Zag];constructor
 ·intro h x hx hs;have:=hp x hx;refine h x.Port.toNat (by omega) ?_;rw[Zp this.1];exact hs
 intro h q hq hs;have hne:U.filter (λx=>x.Port==(q:Int))≠[]:=by
  intro e;unfold Zjy at hs;rw[e]at hs;simp[sumC]at hs
 obtain⟨x,hx⟩:=List.exists_mem_of_ne_nil _ hne;obtain⟨hx1,hx2⟩:=List.mem_filter.1 hx;have e:x.Port=(q:Int):=by simpa using hx2
 exact h x hx1 (by rw[e];exact hs)
theorem ZoV (l:List Zam)(hN:30000000<=N):Zkr N t u l=some (ofS t u l):=by
 unfold Zkr ofS;rw[Zk7 (by omega),Z9];cases hT:Zeo t with
 |false=>rfl
 |true=>
  simp only[Zi,Zg,Zah,Zak];rw[Zqj,Z9];cases hU:ZdR u with
  |false=>rfl
  |true=>
   simp only[Zi,Zg,Zah,Zak];rw[ZmQ _ (by omega),Z9];by_cases hA:allR t l=0
   ·obtain⟨h12,hl⟩:=Zna hA;have g:=Zbe.1 hT;rw[Zaj hA,hA,Zai (by simp),Zru hT hU hl h12 hN,Z9];obtain⟨h1,h2,h3,h4,h5,h6,h7⟩:=Zh2 (t:=t) (u:=u) g (ZbT hU) hl;obtain⟨a,ea⟩:∃a,a=accA t u l:=⟨_,rfl⟩;rw[←ea]at h1 h2 h3 h4 h5 h6 h7⊢;have hper:∀x∈a.U,1<=perU a.P x:=λx hx=>by
     obtain⟨c,d⟩:=h4 x hx;have:=Zi7.1 (List.all_eq_true.1 h3 _ (ZtO c d));omega
    have hlp:=Zn9 h3;simp only;rw[ZjQ (by omega) (by omega) h3,Z9];unfold errC;by_cases hc:lcmL a.P<=960
    ·rw[Zaj hc,Zaj hc,Zai (by simp;omega)];have hl24:=g.l24;rw[Za7 (n:=2*t.Links.length) (p:=λq=>!decide (Zjy a.P (lcmL a.P) a.U (q:Int)>63)) (bad:=.inr (ZsW,7)) (fin:=.inl ()) (λq hq=>by
       simp only[Zlq];rw[ZaA (x:=2*((List.length t.Links:Nat):Int)) (by omega) (by omega),Zaj (by simp;omega),Zxe (by omega) (by omega) (by omega) h4 hper (q:Int) (by omega),Z9,ZaB (by omega)];by_cases d:Zjy a.P (lcmL a.P) a.U (q:Int)>63
       ·rw[Zaj (by simpa using d),Zai (by simpa using d)];rfl
       ·rw[Zai (by simpa using d),Zaj (by simpa using d)]) (by
       simp only[Zlq];rw[ZaA (x:=2*((List.length t.Links:Nat):Int)) (by omega) (by omega),Zai (by simp)]) (by omega),Zvy (λx hx=>by
       have:=h5 x hx;simp only[Zcq,Ze,Zag]at this;omega)]
     cases hf:Zte a.P (lcmL a.P) a.U with
     |true=>rfl
     |false=>
      simp only[Bool.not_false,Zak,Zg,Zah,Z9];obtain⟨o,ho,eo⟩:=ZbX (body:=λx:Bool×Int=>Zlp N (a.late,a.P,a.U) x.1 x.2)
       (λx=>∃k:Nat,x.2=k/\k<=a.U.length/\x.1=Ziq a.P (a.U.take k)) (λx=>(a.U.length-x.2).toNat) (λr=>r=Ziq a.P a.U) (λx hx=>by
        obtain⟨c,i⟩:=x;obtain⟨k,k1,k2,k3⟩:=hx;simp only at k1 k3;subst k1 k3;simp only[Zlp];by_cases c:k<a.U.length
        ·left;obtain⟨a1,a2⟩:=h4 _ (List.getElem_mem c);refine⟨(Ziq a.P (a.U.take (k+1)),((k+1:Nat):Int)),?_,⟨k+1,rfl,by omega,rfl⟩,by simp;omega⟩;have es:Ziq a.P (a.U.take (k+1))=(Ziq a.P (a.U.take k)||decide (a.U[k].Long>perU a.P a.U[k])):=by
          unfold Ziq;rw[ZcP c,List.any_append];simp
         rw[Zaj (by simpa using c),Zbj c];simp only[Z9];rw[Zkd a1 a2,Z9,ZaB (by omega),es];cases Ziq a.P (a.U.take k)with
         |true=>rfl
         |false=>cases decide (a.U[k].Long>perU a.P a.U[k])<;>rfl
        right;obtain rfl:k=a.U.length:=by omega
        exact⟨Ziq a.P a.U,by rw[Zai (by simp),Z4],rfl⟩) N (false,0) ⟨0,rfl,by omega,by simp[Ziq]⟩ (by simp;omega)
      rw[ho,Z9,eo];cases Ziq a.P a.U with
      |true=>rfl
      |false=>cases a.late<;>rfl
    rw[Zai hc,Zai hc];rfl
   rw[Zai hA,Zaj (by simpa using hA)];rfl
end
end Go.Sh
namespace Go.Sh
open Go Go.Eng
section
variable {N:Nat} {t:Zan} {u:Zaq} {s:Zam}
theorem ZwW (a:Ac)(x:Zam):∃P' U',(ZfQ t u a x).P=a.P++P'/\(ZfQ t u a x).U=a.U++U':=by
 unfold ZfQ;by_cases c:x.Class=7
 ·rw[Zaj c];exact⟨_,_,rfl,rfl⟩
 rw[Zai c];exact⟨[],[],by simp,by simp⟩
theorem Zuy:∀(l:List Zam) (a:Ac),∃P' U',(l.foldl (ZfQ t u) a).P=a.P++P'/\(l.foldl (ZfQ t u) a).U=a.U++U'
 |[],a=>⟨[],[],by simp,by simp⟩
 |x::l,a=>by
  obtain⟨P1,U1,h1,h2⟩:=ZwW (t:=t) (u:=u) a x;obtain⟨P2,U2,h3,h4⟩:=Zuy l (ZfQ t u a x);exact⟨P1++P2,U1++U2,by rw[Zx,h3,h1,Zr],by rw[Zx,h4,h2,Zr]⟩
theorem ZwG (l:List Zam)(k:Nat):∃P' U',(accA t u l).P=(accA t u (l.take k)).P++P'/\(accA t u l).U=(accA t u (l.take k)).U++U':=by
 unfold accA;have:=Zuy (t:=t) (u:=u) (l.drop k) ((l.take k).foldl (ZfQ t u) ⟨false,[],[]⟩)
 rwa [←Zw,List.take_append_drop]at this
theorem Zwx {a:Ac}(h:errC a=0):lcmL a.P<=960/\Ziq a.P a.U=false/\a.late=false:=by
 unfold errC at h;by_cases c:lcmL a.P<=960
 ·rw[Zaj c]at h;by_cases d:Zte a.P (lcmL a.P) a.U=true
  ·rw[Zaj d]at h;omega
  rw[Zai d]at h;by_cases e:Ziq a.P a.U=true
  ·rw[Zaj e]at h;omega
  rw[Zai e]at h;by_cases f:a.late=true
  ·rw[Zaj f]at h;omega
  exact⟨c,by simpa using e,by simpa using f⟩
 rw[Zai c]at h;omega
theorem Zl3 (g:Good t){a:Ac}{n:Nat}(h:AcOK t u n a)(hn:n<=12)(he:errC a=0):Zj0 ⟨a.P,a.U⟩=true:=by
 obtain⟨h1,h2,h3,h4,h5,h6,h7⟩:=h;obtain⟨e1,e2,e3⟩:=Zwx he;refine Zl2.2 ⟨by simp only;omega,by simp only;omega,h3,?_,e1⟩;rw[Zq];intro x hx;have p:=h5 x hx;have hl:=g.l24;simp only[Zcq,Ze,Zag]at p;have w:x.Long<=perU a.P x:=by
  unfold Ziq at e2;rw[List.any_eq_false]at e2;have:=e2 x hx;simp only[Zag]at this;omega
 obtain⟨s1,s2⟩:=h4 x hx;obtain⟨f1,f2⟩:=h6 x hx;obtain⟨l1,_⟩:=h7 x hx;exact Zhl.2 ⟨s1,s2,by omega,by omega,f1,f2,l1,w⟩
end
end Go.Sh
namespace Go.Sh
open Go Go.Eng
section
variable {N:Nat} {p:Zap}
theorem Zy9 (hN:2000<=N)(h:VP p){given:List Int}(hg:∀y∈given,0<=y/\y<=1000){x:Int}(h0:0<=x)(h1:x<=1000)(hl:given.length<=12):∃r,Zn6 N p given x=some r:=by
 obtain⟨r,hr,_⟩:=ZbX (body:=λy:Int=>Zlo N p given x y) (λy=>∃k:Nat,y=k/\k<=given.length) (λy=>((given.length:Int)-y).toNat) (λ_=>True) (λy hy=>by
   obtain⟨k,rfl,k1⟩:=hy;simp only[Zlo];by_cases c:k<given.length
   ·have q:=hg _ (List.getElem_mem c);rw[Zaj (by simpa using c),Zbj c,Z9,ZhR hN h h0 h1 q.1 q.2,Z9];split
    ·exact .inr ⟨_,rfl,trivial⟩
    exact .inl ⟨_,rfl,⟨k+1,by rw[ZaB (by omega)],by omega⟩,by rw[ZaB (by omega)];omega⟩
   exact .inr ⟨_,by rw[Zai (by simp;omega)],trivial⟩) N 0 ⟨0,rfl,by omega⟩ (by omega)
 unfold Zn6;rw[hr,Z9];cases r with
 |inl _=>
  simp only;rw[ZhR hN h h0 h1 h0 h1,Z9];split<;>exact⟨_,rfl⟩
 |inr q=>exact⟨_,rfl⟩
def ZuN (l:List Zb2)(r:ZaT):Prop:=l.length<=r.Proof.length/\r.Proof.length<=41
theorem Ztj (hN:2000<=N)(h:VP p){R:Zap->ZaT->List Int->Int->Option ZaT}{s:ZaT}{given:List Int}(hl:given.length<p.Periods.length)(hs:s.Proof.length<=41)(hg:∀y∈given,0<=y/\y<=1000)
  (hR:∀(s':ZaT) (x:Int),s'.Proof.length<=41->0<=x->x<=1000->given.length+1<p.Periods.length->∃r,R p s' (given++[x]) 40=some r/\ZuN s'.Proof r):
  ∃r,Zgv N R p s given 40=some r/\ZuN s.Proof r:=by
 unfold Zgv;by_cases hc:40<(s.Proof.length:Int)
 ·rw[Zaj (by simpa using hc)];exact⟨_,rfl,Nat.le_refl _,hs⟩
 have hP:=h.len;have hper:=h.per _ (List.getElem_mem hl);rw[Zai (by simpa using hc),Zdc (by simp;omega) (by omega),Z9];obtain⟨r,hr,e⟩:=ZbX (body:=λx:Int×Int×(List Zdd)×(List Zb2)×(List Int)=>ZdI N R p given 40 x.1 x.2.1 x.2.2.1 x.2.2.2.1 x.2.2.2.2)
  (λy=>∃k:Nat,y.1=k/\k<=240/\y.2.2.1.length<=k/\s.Proof.length+1<=y.2.2.2.1.length/\y.2.2.2.1.length<=41)
  (λy=>((241:Int)-y.1).toNat)
  (λr=>(∃a b c d,r=.inl (a,b,c,d)/\s.Proof.length+1<=c.length/\c.length<=41)∨∃st,r=.inr st/\ZuN s.Proof st) (λy hy=>by
   obtain⟨i,wh,arms,pr,of⟩:=y;obtain⟨k,k0,k1,k2,k3,k4⟩:=hy;simp only at k0 k2 k3 k4;subst k0;simp only[ZdI];rw[Zbj hl,Z9];by_cases c:(k:Int)<p.Periods[given.length]
   ·rw[Zaj (by simpa using c)];by_cases c1:(((List.length given:Nat):Int)==0&&(k:Int)==1)=true
    ·rw[Zaj c1,ZbL 0 (by omega) (by omega),Z9,Zdc (by simp;omega) (by omega),Z9];exact .inr ⟨_,rfl,.inl ⟨_,_,_,_,rfl,k3,k4⟩⟩
    rw[Zai c1];obtain⟨b,hb⟩:=Zy9 hN h hg (x:=(k:Int)) (by omega) (by omega) (by omega);have hw:w64 ((k:Int)+1)=((k+1:Nat):Int):=ZaB (by omega);rw[hb,Z9];by_cases c2:(b != -1)=true
    ·rw[Zaj c2];have arm:∃l:List Zdd,((((if(decide (((List.length arms:Nat):Int)>0))then((idx arms (w64 (((List.length arms:Nat):Int)-1))).bind λe1038=>(some (e1038.By==b)))else(some false))).bind λ(j1042:Bool)=>(if j1042 then((idx arms (w64 (((List.length arms:Nat):Int)-1))).bind λe1045=>(some (List.set arms (Int.toNat (w64 (((List.length arms:Nat):Int)-1))) (Zdd.mk e1045.From (w64 ((k:Int)+1)) e1045.By e1045.Next))))else((appI 32 arms [(Zdd.mk (k:Int) (w64 ((k:Int)+1)) b 0)]).bind λl1051=>(some l1051)))))=some l/\l.length<=k+1:=by
      by_cases hn:arms.length=0
      ·obtain rfl:=List.eq_nil_of_length_eq_zero hn;exact⟨[⟨k,w64 ((k:Int)+1),b,0⟩],by simp[Zdc],by simp⟩
      have e:w64 (((List.length arms:Nat):Int)-1)=((arms.length-1:Nat):Int):=by rw[ZaA (by omega) (by omega)];omega
      rw[Zaj (by simp;omega),e,Zbj (by omega),Z9,Z9];split
      ·exact⟨_,rfl,by simp;omega⟩
      rw[Zdc (by simp;omega) (by omega)];exact⟨_,rfl,by simp;omega⟩
     obtain⟨l,hl1,hl2⟩:=arm;rw[hl1,Z9,hw];exact .inl ⟨_,rfl,⟨k+1,rfl,by omega,hl2,k3,k4⟩,by simp only;omega⟩
    rw[Zai c2,Zdc (by simp;omega) (by omega),Z9,ZZ,Zdc (by simp;omega) (by omega),Z9];by_cases c3:(((List.length (given++[(k:Int)]):Nat):Int)==((List.length p.Periods:Nat):Int))=true
    ·rw[Zaj c3];exact .inr ⟨_,rfl,.inr ⟨_,rfl,by simp only;omega,k4⟩⟩
    rw[Zai c3,Zdc (by simp;omega) (by omega),Z9];simp only[ZN,ZS,beq_iff_eq]at c3;obtain⟨st,hst,s1,s2⟩:=hR ⟨pr,of,wh⟩ (k:Int) k4 (by omega) (by omega) (by omega);rw[hst,Z9];simp only at s1;by_cases c4:(st.What !=0)=true
    ·rw[Zaj c4];exact .inr ⟨_,rfl,.inr ⟨_,rfl,by omega,s2⟩⟩
    rw[Zai c4,hw];exact .inl ⟨_,rfl,⟨k+1,rfl,by omega,by simp;omega,by simp only;omega,s2⟩,by simp only;omega⟩
   rw[Zai (by simpa using c)];exact .inr ⟨_,rfl,.inl ⟨_,_,_,_,rfl,k3,k4⟩⟩) N (0,s.What,[],s.Proof++[⟨((List.length given:Nat):Int),[]⟩],s.Offsets) ⟨0,rfl,by omega,by simp,by simp,by simp;omega⟩ (by simp only;omega)
 rw[hr,Z9];rcases e with⟨a,b,c,d,rfl,e1,e2⟩|⟨st,rfl,e1⟩
 ·simp only;rw[Zbj (by omega),Z9];exact⟨_,rfl,by simp;omega,by simp;omega⟩
 exact⟨_,rfl,e1⟩
theorem ZqW (h:VP p):∀(n M:Nat) (s:ZaT) (given:List Int),given.length+(n+1)=p.Periods.length->2000+n<M->s.Proof.length<=41->(∀y∈given,0<=y/\y<=1000)->∃r,ZgX M p s given 40=some r/\ZuN s.Proof r
 |n,0,s,given,_,hM,_,_=>by omega
 |n,M+1,s,given,hl,hM,hs,hg=>by
  refine Ztj (N:=M) (by omega) h (by omega) hs hg λs' x h1 h2 h3 h4=>?_
  cases n with
  |zero=>omega
  |succ n=>
   refine ZqW h n M s' (given++[x]) (by simp;omega) (by omega) h1 λy hy=>?_
   rcases List.mem_append.1 hy with hy|hy
   ·exact hg y hy
   rw[List.mem_singleton.1 hy];exact⟨h2,h3⟩
theorem ZvH (h:Zj0 p=true)(hN:3000<=N):∃r,ZiK N p 40=some r:=by
 unfold ZiK;rw[Zqf (by omega),h,Z9,Zai (by simp),Zai (by decide)];have hv:=VP.of h;have hl:=hv.len;by_cases c:p.Periods.length=0
 ·rw[Zaj (by simp[c])];exact⟨_,rfl⟩
 rw[Zai (by simpa using c)];obtain⟨r,hr,_⟩:=ZqW hv (p.Periods.length-1) N ⟨[],[],0⟩ [] (by simp;omega) (by omega) (by simp) (by simp);rw[hr,Z9];split
 ·exact⟨_,rfl⟩
 split<;>exact⟨_,rfl⟩
end
end Go.Sh

namespace Go.Sh
open Go Go.Eng
theorem ZxP {α β S ρ:Type}(l:List α)(f:β->α->β)(J:Nat->β->Prop)(e:Nat->β->S){body:S->Option (S⊕ρ)}{fin:β->ρ}
  (hstep:∀k (hk:k<l.length) b,J k b->body (e k b)=some (.inl (e (k+1) (f b l[k])))/\J (k+1) (f b l[k])) (hend:∀b,J l.length b->body (e l.length b)=some (.inr (fin b))):
  ∀(n k M:Nat) (b:β),l.length-k=n->k<=l.length->J k b->n<M->ZaH body M (e k b)=some (fin ((l.drop k).foldl f b))/\J l.length ((l.drop k).foldl f b)
 |n,k,0,b,_,_,_,h=>by omega
 |0,k,M+1,b,hn,hk,hJ,h=>by
  obtain rfl:k=l.length:=by omega
  rw[Za9 (hend b hJ),List.drop_length];exact⟨rfl,hJ⟩
 |n+1,k,M+1,b,hn,hk,hJ,h=>by
  obtain⟨h1,h2⟩:=hstep k (by omega) b hJ;rw[ZbV h1,Zmh (show k<l.length by omega),Zx];exact ZxP l f J e hstep hend n (k+1) M _ (by omega) (by omega) h2 (by omega)
theorem Zjb {α β S ρ:Type}(l:List α)(f:β->α->β)(J:Nat->β->Prop)(e:Nat->β->S){body:S->Option (S⊕ρ)}{fin:β->ρ}{N:Nat}{b:β}(hN:l.length<N)(h0:J 0 b)
  (hstep:∀k (hk:k<l.length) b,J k b->body (e k b)=some (.inl (e (k+1) (f b l[k])))/\J (k+1) (f b l[k])) (hend:∀b,J l.length b->body (e l.length b)=some (.inr (fin b))):
  ZaH body N (e 0 b)=some (fin (l.foldl f b))/\J l.length (l.foldl f b):=by
 have:=ZxP l f J e hstep hend l.length 0 N b (by omega) (by omega) h0 hN
 rwa [List.drop_zero]at this
theorem Zme {α β:Type}(g:α->List β):∀(l:List α) (b:List β),l.foldl (λb a=>b++g a) b=b++l.flatMap g
 |[],b=>by simp
 |a::l,b=>by rw[Zx,Zme g l,List.flatMap_cons,Zr]
theorem ZlD {α β:Type}(g:α->β):∀(l:List α),l.flatMap (λa=>[g a])=l.map g
 |[]=>rfl
 |a::l=>by rw[List.flatMap_cons,ZlD g l];rfl
section
variable {N:Nat} {t:Zan} {u:Zaq} {s:Zam}
structure Tw where
 n:Nat
 s:Zam
 x:Int
 h:ZaP
def Zsh (t:Zan)(u:Zaq)(n:Nat)(s:Zam)(x:Int)(r:List Int):List Tw:=(Zil t u s r).map (Tw.mk n s x)
def Zre (t:Zan)(u:Zaq)(n:Nat)(s:Zam)(x:Int):List Tw:=s.Routes.flatMap (Zsh t u n s x)
def ZpT (t:Zan)(u:Zaq)(o:List Int)(a:Nat×List Tw)(s:Zam):Nat×List Tw:=if s.Class=7 then(a.1+1,a.2++Zre t u a.1 s (o.getD a.1 0))else a
def Zcy (t:Zan)(u:Zaq)(l:List Zam)(o:List Int):Nat×List Tw:=l.foldl (ZpT t u o) (0,[])
def synW (u:Zaq)(w:Tw):Za2:=⟨w.h.Port,w.h.Open+w.x*u.Grid,w.h.Long,w.s.Period*u.Grid⟩
def Zhm (u:Zaq)(w:Tw):Int:=(w.h.Long+u.Grid-1)/u.Grid
def refW (u:Zaq)(w:Tw):ZaO:=⟨w.s.Id,w.h.Port,w.h.Open+w.x*u.Grid,w.s.Period*u.Grid,Zhm u w*u.Grid,w.h.Long⟩
structure TwOK (t:Zan) (u:Zaq) (w:Tw):Prop where
 s:SS t w.s
 h:HN u w.h
 port:Zcq t w.h.Port=true
 x1:0<=w.x
 x2:w.x<w.s.Period
 grid:w.h.Open%u.Grid=0
theorem Zwc (hu:Zfp u)(g:Good t)(hs:Zkj s){r:List Int}(hv:ZbB t r=true){h:ZaP}(hh:h∈Zil t u s r):h.Open%u.Grid=0:=by
 obtain⟨h1,h8,hp⟩:=Zb1 hv;obtain⟨k,hk,rfl⟩:=List.mem_map.1 hh;rw[ZX]at hk;cases k with
 |zero=>show(0:Int)%u.Grid=0;simp
 |succ k=>show Zm8 u _%u.Grid=0;unfold Zm8;exact Int.mul_emod_left _ _
theorem Zrd (g:Good t)(hu:Zfp u)(h:SS t s){n:Nat}{x:Int}(x1:0<=x)(x2:x<s.Period){w:Tw}(hw:w∈Zre t u n s x):TwOK t u w:=by
 obtain⟨r,hr,hw⟩:=List.mem_flatMap.1 hw;obtain⟨hh,hm,rfl⟩:=List.mem_map.1 hw;have hs:=Zdf h.str;obtain⟨a,b⟩:=ZrS g hu hs (h.rt r hr) hm;exact⟨h,a,b,x1,x2,Zwc hu g hs (h.rt r hr) hm⟩
theorem mulG {x G:Int}(h0:0<=x)(h1:x<=100000000)(hG:1<=G)(hG2:G<=10000):0<=x*G/\x*G<=1000000000000:=by
 constructor
 ·exact Int.mul_nonneg h0 (by omega)
 calc x*G<=100000000*10000:=Int.mul_le_mul h1 hG2 (by omega) (by omega)
  _=_:=by decide
theorem TwOK.num {w:Tw}(h:TwOK t u w)(hu:Zfp u):(0<=w.x*u.Grid/\w.x*u.Grid<=1000000000000)/\(0<=w.s.Period*u.Grid/\w.s.Period*u.Grid<=2400000)/\(0<=Zhm u w/\Zhm u w<=1552000)/\(0<=Zhm u w*u.Grid/\Zhm u w*u.Grid<=1000000000000):=by
 have p2:=h.s.per2;have p1:=h.s.per1;have x1:=h.x1;have x2:=h.x2;obtain⟨_,_,_,_,l1,l2,_⟩:=h.h;have g1:=hu.g1;have g2:=hu.g2;have hu0:0<=Zhm u w/\Zhm u w<=1552000:=by
  have:=ZdD (a:=w.h.Long+u.Grid-1) (B:=1552000) g1 (by omega) (by omega) (by omega);exact⟨Int.ediv_nonneg (by omega) (by omega),this.2⟩
 refine⟨mulG x1 (by omega) g1 g2,⟨(mulG (by omega) (by omega) g1 g2).1,?_⟩,hu0,mulG hu0.1 (by omega) g1 g2⟩
 calc w.s.Period*u.Grid<=240*10000:=Int.mul_le_mul p2 g2 (by omega) (by omega)
  _=_:=by decide
theorem Zo6 {a b:Int}(hb:1<=b)(ha:0<=a)(ha2:a<=1000000000000000):quoI .i64 a b=some (a/b):=by
 rw[Zi0 (by omega),Zm ha];show some (w64 (a/b))=_;have h1:=Int.ediv_nonneg ha (show 0<=b by omega);have h2:=Int.ediv_le_self b ha;rw[ZaA (by omega) (by omega)]
theorem ZuT (hu:Zfp u){l:List Zam}{o:List Int}{i n:Nat}(hi:i<l.length)(hn:n<o.length){hs:List ZaP}(h8:hs.length<=8)(hok:∀h∈hs,TwOK t u ⟨n,l[i],o.getD n 0,h⟩){W:List ZaO}(hW:W.length<=1000)(hN:2000<=N):
  ZaH (λx:Int×(List ZaO)=>Zdx N u l o (n:Int) (i:Int) hs x.1 x.2) N (0,W)=some (W++hs.map λh=>refW u ⟨n,l[i],o.getD n 0,h⟩):=by
 have:=(Zjb (body:=λx:Int×(List ZaO)=>Zdx N u l o (n:Int) (i:Int) hs x.1 x.2) (N:=N) hs (λb h=>b++[refW u ⟨n,l[i],o.getD n 0,h⟩]) (λk b=>b.length<=1000+k) (λk b=>((k:Int),b)) (fin:=id) (b:=W) (by omega) (by simpa using hW) (λk hk b hb=>by
   have ok:=hok _ (List.getElem_mem hk);obtain⟨⟨a1,a2⟩,⟨b1,b2⟩,⟨c1,c2⟩,d1,d2⟩:=ok.num hu;obtain⟨_,_,o1,o2,l1,l2,_⟩:=ok.h;have g1:=hu.g1;have g2:=hu.g2;simp only at a1 a2 b1 b2 o1 o2 l1 l2;refine⟨?_,by simp;omega⟩;simp only[Zdx];rw[Zaj (by simpa using hk),Zbj hk,Z9,ZaA (x:=hs[k].Long+u.Grid) (by omega) (by omega),ZaA (x:=hs[k].Long+u.Grid-1) (by omega) (by omega),Zo6 g1 (by omega) (by omega),Z9,Zbj hi,Z9,Z9,Z9,ZbL 0 (by omega) (by omega),Z9,Z9,Z9,Zdc (by simp;omega) (by omega),Z9];rw[Zo,ZaA (x:=o.getD n 0*u.Grid) (by omega) (by omega),ZaA (x:=hs[k].Open+o.getD n 0*u.Grid) (by omega) (by omega),ZaA (x:=l[i].Period*u.Grid) (by omega) (by omega),ZaB (by omega)];have e:w64 ((hs[k].Long+u.Grid-1)/u.Grid*u.Grid)=Zhm u ⟨n,l[i],o.getD n 0,hs[k]⟩*u.Grid:=ZaA (x:=Zhm u ⟨n,l[i],o.getD n 0,hs[k]⟩*u.Grid) (by omega) (by omega);rw[e];rfl) (λb hb=>by simp[Zdx])).1
 refine this.trans ?_;rw[Zme (λh=>[refW u ⟨n,l[i],o.getD n 0,h⟩]),id,ZlD]
theorem ZuU (hT:Zeo t=true)(hU:ZdR u=true){l:List Zam}{o:List Int}{i n:Nat}(hi:i<l.length)(h:SS t l[i])(hn:n<o.length)(x1:0<=o.getD n 0)(x2:o.getD n 0<l[i].Period){W:List ZaO}(hW:W.length<=900)(hN:30000000<=N):
  ZaH (λx:Int×(List ZaO)=>Zdy N t u l o (n:Int) (i:Int) x.1 x.2) N (0,W)=some (W++(Zre t u n l[i] (o.getD n 0)).map (refW u)):=by
 have g:=Zbe.1 hT;have hu:=ZbT hU;have hs:=Zdf h.str;have r2:=h.r2;have:=(Zjb (body:=λx:Int×(List ZaO)=>Zdy N t u l o (n:Int) (i:Int) x.1 x.2) (N:=N) l[i].Routes (λb r=>b++(Zsh t u n l[i] (o.getD n 0) r).map (refW u)) (λk b=>b.length<=900+8*k) (λk b=>((k:Int),b)) (fin:=id) (b:=W) (by omega) (by simpa using hW) (λk hk b hb=>by
   have hv:=h.rt _ (List.getElem_mem hk);have h8:=(Zb1 hv).2.1;have hl:((Zsh t u n l[i] (o.getD n 0) l[i].Routes[k]).map (refW u)).length<=8:=by simp[Zsh,Zil];omega
   refine⟨?_,by rw[ZN];omega⟩;simp only[Zdy];rw[Zbj hi,Z9,Zaj (by simpa using hk),Z9,Z9,Zbj hk,Z9,ZjV g hu hs hv hN,Z9];have e:=ZuT (N:=N) (t:=t) hu (W:=b) hi hn (hs:=Zil t u l[i] l[i].Routes[k]) (by simp[Zil];omega) (λh' hh=>Zrd g hu h x1 x2 (List.mem_flatMap.2 ⟨_,List.getElem_mem hk,List.mem_map.2 ⟨h',hh,rfl⟩⟩)) (by omega) (by omega);unfold Zil at e;rw[e,Z9,ZaB (by omega)];simp[Zsh,Zil,Function.comp_def]) (λb hb=>by
   simp only[Zdy];rw[Zbj hi,Z9,Zai (by simp)];rfl)).1
 refine this.trans ?_;rw[Zme,id];unfold Zre;rw[List.map_flatMap]
theorem Zsg (o:List Int):∀(l:List Zam) (a:Nat×List Tw) (b:Ac),a.1=b.P.length->(l.foldl (ZpT t u o) a).1=(l.foldl (ZfQ t u) b).P.length
 |[],a,b,h=>h
 |s::l,a,b,h=>by
  rw[Zx,Zx];refine Zsg o l _ _ ?_;unfold ZpT ZfQ;by_cases c:s.Class=7
  ·rw[Zaj c,Zaj c];simp[h]
  rw[Zai c,Zai c];exact h
theorem Zok (l:List Zam)(o:List Int):(Zcy t u l o).1=(accA t u l).P.length:=Zsg o l _ _ rfl
theorem Zkk (l:List Zam)(o:List Int)(k:Nat)(hk:k<l.length):Zcy t u (l.take (k+1)) o=ZpT t u o (Zcy t u (l.take k) o) l[k]:=by
 unfold Zcy;rw[ZcP hk,Zw];rfl
theorem Zwf {l:List Zam}{k:Nat}(hk:k<l.length)(hc:l[k].Class=7){o:List Int}(ho:ZhX ⟨(accA t u l).P,(accA t u l).U⟩ o=true):
  (Zcy t u (l.take k) o).1<o.length/\0<=o.getD (Zcy t u (l.take k) o).1 0/\o.getD (Zcy t u (l.take k) o).1 0<l[k].Period:=by
 obtain⟨h1,h2⟩:=ZrF ho;simp only at h1;obtain⟨P',U',p1,_⟩:=ZwG (t:=t) (u:=u) l (k+1);rw[Zmo l k hk]at p1;unfold ZfQ at p1;rw[Zaj hc]at p1;simp only at p1;rw[Zok];obtain⟨A,eA⟩:∃A,A=(accA t u (l.take k)).P:=⟨_,rfl⟩;rw[←eA]at p1⊢;have hlt:A.length<o.length:=by rw[h1,p1];simp
 have h3:=ZgA.1 (h2 _ hlt);obtain⟨_,_,a,b⟩:=h3;refine⟨hlt,a,?_⟩;simp only[Zo]at b;rw[p1]at b;have e:(A++[l[k].Period]++P').getD A.length 0=l[k].Period:=by
  rw[Zr,Zy,ZA (Nat.le_refl _)];simp
 rwa [e]at b
theorem Zn2 (g:Good t)(hu:Zfp u){l:List Zam}(hl:∀x∈l,Zbq t x=true){o:List Int}(ho:ZhX ⟨(accA t u l).P,(accA t u l).U⟩ o=true):∀k,k<=l.length->(∀w∈(Zcy t u (l.take k) o).2,TwOK t u w)/\(Zcy t u (l.take k) o).2.length<=16*k
 |0,_=>by simp[Zcy]
 |k+1,hk=>by
  obtain⟨ih,ih2⟩:=Zn2 g hu hl ho k (by omega);rw[Zkk l o k (by omega)];unfold ZpT;by_cases c:l[k].Class=7
  ·rw[Zaj c];obtain⟨h1,h2,h3⟩:=Zwf (by omega) c ho;have hs:=SS.of (hl _ (List.getElem_mem (show k<l.length by omega))) c;have r2:=hs.r2;refine⟨λw hw=>?_,?_⟩
   ·rcases List.mem_append.1 hw with hw|hw
    ·exact ih w hw
    exact Zrd g hu hs h2 h3 hw
   have:=Zmf (Zsh t u (Zcy t u (l.take k) o).1 l[k] (o.getD (Zcy t u (l.take k) o).1 0)) (B:=8) l[k].Routes λr hr=>by
    have:=(Zb1 (hs.rt r hr)).2.1;simp[Zsh,Zil];omega
   rw[ZN];unfold Zre;omega
  rw[Zai c];exact⟨ih,by omega⟩
theorem ZnQ (hT:Zeo t=true)(hU:ZdR u=true){l:List Zam}(hl:∀x∈l,Zbq t x=true)(h12:l.length<=12){o:List Int}(ho:ZhX ⟨(accA t u l).P,(accA t u l).U⟩ o=true)(hN:30000000<=N):
  Ze3 N t u l o=some ((Zcy t u l o).2.map (refW u)):=by
 have g:=Zbe.1 hT;have hu:=ZbT hU;unfold Ze3;obtain⟨r,hr,er⟩:=ZbX (body:=λx:Int×Int×(List ZaO)=>Zf6 N t u l o x.1 x.2.1 x.2.2)
  (λx=>∃k:Nat,x=(((Zcy t u (l.take k) o).1:Int),(k:Int),(Zcy t u (l.take k) o).2.map (refW u))/\k<=l.length) (λx=>(l.length-x.2.1).toNat)
  (λr=>r=(Zcy t u l o).2.map (refW u)) (λx hx=>by
   obtain⟨k,rfl,hk⟩:=hx;simp only[Zf6];by_cases c:k<l.length
   ·left;refine⟨(((Zcy t u (l.take (k+1)) o).1:Int),((k+1:Nat):Int),(Zcy t u (l.take (k+1)) o).2.map (refW u)),?_,⟨k+1,rfl,by omega⟩,by simp only;omega⟩;have hlen:=(Zn2 g hu hl ho k hk).2;rw[Zaj (by simpa using c),Zbj c,Z9,ZaB (n:=k) (by omega),Zkk l o k c];unfold ZpT;by_cases hc:l[k].Class=7
    ·obtain⟨h1,h2,h3⟩:=Zwf c hc ho;have hs:=SS.of (hl _ (List.getElem_mem c)) hc;rw[Zai (by simpa using hc),Zaj hc,ZuU hT hU c hs h1 h2 h3 (by rw[ZP];omega) hN,Z9,Z9,ZU];have h7:=Zok (t:=t) (u:=u) (l.take k) o;have h8:=(Zh2 (t:=t) (u:=u) g hu (l:=l.take k) λx hx=>hl x (List.mem_of_mem_take hx)).pl;rw[ZT]at h8;rw[ZaB (n:=(Zcy t u (l.take k) o).1) (by omega)]
    rw[Zaj (by simpa using hc),Zai hc,Z9]
   right;obtain rfl:k=l.length:=by omega
   rw[Zai (by simp),Z4];exact⟨_,rfl,rfl⟩) N (0,0,[]) ⟨0,by simp[Zcy],by omega⟩ (by simp only;omega)
 rw[hr,er];rfl
variable {σ:Type} {y:σ->Za2->Option (σ×Bool)} {F:σ->Tw->σ} {J:σ->Prop} {W:List Tw}
theorem ZqB (o:List Int):∀(l:List Zam) (a:Nat×List Tw) (w:Tw),w∈a.2->w∈(l.foldl (ZpT t u o) a).2
 |[],a,w,h=>h
 |s::l,a,w,h=>by
  rw[Zx];refine ZqB o l _ w ?_;unfold ZpT;split
  ·exact List.mem_append_left _ h
  exact h
theorem ZvU (l:List Zam)(o:List Int)(k:Nat){w:Tw}(h:w∈(Zcy t u (l.take k) o).2):w∈(Zcy t u l o).2:=by
 have:=ZqB (t:=t) (u:=u) o (l.drop k) _ w h;unfold Zcy at this⊢
 rwa [←Zw,List.take_append_drop]at this
theorem Zy1 (hu:Zfp u){n:Nat}{x:Int}{hs:List ZaP}{e:Int}(h8:hs.length<=8)(hok:∀h∈hs,TwOK t u ⟨n,s,x,h⟩)(hW:∀h∈hs,(⟨n,s,x,h⟩:Tw)∈W)(hy:∀w∈W,∀z,J z->y z (synW u w)=some (F z w,true)/\J (F z w)){z:σ}(hz:J z)(hN:2000<=N):
  ZaH (λq:Int×σ=>ZbJ N y u s x (hs,e) q.1 q.2) N (0,z)=some (.inl ((hs.map (Tw.mk n s x)).foldl F z))/\J ((hs.map (Tw.mk n s x)).foldl F z):=by
 have:=Zjb (body:=λq:Int×σ=>ZbJ N y u s x (hs,e) q.1 q.2) (N:=N) hs (λb h=>F b ⟨n,s,x,h⟩) (λ_ b=>J b) (λk b=>((k:Int),b)) (fin:=.inl) (b:=z) (by omega) hz (λk hk b hb=>by
   have ok:=hok _ (List.getElem_mem hk);obtain⟨⟨a1,a2⟩,⟨b1,b2⟩,⟨c1,c2⟩,d1,d2⟩:=ok.num hu;obtain⟨_,_,o1,o2,l1,l2,_⟩:=ok.h;simp only at a1 a2 b1 b2 o1 o2;obtain⟨y1,y2⟩:=hy _ (hW _ (List.getElem_mem hk)) b hb;refine⟨?_,y2⟩;simp only[ZbJ];rw[Zaj (by simpa using hk),Zbj hk,Z9,ZaA (x:=x*u.Grid) (by omega) (by omega),ZaA (x:=hs[k].Open+x*u.Grid) (by omega) (by omega),ZaA (x:=s.Period*u.Grid) (by omega) (by omega)];have e:Za2.mk hs[k].Port (hs[k].Open+x*u.Grid) hs[k].Long (s.Period*u.Grid)=synW u ⟨n,s,x,hs[k]⟩:=rfl;rw[e,y1,Z9,Zai (by simp),ZaB (by omega)]) (λb hb=>by simp[ZbJ])
 rw[List.foldl_map];exact this
theorem Zy2 (hT:Zeo t=true)(hU:ZdR u=true)(h:SS t s){n:Nat}{x:Int}(x1:0<=x)(x2:x<s.Period)(hW:∀w∈Zre t u n s x,w∈W)(hy:∀w∈W,∀z,J z->y z (synW u w)=some (F z w,true)/\J (F z w)){z:σ}(hz:J z)(hN:2000<=N):
  ZaH (λq:Int×σ=>ZbK N y t u s x q.1 q.2) N (0,z)=some (.inl ((Zre t u n s x).foldl F z))/\J ((Zre t u n s x).foldl F z):=by
 have g:=Zbe.1 hT;have hu:=ZbT hU;have r2:=h.r2;have:=Zjb (body:=λq:Int×σ=>ZbK N y t u s x q.1 q.2) (N:=N) s.Routes (λb r=>(Zsh t u n s x r).foldl F b) (λ_ b=>J b) (λk b=>((k:Int),b)) (fin:=.inl) (b:=z) (by omega) hz (λk hk b hb=>by
   have hv:=h.rt _ (List.getElem_mem hk);have h8:=(Zb1 hv).2.1;obtain⟨e1,e2⟩:=Zy1 (N:=N) (t:=t) (s:=s) (n:=n) (x:=x) (e:=0) hu (hs:=Zil t u s s.Routes[k]) (by simp[Zil];omega) (λh' hh=>Zrd g hu h x1 x2 (List.mem_flatMap.2 ⟨_,List.getElem_mem hk,List.mem_map.2 ⟨h',hh,rfl⟩⟩)) (λh' hh=>hW _ (List.mem_flatMap.2 ⟨_,List.getElem_mem hk,List.mem_map.2 ⟨h',hh,rfl⟩⟩)) hy hb hN;refine⟨?_,e2⟩;simp only[ZbK];rw[Zaj (by simpa using hk),Zjp hT hU h.str h.cls (by omega) (by omega) (by omega),Z9,ZmI k hk];unfold Zil at e1;rw[e1,Z9,ZaB (by omega)];rfl) (λb hb=>by simp[ZbK])
 unfold Zre;rw[List.foldl_flatMap];exact this
theorem ZnD (hT:Zeo t=true)(hU:ZdR u=true){l:List Zam}(hl:∀x∈l,Zbq t x=true)(h12:l.length<=12){o:List Int}(ho:ZhX ⟨(accA t u l).P,(accA t u l).U⟩ o=true)(hy:∀w∈(Zcy t u l o).2,∀z,J z->y z (synW u w)=some (F z w,true)/\J (F z w)){z:σ}(hz:J z)(hN:2000<=N):
  ZdU N y l o t u z=some ((Zcy t u l o).2.foldl F z)/\J ((Zcy t u l o).2.foldl F z):=by
 have g:=Zbe.1 hT;have hu:=ZbT hU;unfold ZdU;obtain⟨r,hr,er,ej⟩:=ZbX (body:=λq:Int×Int×σ=>Zci N y l o t u q.1 q.2.1 q.2.2)
  (λq=>∃k:Nat,q=(((Zcy t u (l.take k) o).1:Int),(k:Int),(Zcy t u (l.take k) o).2.foldl F z)/\k<=l.length/\J ((Zcy t u (l.take k) o).2.foldl F z)) (λq=>(l.length-q.2.1).toNat)
  (λr=>r=.inl ((Zcy t u l o).2.foldl F z)/\J ((Zcy t u l o).2.foldl F z)) (λq hq=>by
   obtain⟨k,rfl,hk,hj⟩:=hq;simp only[Zci];by_cases c:k<l.length
   ·left;rw[Zaj (by simpa using c),Zbj c,Z9,ZaB (n:=k) (by omega)];have ex:=Zkk (t:=t) (u:=u) l o k c;unfold ZpT at ex;by_cases hc:l[k].Class=7
    ·obtain⟨h1,h2,h3⟩:=Zwf c hc ho;have hs:=SS.of (hl _ (List.getElem_mem c)) hc;rw[Zaj hc]at ex;obtain⟨e1,e2⟩:=Zy2 (N:=N) hT hU hs h2 h3 (W:=(Zcy t u l o).2) (λw hw=>ZvU l o (k+1) (by rw[ex];exact List.mem_append_right _ hw)) hy hj hN;have h7:=Zok (t:=t) (u:=u) (l.take k) o;have h8:=(Zh2 (t:=t) (u:=u) g hu (l:=l.take k) λx hx=>hl x (List.mem_of_mem_take hx)).pl;rw[ZT]at h8;refine⟨(((Zcy t u (l.take (k+1)) o).1:Int),((k+1:Nat):Int),(Zcy t u (l.take (k+1)) o).2.foldl F z),?_,⟨k+1,rfl,by omega,?_⟩,by simp only;omega⟩
     ·rw[Zai (by simpa using hc),ZbL 0 (by omega) (by omega),Z9,Zo,e1,Z9,ex,Zw,ZaB (n:=(Zcy t u (l.take k) o).1) (by omega)]
     rw[ex,Zw];exact e2
    rw[Zai hc]at ex;refine⟨(((Zcy t u (l.take (k+1)) o).1:Int),((k+1:Nat):Int),(Zcy t u (l.take (k+1)) o).2.foldl F z),?_,⟨k+1,rfl,by omega,?_⟩,by simp only;omega⟩
    ·rw[Zaj (by simpa using hc),ex]
    rw[ex];exact hj
   right;obtain rfl:k=l.length:=by omega
   rw[Z4]at hj;rw[Zai (by simp),Z4];exact⟨_,rfl,rfl,hj⟩) N (0,0,z) ⟨0,by simp[Zcy],by omega,by simpa[Zcy]using hz⟩ (by simp only;omega)
 rw[hr,er];exact⟨rfl,ej⟩
end
end Go.Sh

namespace Go.Sh
open Go Go.Eng
def tabB (n C:Nat)(F:Nat->Nat->Bool):List (List Bool):=(List.range n).map λp=>(List.range C).map (F p)
theorem ZqC {n C:Nat}{F F':Nat->Nat->Bool}(h:∀p,p<n->∀i,i<C->F p i=F' p i):tabB n C F=tabB n C F':=by
 unfold tabB;refine List.map_congr_left λp hp=>List.map_congr_left λi hi=>h p (List.mem_range.1 hp) i (List.mem_range.1 hi)
theorem ZwV {n C q i:Nat}{F:Nat->Nat->Bool}(hq:q<n)(hi:i<C):(tabB n C F).set q (((List.range C).map (F q)).set i true)=tabB n C (λp k=>F p k||(decide (p=q)&&decide (i=k))):=by
 unfold tabB;refine List.ext_getElem (by simp) λp h1 h2=>?_
 simp only[ZP,ZR]at h2;rw[List.getElem_set];by_cases c:q=p
 ·subst c;rw[Zaj rfl];simp only[List.getElem_map,ZM];refine List.ext_getElem (by simp) λk h3 h4=>?_
  simp only[ZP,ZR]at h4;rw[List.getElem_set];simp only[List.getElem_map,ZM];by_cases d:i=k
  ·simp[d]
  simp[d]
 rw[Zai c];simp only[List.getElem_map,ZM];refine List.map_congr_left λk _=>?_
 simp[Ne.symm c]
def ZtT (q C f U:Nat)(F:Nat->Nat->Bool):Nat->Nat->Bool:=λp i=>F p i||(decide (p=q)&&(List.range U).any λj=>decide ((f+j)%C=i))
theorem Zs4 (q C f:Nat)(F:Nat->Nat->Bool):∀U,(List.range U).foldl (λG j=>λp i=>G p i||(decide (p=q)&&decide ((f+j)%C=i))) F=ZtT q C f U F
 |0=>by funext p i;simp[ZtT]
 |U+1=>by
  rw[Z2,Zw,Zs4 q C f F U];funext p i;simp only[Zx,List.foldl_nil,ZtT,Z2,List.any_append,List.any_cons,List.any_nil,Bool.or_false];cases F p i<;>cases decide (p=q)<;>simp
section
variable {N:Nat} {t:Zan} {u:Zaq} {s:Zam}
theorem ZXv {n C q f U:Nat}{F:Nat->Nat->Bool}(hq:q<n)(hC:0<C)(hC2:C<=960)(hf:f<=100000000)(hU:U<=2000000)(hN:30000000<=N):
  ZdF N ((C:Int),0) (tabB n C F) (q:Int) (f:Int) (U:Int)=some (tabB n C (ZtT q C f U F)):=by
 unfold ZdF;have:=(Zjb (body:=λx:Int×(List (List Bool))=>ZcS N ((C:Int),0) (q:Int) (f:Int) (U:Int) x.1 x.2) (N:=N) (List.range U) (λG j=>λp i=>G p i||(decide (p=q)&&decide ((f+j)%C=i))) (λ_ _=>True) (λk G=>((k:Int),tabB n C G)) (fin:=tabB n C) (b:=F) (by rw[ZR];omega) trivial (λk hk G _=>by
   rw[ZR]at hk;refine⟨?_,trivial⟩;simp only[ZcS,ZM];have e:w64 ((f:Int)+(k:Int))=((f+k:Nat):Int):=by rw[ZaA (by omega) (by omega)];omega
   have hm:(f+k)%C<C:=Nat.mod_lt _ hC;have e2:(((f+k:Nat):Int)).tmod (C:Int)=(((f+k)%C:Nat):Int):=(Int.ofNat_tmod _ _).symm;rw[Zaj (by simpa using hk)];unfold tabB;rw[Zjc _ hq,Z9,e,Zdq (by omega),Z9,e2,Zjc _ hm,Z9,Zo,Zo,ZaA (x:=(k:Int)+1) (by omega) (by omega)];have:=ZwV (F:=G) hq hm;unfold tabB at this;rw[this];rfl) (λG _=>by simp[ZcS])).1
 rw[Zs4]at this;rw[show((0:Nat):Int)=0 from rfl]at this;rw[this];rfl
def hitW (u:Zaq)(w:Tw)(i:Nat):Bool:=decide (((i:Int)-(w.h.Open/u.Grid+w.x))%w.s.Period<Zhm u w)
theorem Zy4 {b P C U i:Nat}(hP:0<P)(hd:P∣C)(hC:0<C)(hi:i<C):((List.range (C/P)).any λm=>(List.range U).any λj=>decide ((b+m*P+j)%C=i))=decide (((i:Int)-b)%P<U):=by
 obtain⟨c,rfl⟩:=hd;have hc:0<c:=Nat.pos_of_ne_zero λh=>by simp[h]at hC
 rw[Nat.mul_div_cancel_left c hP,Zf];simp only[List.any_eq_true,ZX,Zag];have hPi:(0:Int)<P:=by omega
 constructor
 ·rintro⟨m,hm,j,hj,e⟩;have h1:=Nat.div_add_mod (b+m*P+j) (P*c);rw[e]at h1;have h2:(i:Int)-b=j+P*(m-c*((b+m*P+j)/(P*c):Nat)):=by
   rw[Int.mul_sub,←Int.mul_assoc];have h3:((P*c*((b+m*P+j)/(P*c))+i:Nat):Int)=((b+m*P+j:Nat):Int):=by rw[h1]
   push_cast at h3⊢
   rw[Zl (P:Int) m];omega
  rw[h2,Int.add_mul_emod_self_left];have:(j:Int)%P<=j:=by
   have:=Int.emod_add_mul_ediv (j:Int) P;have h4:0<=(P:Int)*((j:Int)/P):=Int.mul_nonneg (by omega) (Int.ediv_nonneg (by omega) (by omega));omega
  omega
 intro h;have r0:=Int.emod_nonneg ((i:Int)-b) (show(P:Int)≠0 by omega);have h1:=Int.emod_add_mul_ediv ((i:Int)-b) P;obtain⟨r,hr⟩:∃r:Nat,(r:Int)=((i:Int)-b)%P:=⟨_,Zp r0⟩;obtain⟨k,hk⟩:∃k,k=((i:Int)-b)/P:=⟨_,rfl⟩;rw[←hr,←hk]at h1;rw[←hr]at h;have hci:(0:Int)<c:=by omega
 have m0:=Int.emod_nonneg k (show(c:Int)≠0 by omega);have m1:=Int.emod_lt_of_pos k hci;have h2:=Int.emod_add_mul_ediv k c;obtain⟨m,hm⟩:∃m:Nat,(m:Int)=k%c:=⟨_,Zp m0⟩;rw[←hm]at h2 m1;refine⟨m,by omega,r,by omega,?_⟩;have h3:((b+m*P+r:Nat):Int)=i+(P*c:Nat)*(-(k/c)):=by
  have:(m:Int)*P=P*k-P*(c*(k/c)):=by
   rw[←Int.mul_sub,Zl]
   congr 1
   omega
  push_cast
  rw[this,Int.mul_neg,Int.mul_assoc];omega
 have h4:(((b+m*P+r)%(P*c):Nat):Int)=(i:Int):=by
  rw[Int.natCast_emod,h3,Int.add_mul_emod_self_left,Int.emod_eq_of_lt (by omega) (by omega)]
 omega
theorem ZqA (q C P b U:Nat)(F:Nat->Nat->Bool):∀M,(List.range M).foldl (λG m=>ZtT q C (b+m*P) U G) F=λp i=>F p i||(decide (p=q)&&(List.range M).any λm=>(List.range U).any λj=>decide ((b+m*P+j)%C=i))
 |0=>by funext p i;simp
 |M+1=>by
  rw[Z2,Zw,ZqA q C P b U F M];funext p i;simp only[Zx,List.foldl_nil,ZtT,List.any_append,List.any_cons,List.any_nil,Bool.or_false];cases F p i<;>cases decide (p=q)<;>simp
def putW (u:Zaq)(F:Nat->Nat->Bool)(w:Tw):Nat->Nat->Bool:=λp i=>F p i||(decide ((p:Int)=w.h.Port)&&hitW u w i)
theorem ZXu (g:Good t)(hu:Zfp u){w:Tw}(ok:TwOK t u w){C:Nat}(hC:0<C)(hC2:C<=960)(hd:w.s.Period.toNat∣C){F:Nat->Nat->Bool}(hN:30000000<=N):
  Zcu N u ((C:Int),0) (tabB (2*t.Links.length) C F) (synW u w)=some (tabB (2*t.Links.length) C (putW u F w)):=by
 obtain⟨⟨a1,a2⟩,⟨b1,b2⟩,⟨c1,c2⟩,d1,d2⟩:=ok.num hu;obtain⟨_,_,o1,o2,l1,l2,_⟩:=ok.h;have g1:=hu.g1;have g2:=hu.g2;have p1:=ok.s.per1;have p2:=ok.s.per2;have x1:=ok.x1;have x2:=ok.x2;have hport:=ok.port;simp only[Zcq,Ze,Zag]at hport;obtain⟨q,hq⟩:∃q:Nat,w.h.Port=q:=⟨w.h.Port.toNat,by omega⟩;obtain⟨P,hP⟩:∃P:Nat,w.s.Period=P:=⟨w.s.Period.toNat,by omega⟩;obtain⟨U,hU⟩:∃U:Nat,Zhm u w=U:=⟨(Zhm u w).toNat,by omega⟩;have hop:=Int.mul_ediv_add_emod w.h.Open u.Grid;rw[ok.grid]at hop;obtain⟨hd1,hd2⟩:=ZdD (a:=w.h.Open) (B:=20000000) g1 (by omega) o2 (by omega);have ho0:=Int.ediv_nonneg o1 (show 0<=u.Grid by omega);obtain⟨b,hb⟩:∃b:Nat,w.h.Open/u.Grid+w.x=b:=⟨(w.h.Open/u.Grid+w.x).toNat,by omega⟩;have hP0:0<P:=by omega
 rw[hP,Zo]at hd;have hfrom:w.h.Open+w.x*u.Grid=(b:Int)*u.Grid:=by rw[←hb,Int.add_mul,Zl (w.h.Open/u.Grid)];omega
 have hbig:∀k:Nat,k<=30000000->0<=(k:Int)*u.Grid/\(k:Int)*u.Grid<=1000000000000:=λk hk=>mulG (by omega) (by omega) g1 g2
 unfold Zcu synW;simp only;rw[ZaA (x:=w.h.Long+u.Grid) (by omega) (by omega),ZaA (x:=w.h.Long+u.Grid-1) (by omega) (by omega),Zo6 g1 (by omega) (by omega),Z9];have hUe:(w.h.Long+u.Grid-1)/u.Grid=(U:Int):=hU;rw[hUe,hfrom];obtain⟨M,hM⟩:∃M,M=C/P:=⟨_,rfl⟩;have hMP:M*P=C:=by rw[hM];exact Nat.div_mul_cancel hd
 have:=(Zjb (body:=λx:Int×(List (List Bool))=>ZcT N u ((C:Int),0) ⟨w.h.Port,(b:Int)*u.Grid,w.h.Long,w.s.Period*u.Grid⟩ (U:Int) x.1 x.2) (N:=N) (List.range M) (λG m=>ZtT q C (b+m*P) U G) (λ_ _=>True) (λk G=>(((b+k*P:Nat):Int)*u.Grid,tabB (2*t.Links.length) C G)) (fin:=tabB (2*t.Links.length) C) (b:=F) (by
   rw[ZR];have:M*1<=M*P:=Nat.mul_le_mul_left M hP0;omega) trivial (λk hk G _=>by
   rw[ZR]at hk;refine⟨?_,trivial⟩;simp only[ZcT,ZM];have hk2:k*P+P<=C:=by
    have:(k+1)*P<=M*P:=Nat.mul_le_mul_right P hk;rw[Nat.succ_mul]at this;omega
   have q1:=hbig (b+k*P) (by omega);have q2:=hbig (b+C) (by omega);have q3:=hbig C (by omega);have q4:=hbig b (by omega);have eC:(b:Int)*u.Grid+(C:Int)*u.Grid=((b+C:Nat):Int)*u.Grid:=by rw[←Int.add_mul];rfl
   have lt:((b+k*P:Nat):Int)*u.Grid<((b+C:Nat):Int)*u.Grid:=Int.mul_lt_mul_of_pos_right (by omega) (by omega);have dv:((b+k*P:Nat):Int)*u.Grid/u.Grid=((b+k*P:Nat):Int):=Int.mul_ediv_cancel _ (by omega);rw[ZaA (x:=(C:Int)*u.Grid) (by omega) (by omega),ZaA (x:=(b:Int)*u.Grid+(C:Int)*u.Grid) (by omega) (by omega),eC,Zaj (by simpa using lt),Zo6 g1 (by omega) (by omega),dv,Z9,hq,ZXv (by omega) hC hC2 (by omega) (by omega) hN,Z9];have nx:((b+k*P:Nat):Int)*u.Grid+w.s.Period*u.Grid=((b+(k+1)*P:Nat):Int)*u.Grid:=by
    rw[←Int.add_mul,hP,Nat.succ_mul]
    congr 1
    omega
   rw[nx,ZaA (by have:=hbig (b+(k+1)*P) (by rw[Nat.succ_mul];omega);omega) (by have:=hbig (b+(k+1)*P) (by rw[Nat.succ_mul];omega);omega)]) (λG _=>by
   simp only[ZcT,ZR];have q2:=hbig (b+C) (by omega);have q3:=hbig C (by omega);have q4:=hbig b (by omega);have eC:(b:Int)*u.Grid+(C:Int)*u.Grid=((b+C:Nat):Int)*u.Grid:=by rw[←Int.add_mul];rfl
   rw[ZaA (x:=(C:Int)*u.Grid) (by omega) (by omega),ZaA (x:=(b:Int)*u.Grid+(C:Int)*u.Grid) (by omega) (by omega),eC,hMP,Zai (by simp)])).1
 rw[ZqA,Nat.zero_mul,Nat.add_zero]at this;rw[this,Z9]
 congr 1
 refine ZqC λp hp i hi=>?_
 unfold putW;rw[hM,Zy4 hP0 hd hC hi];unfold hitW;rw[hb,hP,hU,hq]
 congr 2
 exact decide_eq_decide.2 (by omega)
theorem Zwa (u:Zaq):∀(ws:List Tw) (F:Nat->Nat->Bool),ws.foldl (putW u) F=λp i=>F p i||ws.any λw=>decide ((p:Int)=w.h.Port)&&hitW u w i
 |[],F=>by funext p i;simp
 |w::ws,F=>by
  rw[Zx,Zwa u ws];funext p i;simp only[putW,List.any_cons,Bool.or_assoc]
def e00:ZaX:=⟨0,0⟩
def ZeW (l:List ZaX):ZaX:=l.getD (l.length-1) e00
def addE (G:Int)(l:List ZaX)(m:Int):List ZaX:=if l≠[]/\(ZeW l).Mask=m then l.set (l.length-1) ⟨(ZeW l).Mask,(ZeW l).Long+G⟩else l++[⟨m,G⟩]
def Zhk (b:Bool):Int:=if b=true then 128 else 127
def Zu6 (G:Int)(row:List Bool):List ZaX:=row.foldl (λl b=>addE G l (Zhk b)) []
theorem ZpQ {G:Int}(l:List ZaX)(m:Int):addE G l m≠[]/\(ZeW (addE G l m)).Mask=m/\(addE G l m).length<=l.length+1/\(0<=(ZeW l).Long->0<=G->0<=(ZeW (addE G l m)).Long/\(ZeW (addE G l m)).Long<=(ZeW l).Long+G):=by
 unfold addE;split
 ·rename_i h;have hl:l.length-1<l.length:=by have:=List.length_pos_iff.2 h.1;omega
  have e:ZeW (l.set (l.length-1) ⟨(ZeW l).Mask,(ZeW l).Long+G⟩)=⟨(ZeW l).Mask,(ZeW l).Long+G⟩:=by
   unfold ZeW;rw[List.length_set,Zbp (by simpa using hl),List.getElem_set_self]
  rw[e];refine⟨λh'=>h.1 (by simpa using h'),h.2,by simp,λa b=>?_⟩;simp only;omega
 have e:ZeW (l++[⟨m,G⟩])=⟨m,G⟩:=by simp[ZeW]
 rw[e];refine⟨by simp,rfl,by simp,λa b=>?_⟩;simp only;omega
theorem ZuK {G m:Int}{l:List ZaX}(hl:l.length<=1000)(h1:0<=(ZeW l).Long)(h2:(ZeW l).Long<=100000000)(g1:0<=G)(g2:G<=10000){c:Bool}(hc:c=true↔l≠[]/\(ZeW l).Mask=m):
  (if c=true then((idx l (w64 (((List.length l:Nat):Int)-1))).bind λe1=>((idx l (w64 (((List.length l:Nat):Int)-1))).bind λe2=>(some (List.set l (Int.toNat (w64 (((List.length l:Nat):Int)-1))) (ZaX.mk e2.Mask (w64 (e1.Long+G)))))))else((appI 16 l [(ZaX.mk m G)]).bind λl1=>(some l1)))=some (addE G l m):=by
 unfold addE;by_cases d:l≠[]/\(ZeW l).Mask=m
 ·rw[Zaj (hc.2 d),Zaj d];have h0:0<l.length:=List.length_pos_iff.2 d.1;have e:w64 (((List.length l:Nat):Int)-1)=((l.length-1:Nat):Int):=by rw[ZaA (by omega) (by omega)];omega
  have e2:l[l.length-1]'(by omega)=ZeW l:=(Zbp (by omega) e00).symm;rw[e,Zbj (by omega),Z9,Z9,Zo,e2,ZaA (by omega) (by omega)]
 rw[Zai (λh=>d (hc.1 h)),Zai d,Zdc (by simp;omega) (by omega),Z9]
theorem Zsq (G:Int):∀(row:List Bool) (a b:Int) (l:List ZaX),(row.foldl (λ(x:Int×Int×List ZaX) bit=>(Zhk bit,G,addE G x.2.2 (Zhk bit))) (a,b,l)).2.2=row.foldl (λl b=>addE G l (Zhk b)) l
 |[],a,b,l=>rfl
 |x::row,a,b,l=>by rw[Zx,Zx,Zsq G row]
theorem Zrk {row:List Bool}(hr:row.length<=960){G:Int}(g1:1<=G)(g2:G<=10000)(hN:2000<=N):Zkn N row G=some ⟨Zu6 G row,(row.length:Int)*G⟩:=by
 unfold Zkn;have:=(Zjb (body:=λx:Int×Int×Int×(List ZaX)=>Zgn N row G x.1 x.2.1 x.2.2.1 x.2.2.2) (N:=N) row (λ(x:Int×Int×List ZaX) bit=>(Zhk bit,G,addE G x.2.2 (Zhk bit))) (λk x=>x.2.2.length<=k/\(x.2.2=[]->x.1=0)/\(x.2.2≠[]->(ZeW x.2.2).Mask=x.1/\x.2.1=G)/\0<=(ZeW x.2.2).Long/\(ZeW x.2.2).Long<=k*10000) (λk x=>((k:Int),x.1,x.2.1,x.2.2)) (fin:=λx=>x.2.2) (b:=(0,0,[])) (by omega) (by simp[ZeW,e00]) (λk hk x hx=>by
   obtain⟨a,b,l⟩:=x;obtain⟨j1,j2,j3,j4,j5⟩:=hx;simp only at j1 j2 j3 j4 j5⊢;obtain⟨n1,n2,n3,n4⟩:=ZpQ (G:=G) l (Zhk row[k]);obtain⟨n5,n6⟩:=n4 j4 (by omega);refine⟨?_,by omega,λh=>absurd h n1,λ_=>⟨n2,trivial⟩,n5,by omega⟩;simp only[Zgn];have hm:(if row[k]=true then(some 128)else(some 127))=some (Zhk row[k]):=by unfold Zhk;cases row[k]<;>rfl
   rw[Zaj (by simpa using hk),Zbj hk,Z9,hm,Z9,ZuK (m:=Zhk row[k]) (by omega) j4 (by omega) (by omega) g2 (c:=(Zhk row[k]==a)&&((G==b)&&true)) ?_,Z9,ZaB (by omega)];simp only[Bool.and_true,Ze,beq_iff_eq];constructor
   ·rintro⟨e1,e2⟩;by_cases hn:l=[]
    ·have:=j2 hn;unfold Zhk at e1;split at e1<;>omega
    exact⟨hn,by rw[(j3 hn).1,e1]⟩
   rintro⟨hn,e1⟩;exact⟨by rw[←e1,(j3 hn).1],(j3 hn).2.symm⟩) (λx hx=>by simp[Zgn])).1
 rw[show((0:Nat):Int)=0 from rfl]at this;rw[this,Z9,Zsq];obtain⟨m1,m2⟩:=mulG (x:=(row.length:Int)) (by omega) (by omega) g1 g2;rw[ZaA (by omega) (by omega)];rfl
theorem Zrs {W:List ZaO}{q:Int}{C:Nat}(hC:C<=960){G:Int}(g1:1<=G)(g2:G<=10000){F:Nat->Bool}(hF:∀i:Nat,i<C->ZlN N W q ((i:Int)*G)=some (F i))(hN:2000<=N):
  Zkq N W q (C:Int) G=some ⟨Zu6 G ((List.range C).map F),(C:Int)*G⟩:=by
 unfold Zkq;have:=(Zjb (body:=λx:Int×(List ZaX)=>Zgu N W q (C:Int) G x.1 x.2) (N:=N) (List.range C) (λl i=>addE G l (Zhk (F i))) (λk l=>l.length<=k/\0<=(ZeW l).Long/\(ZeW l).Long<=k*10000) (λk l=>((k:Int),l)) (fin:=id) (b:=[]) (by rw[ZR];omega) (by simp[ZeW,e00]) (λk hk l hx=>by
   obtain⟨j1,j4,j5⟩:=hx;rw[ZR]at hk;rw[ZM];obtain⟨n1,n2,n3,n4⟩:=ZpQ (G:=G) l (Zhk (F k));obtain⟨n5,n6⟩:=n4 j4 (by omega);refine⟨?_,by omega,n5,by omega⟩;simp only[Zgu];obtain⟨m1,m2⟩:=mulG (x:=(k:Int)) (by omega) (by omega) g1 g2;have hm:(if F k=true then(some 128)else(some 127))=some (Zhk (F k)):=by unfold Zhk;cases F k<;>rfl
   rw[Zaj (by simpa using hk),ZaA (x:=(k:Int)*G) (by omega) (by omega),hF k hk,Z9,hm,Z9];have hcond:∃c,(if(decide (((List.length l:Nat):Int)>0))=true then((idx l (w64 (((List.length l:Nat):Int)-1))).bind λe1516=>(some (e1516.Mask==Zhk (F k))))else(some false))=some c/\(c=true↔l≠[]/\(ZeW l).Mask=Zhk (F k)):=by
    by_cases hn:l=[]
    ·subst hn;exact⟨false,by simp,by simp⟩
    have h0:0<l.length:=List.length_pos_iff.2 hn;have e:w64 (((List.length l:Nat):Int)-1)=((l.length-1:Nat):Int):=by rw[ZaA (by omega) (by omega)];omega
    refine⟨(ZeW l).Mask==Zhk (F k),?_,by simp[hn]⟩;rw[Zaj (by simpa using h0),e,Zbj (by omega),Z9,←Zbp (show l.length-1<l.length by omega) e00];rfl
   obtain⟨c,c1,c2⟩:=hcond;rw[c1,Z9,ZuK (by omega) j4 (by omega) (by omega) g2 c2,Z9,ZaB (by omega)]) (λx hx=>by simp[Zgu])).1
 rw[show((0:Nat):Int)=0 from rfl]at this;rw[this,Z9];obtain⟨m1,m2⟩:=mulG (x:=(C:Int)) (by omega) (by omega) g1 g2;rw[ZaA (by omega) (by omega)];unfold Zu6;rw[List.foldl_map];rfl
theorem Zzc {a b:Int}(hb:1<=b)(hb2:b<=9600000):Zev N a b=some (a%b):=by
 unfold Zev;have h1:=Int.lt_tmod_of_pos a (show 0<b by omega);have h2:=Int.tmod_lt_of_pos a (show 0<b by omega);rw[Zdq (by omega),Z9];have h3:=Zri (a:=a) (b:=b) (by omega);by_cases h:a.tmod b<0
 ·rw[Zaj (by simp[h]),Z9,ZaA (by omega) (by omega),←h3]
  congr 1
  exact(Int.tmod_eq_of_lt (by omega) (by omega)).symm
 rw[Zai (by simp[h]),Z9,←h3]
 congr 1
 have:(a.tmod b+b).tmod b=(a.tmod b+b)%b:=Zn (by omega);rw[this,Int.add_emod_right,Int.emod_eq_of_lt (by omega) (by omega)]
def ZuX (u:Zaq)(ws:List Tw)(p i:Nat):Bool:=ws.any λw=>decide ((p:Int)=w.h.Port)&&hitW u w i
theorem ZKX (hu:Zfp u){w:Tw}(ok:TwOK t u w){i:Nat}(hi:i<=960):decide (((i:Int)*u.Grid-(w.h.Open+w.x*u.Grid))%(w.s.Period*u.Grid)<Zhm u w*u.Grid)=hitW u w i:=by
 have g1:=hu.g1;have hop:=Int.mul_ediv_add_emod w.h.Open u.Grid;rw[ok.grid]at hop;have e:(i:Int)*u.Grid-(w.h.Open+w.x*u.Grid)=((i:Int)-(w.h.Open/u.Grid+w.x))*u.Grid:=by
  rw[Int.sub_mul,Int.add_mul,Zl (w.h.Open/u.Grid)];omega
 rw[e,Zl _ u.Grid,Zl w.s.Period,Zl (Zhm u w),Int.mul_emod_mul_of_pos _ _ (by omega)];unfold hitW;refine decide_eq_decide.2 ⟨λh=>Int.lt_of_mul_lt_mul_left h (by omega),λh=>Int.mul_lt_mul_of_pos_left h (by omega)⟩
theorem ZtF (hu:Zfp u){ws:List Tw}(hw:∀w∈ws,TwOK t u w)(hl:ws.length<=1000){q i:Nat}(hi:i<=960)(hN:2000<=N):ZlN N (ws.map (refW u)) (q:Int) ((i:Int)*u.Grid)=some (ZuX u ws q i):=by
 unfold ZlN;have g1:=hu.g1;have g2:=hu.g2;rw[ZeT (l:=ws) (p:=λw=>!(decide ((q:Int)=w.h.Port)&&hitW u w i)) (bad:=.inr true) (fin:=.inl ()) (λk hk=>by
  have ok:=hw _ (List.getElem_mem hk);obtain⟨⟨a1,a2⟩,⟨b1,b2⟩,⟨c1,c2⟩,d1,d2⟩:=ok.num hu;obtain⟨_,_,o1,o2,l1,l2,_⟩:=ok.h;obtain⟨m1,m2⟩:=mulG (x:=(i:Int)) (by omega) (by omega) g1 g2;have p1:=ok.s.per1;simp only[Zln];have hk':k<(ws.map (refW u)).length:=by simpa using hk
  have hP:1<=ws[k].s.Period*u.Grid:=by
   calc (1:Int)<=1*u.Grid:=by omega
    _<=_:=Int.mul_le_mul_of_nonneg_right p1 (by omega)
  rw[Zaj (by simpa using hk),Zbj hk',Z9,List.getElem_map];by_cases c:(q:Int)=ws[k].h.Port
  ·have c':((refW u ws[k]).Port==(q:Int))=true:=by simp[refW,c]
   rw[Zaj c'];simp only[refW,Z9];rw[ZaA (x:=(i:Int)*u.Grid-(ws[k].h.Open+ws[k].x*u.Grid)) (by omega) (by omega),Zzc hP (by omega),Z9,Z9,ZKX hu ok hi,decide_eq_true c,Zk,ZaB (by omega)];cases hitW u ws[k] i<;>rfl
  have c':¬((refW u ws[k]).Port==(q:Int))=true:=by simp[refW,Ne.symm c]
  rw[Zai c',Z9,Zai (by simp),decide_eq_false c,Bool.false_and,ZaB (by omega)];rfl) (by simp[Zln]) (by omega),Z9]
 unfold ZuX;rw[List.all_eq_not_any_not];simp only[Bool.not_not];cases (ws.any λw=>decide ((q:Int)=w.h.Port)&&hitW u w i)<;>rfl
end
end Go.Sh

namespace Go.Sh
open Go Go.Eng
theorem Zti {α:Type}{n:Nat}{g:Nat->α}{body:Int×List α->Option ((Int×List α)⊕List α)}(hstep:∀k:Nat,k<n->∀b:List α,b.length=n->body ((k:Int),b)=some (.inl (((k+1:Nat):Int),b.set k (g k))))
  (hend:∀b:List α,b.length=n->body ((n:Int),b)=some (.inr b)) {N:Nat} (hN:n<N) {b:List α} (hb:b.length=n):ZaH body N (0,b)=some ((List.range n).map g):=by
 obtain⟨r,hr,e⟩:=ZbX (body:=body) (λx=>∃(k:Nat) (b:List α),x=((k:Int),b)/\k<=n/\b.length=n/\∀j,j<k->b[j]?=some (g j)) (λx=>((n:Int)-x.1).toNat) (λr=>r=(List.range n).map g) (λx hx=>by
  obtain⟨k,b,rfl,k1,k2,k3⟩:=hx;by_cases c:k<n
  ·refine .inl ⟨_,hstep k c b k2,⟨k+1,_,rfl,by omega,by rw[List.length_set,k2],λj hj=>?_⟩,by simp only;omega⟩;by_cases e:k=j
   ·subst e;rw[ZK (by omega)]
   rw[ZJ e];exact k3 j (by omega)
  obtain rfl:k=n:=by omega
  refine .inr ⟨_,hend b k2,List.ext_getElem (by simp[k2]) λj h1 h2=>?_⟩;have:=k3 j (by omega);rw[ZE h1]at this;simpa using this) N (0,b) ⟨0,b,rfl,by omega,hb,λj hj=>by omega⟩ (by simp only;omega)
 rw[hr,e]
section
variable {N:Nat} {t:Zan} {u:Zaq} {s:Zam}
def Zwu (t:Zan)(u:Zaq)(ws:List Tw)(C:Nat):List ZaF:=(List.range (2*t.Links.length)).map λp=>⟨Zu6 u.Grid ((List.range C).map (ZuX u ws p)),(C:Int)*u.Grid⟩
def Zmc (t:Zan)(u:Zaq)(l:List Zam)(o:List Int):List ZaF×Int:=
 if(ofS t u l).2=0 then(if ZhX (ofS t u l).1 o=true then(if Zlk (ofS t u l).1 o=true then(Zwu t u (Zcy t u l o).2 (lcmL (ofS t u l).1.Periods),0)else([],380))else([],2))else([],(ofS t u l).2)
theorem Zn8 {l:List Zam}(h:(ofS t u l).2=0):Zeo t=true/\ZdR u=true/\allR t l=0/\errC (accA t u l)=0/\ofS t u l=(⟨(accA t u l).P,(accA t u l).U⟩,0):=by
 unfold ofS at h⊢;split at h
 ·rename_i h1;split at h
  ·rename_i h2;split at h
   ·rename_i h3;split at h
    ·rename_i h4;exact⟨h1,h2,h3,h4,by rw[Zaj h1,Zaj h2,Zaj h3,Zaj h4]⟩
    rename_i h4;exact absurd h h4
   rename_i h3;exact absurd h h3
  simp at h
 simp at h
theorem ZtN (g:Good t)(hu:Zfp u){l:List Zam}(hl:∀x∈l,Zbq t x=true){o:List Int}:∀k,k<=l.length->∀w∈(Zcy t u (l.take k) o).2,w.s.Period∈(accA t u l).P
 |0,_=>by simp[Zcy]
 |k+1,hk=>by
  intro w hw;rw[Zkk l o k (by omega)]at hw;unfold ZpT at hw;by_cases c:l[k].Class=7
  ·rw[Zaj c]at hw;rcases List.mem_append.1 hw with hw|hw
   ·exact ZtN g hu hl k (by omega) w hw
   obtain⟨P',U',p1,_⟩:=ZwG (t:=t) (u:=u) l (k+1);rw[Zmo l k (by omega)]at p1;unfold ZfQ at p1;rw[Zaj c]at p1;obtain⟨r,hr,hw⟩:=List.mem_flatMap.1 hw;obtain⟨hh,hm,rfl⟩:=List.mem_map.1 hw;rw[p1];simp
  rw[Zai c]at hw;exact ZtN g hu hl k (by omega) w hw
def Zxp (u:Zaq)(n C:Nat)(z:List (List Bool))(w:Tw):List (List Bool):=tabB n C (putW u (λp i=>(z.getD p []).getD i false) w)
theorem Zs5 (n C:Nat)(F:Nat->Nat->Bool)(w:Tw):Zxp u n C (tabB n C F) w=tabB n C (putW u F w):=by
 unfold Zxp;refine ZqC λp hp i hi=>?_
 have e:(tabB n C F).getD p []=(List.range C).map (F p):=by
  unfold tabB;rw[Zbp (by simpa using hp),List.getElem_map,ZM]
 have e2:((List.range C).map (F p)).getD i false=F p i:=by rw[Zbp (by simpa using hi),List.getElem_map,ZM]
 unfold putW;simp only[e,e2]
theorem Ztg (n C:Nat):∀(ws:List Tw) (F:Nat->Nat->Bool),ws.foldl (Zxp u n C) (tabB n C F)=tabB n C (ws.foldl (putW u) F)
 |[],F=>rfl
 |w::ws,F=>by rw[Zx,Zx,Zs5,Ztg n C ws]
theorem ZpU (l:List Zam)(o:List Int)(hN:30000000<=N):ZcV N t u l o=some (Zmc t u l o):=by
 have hN2:2000<=N:=by omega
 unfold ZcV Zmc;rw[Zva _ hN2,Z9];by_cases h0:(ofS t u l).2=0
 ·obtain⟨hT,hU,hA,he,hof⟩:=Zn8 h0;obtain⟨h12,hl⟩:=Zna hA;have g:=Zbe.1 hT;have hu:=ZbT hU;have hp:Zj0 (ofS t u l).1=true:=by rw[hof];exact Zl3 g (Zh2 g hu hl) h12 he
  have hv:=VP.of hp;rw[Zai (by simp[h0]),Zaj h0,ZsQ hN2,Z9];unfold Zy8;rw[Zaj hp];cases ho:ZhX (ofS t u l).1 o with
  |false=>rfl
  |true=>
   rw[Zaj rfl,Zaj rfl];cases hs:Zlk (ofS t u l).1 o with
   |false=>rfl
   |true=>
    simp only[Zaf,Zg,Zah,Zi,Zak];rw[ZrC hN2,Zaj hp,Z9];simp only[Zaf,Zg,Zah];have hC:=hv.lcm;have hC0:=hv.lpos;have h24:=g.l24;obtain⟨C,eC⟩:∃C,C=lcmL (ofS t u l).1.Periods:=⟨_,rfl⟩;rw[←eC]at hC hC0⊢;obtain⟨n,en⟩:∃n,n=2*t.Links.length:=⟨_,rfl⟩;have ew:w64 (2*((List.length t.Links:Nat):Int))=(n:Int):=by rw[ZaA (by omega) (by omega)];omega
    have ef:famI 24 (n:Int)=some (List.replicate n ([]:List Bool)):=by
     unfold famI;rw[Zaj (by omega),Zo]
    have em:Zhe 1 (C:Int) (C:Int) false=some (List.replicate C false):=by
     unfold Zhe;rw[Zaj (by omega),Zo]
    rw[ew,ef,Z9];have l1:=Zti (n:=n) (g:=λ_=>List.replicate C false) (body:=λx:Int×(List (List Bool))=>ZcU N ((C:Int),0) (List.replicate n []) x.1 x.2) (N:=N) (λk hk b hb=>by
     simp only[ZcU];rw[Zaj (by simpa using hk),em,Z9,Zbj (by omega),Z9,ZaB (by omega),Zo]) (λb hb=>by simp[ZcU]) (by omega) (b:=List.replicate n []) (by simp)
    rw[l1,Z9];have e1:(List.range n).map (λ_=>List.replicate C false)=tabB n C (λ_ _=>false):=by
     unfold tabB;refine List.map_congr_left λp _=>?_
     rw[List.map_const',ZR]
    rw[e1];unfold ZeZ;rw[Z9];have ho':ZhX ⟨(accA t u l).P,(accA t u l).U⟩ o=true:=by rw[hof]at ho;exact ho
    have hdv:∀w∈(Zcy t u l o).2,w.s.Period.toNat∣C:=λw hw=>by
     have:=ZtN (t:=t) (u:=u) g hu hl (o:=o) l.length (Nat.le_refl _) w (by rw[Z4];exact hw);rw[eC,hof];exact Znw.1 (Nat.dvd_refl _) _ this
    have key:=(ZnD (N:=N) (t:=t) (u:=u) (y:=λ(s:(List (List Bool))) (x552:Za2)=>ZdP (λv:(List (List Bool))=>Zcu N u ((C:Int),0) v x552) s) (F:=Zxp u n C) (J:=λz=>∃F,z=tabB n C F) (o:=o) hT hU hl h12 ho' (λw hw z hz=>by
      obtain⟨F,rfl⟩:=hz;have ok:=(Zn2 (t:=t) (u:=u) g hu hl ho' l.length (Nat.le_refl _)).1 w (by rw[Z4];exact hw);rw[Zs5];refine⟨?_,_,rfl⟩;unfold ZdP;simp only;rw[en,ZXu g hu ok hC0 hC (hdv w hw) hN];rfl) (z:=tabB n C (λ_ _=>false)) ⟨_,rfl⟩ hN2).1
    rw[key,Z9,Ztg,Zwa];have ln:∀F,(tabB n C F).length=n:=λF=>by simp[tabB]
    have e2:Zhe 32 ((n:Nat):Int) ((n:Nat):Int) (ZaF.mk ([]) 0)=some (List.replicate n ⟨[],0⟩):=by
     unfold Zhe;rw[Zaj (by omega),Zo]
    rw[ln,e2,Z9];have g1:=hu.g1;have g2:=hu.g2;have l6:=Zti (n:=n) (g:=λp=>(⟨Zu6 u.Grid ((List.range C).map (ZuX u (Zcy t u l o).2 p)),(C:Int)*u.Grid⟩:ZaF)) (body:=λx:Int×(List ZaF)=>ZcR N u (tabB n C (λp i=>false||(Zcy t u l o).2.any λw=>decide ((p:Int)=w.h.Port)&&hitW u w i)) (List.replicate n ⟨[],0⟩) x.1 x.2) (N:=N) (λk hk b hb=>by
     simp only[ZcR];rw[Zaj (by simpa using hk)];unfold tabB;rw[Zjc _ hk,Z9,Zrk (by simp;omega) g1 g2 hN2,Z9,Zbj (by omega),Z9,ZaB (by omega),Zo];simp only[Bool.false_or,ZP,ZR];rfl) (λb hb=>by simp[ZcR]) (by omega) (b:=List.replicate n ⟨[],0⟩) (by simp)
    rw[l6,Z9];unfold Zwu;rw[←en]
 rw[Zaj (by simpa using h0),Zai h0]
theorem Zp8 (l:List Zam)(o:List Int)(hN:30000000<=N):ZeL N t u l o=some (Zmc t u l o):=by
 have hN2:2000<=N:=by omega
 unfold ZeL Zmc;rw[ZoV _ hN,Z9];by_cases h0:(ofS t u l).2=0
 ·obtain⟨hT,hU,hA,he,hof⟩:=Zn8 h0;obtain⟨h12,hl⟩:=Zna hA;have g:=Zbe.1 hT;have hu:=ZbT hU;have hp:Zj0 (ofS t u l).1=true:=by rw[hof];exact Zl3 g (Zh2 g hu hl) h12 he
  have hv:=VP.of hp;rw[Zai (by simp[h0]),Zaj h0,ZnT hN2 hv,Z9];cases ho:ZhX (ofS t u l).1 o with
  |false=>rfl
  |true=>
   rw[Zai (by simp),Zaj rfl,ZoT hN2 hv ho,Z9];cases hs:Zlk (ofS t u l).1 o with
   |false=>rfl
   |true=>
    rw[Zai (by simp),Zaj rfl,ZjQ hN2 hv.len (Zl2.1 hp).2.2.1,Zaj hv.lcm,Z9];have hC:=hv.lcm;have hC0:=hv.lpos;have h24:=g.l24;have g1:=hu.g1;have g2:=hu.g2;obtain⟨C,eC⟩:∃C,C=lcmL (ofS t u l).1.Periods:=⟨_,rfl⟩;rw[←eC]at hC hC0⊢;have ho':ZhX ⟨(accA t u l).P,(accA t u l).U⟩ o=true:=by rw[hof]at ho;exact ho
    have tok:=Zn2 (t:=t) (u:=u) g hu hl ho' l.length (Nat.le_refl _);rw[Z4]at tok;unfold ZoP;rw[ZnQ hT hU hl h12 ho' hN,Z9];have lp:=(Zjb (body:=λx:Int×(List ZaF)=>Zhy N t u (C:Int) ((Zcy t u l o).2.map (refW u)) x.1 x.2) (N:=N) (List.range (2*t.Links.length)) (λb p=>b++[(⟨Zu6 u.Grid ((List.range C).map (ZuX u (Zcy t u l o).2 p)),(C:Int)*u.Grid⟩:ZaF)]) (λk b=>b.length<=k) (λk b=>((k:Int),b)) (fin:=id) (b:=[]) (by rw[ZR];omega) (by simp) (λk hk b hb=>by
     rw[ZR]at hk;refine⟨?_,by simp;omega⟩;simp only[Zhy,ZM];rw[ZaA (x:=2*((List.length t.Links:Nat):Int)) (by omega) (by omega),Zaj (by simp;omega),Zrs hC g1 g2 (λi hi=>ZtF hu tok.1 (by omega) (by omega) hN2) hN2,Z9,Zdc (by simp;omega) (by omega),Z9,ZaB (by omega)]) (λb hb=>by
     simp only[Zhy,ZR];rw[ZaA (x:=2*((List.length t.Links:Nat):Int)) (by omega) (by omega),Zai (by simp)];rfl)).1
    rw[show((0:Nat):Int)=0 from rfl]at lp;rw[lp,Zme,ZlD];rfl
 rw[Zaj (by simpa using h0),Zai h0]
theorem ZoO {a:List ZaF}(h1:a.length<=1000)(h2:∀x∈a,x.Entries.length<=1000)(hN:2000<=N):Zed N a a=some true:=by
 unfold Zed;rw[Zai (by simp)];rw[ZeT (l:=a) (p:=λ_=>true) (bad:=.inr false) (fin:=.inl ()) (λk hk=>by
   have h3:=h2 _ (List.getElem_mem hk);simp only[ZiJ];rw[Zaj (by simpa using hk),Zbj hk];simp only[Z9,Zaf,Zg,Zah];rw[ZeT (l:=a[k].Entries) (p:=λ_=>true) (bad:=.inr false) (fin:=.inl ()) (λj hj=>by
    simp only[ZiI];rw[Zbj hk];simp only[Z9];rw[Zaj (by simpa using hj),Zbj hj];simp only[Z9];rw[Zai (by simp),ZaB (by omega)];simp) (by simp only[ZiI];rw[Zbj hk];simp) (by omega)]
   rw[show(a[k].Entries.all λ_=>true)=true by simp,Zaj rfl,Z9,ZaB (by omega)];simp) (by simp[ZiJ]) (by omega)]
 rw[show(a.all λ_=>true)=true by simp];rfl
theorem Zuf (G:Int):∀(row:List Bool) (l:List ZaX),(row.foldl (λl b=>addE G l (Zhk b)) l).length<=l.length+row.length
 |[],l=>by simp
 |b::row,l=>by
  have h1:=Zuf G row (addE G l (Zhk b));have h2:=(ZpQ (G:=G) l (Zhk b)).2.2.1;rw[Zx,ZO];omega
theorem ZvI (l:List Zam)(o:List Int)(hN:2000<=N):Zed N (Zmc t u l o).1 (Zmc t u l o).1=some true:=by
 have h0:(Zmc t u l o).1.length<=1000/\∀x∈(Zmc t u l o).1,x.Entries.length<=1000:=by
  unfold Zmc;by_cases h0:(ofS t u l).2=0
  ·obtain⟨hT,hU,hA,he,hof⟩:=Zn8 h0;obtain⟨h12,hl⟩:=Zna hA;have g:=Zbe.1 hT;have hp:Zj0 (ofS t u l).1=true:=by rw[hof];exact Zl3 g (Zh2 g (ZbT hU) hl) h12 he
   have hC:=(VP.of hp).lcm;have h24:=g.l24;rw[Zaj h0];split
   ·split
    ·refine⟨by simp[Zwu];omega,λx hx=>?_⟩;obtain⟨p,_,rfl⟩:=List.mem_map.1 hx;have:=Zuf u.Grid ((List.range (lcmL (ofS t u l).1.Periods)).map (ZuX u (Zcy t u l o).2 p)) [];rw[ZP,ZR]at this;rw[ZQ]at this;exact Nat.le_trans this (by omega)
    simp
   simp
  rw[Zai h0];simp
 exact ZoO h0.1 h0.2 hN
theorem ZuS (n:Nat):Zi9 (n+1000)=some true:=by kernel_rfl
theorem ZxW (hN:2000<=N):Zi9 N=some true:=by
 have:=ZuS (N-1000)
 rwa [show N-1000+1000=N by omega]at this
theorem Zwl {c:Zfn}(hc:Zjm c)(hN:30000000+c.L.length<=N):∃t u l o,Zfe N c=some (t,u,l,o):=by
 obtain⟨hd,hl,hw,⟨_,hs⟩,_⟩:=hc;obtain⟨t,t1,t2,t3⟩:=ZvA (N:=N) (DOK.of hd) (by omega);obtain⟨u,u1,u2⟩:=ZlU (N:=N) (Zff hw.1) (Zff hw.2.1) (Zff hw.2.2);obtain⟨l,s1,s2⟩:=ZlT (N:=N) t2 t3 (λd hd=>SDOK.of (hl.2 d hd)) hl.1 (by omega);have hN2:2000<=N:=by omega
 unfold Zfe;rw[t1,Z9,u1,Z9,s1,Z9,ZoV _ (by omega),Z9];by_cases h0:(ofS t u l).2=0
 ·obtain⟨hT,hU,hA,he,hof⟩:=Zn8 h0;obtain⟨h12,hl'⟩:=Zna hA;have hp:Zj0 (ofS t u l).1=true:=by rw[hof];exact Zl3 t2 (Zh2 t2 (ZbT hU) hl') h12 he
  obtain⟨q,hq,_⟩:=Zrt hN2 (VP.of hp) hs;rw[Zai (by simp[h0]),hq];obtain⟨r,hr⟩:=ZvH (N:=N) hp (by omega);rw[hr];cases c.Find with
  |false=>exact⟨_,_,_,_,rfl⟩
  |true=>
   rw[Zaj rfl,Z9];split<;>exact⟨_,_,_,_,rfl⟩
 rw[Zaj (by simpa using h0)];exact⟨_,_,_,_,rfl⟩
theorem synthLists_true (c:Zfn)(odd:List Int)(grid:Int)(hc:Zjm c)(_:odd.length<=maxLen/\∀x∈odd,InK .i64 x)(_:InK .i64 grid):∃N,Zga N c odd grid=some true:=by
 refine⟨30000000+c.L.length,?_⟩;obtain⟨N,eN⟩:∃N,N=30000000+c.L.length:=⟨_,rfl⟩;rw[←eN];obtain⟨t,u,l,o,hm⟩:=Zwl (N:=N) hc (by omega);unfold Zga;have hN:30000000<=N:=by omega
 have hN2:2000<=N:=by omega
 simp only[hm,Z9,ZpU _ _ hN,Zp8 _ _ hN,Zaf,Zg,Zah,ZvI _ _ hN2,Zi,ZxW hN2]
end
end Go.Sh

