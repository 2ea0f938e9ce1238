/-Part of the proof. -/
import Derived.Test.YtlajapegdomhfaaGreatSynthHoldsStr1
import Derived.Test.YtlajapegdomhfaaGreatSynthHoldsBase
import Derived.KernelRfl
import Derived.Test.YtlajapegdomhfaaGreatSynthHoldsRd
set_option linter.all false
namespace Go.Sh
open Go Go.Eng
section
variable {N:Nat} {t:Zan} {u:Zar} {s:Zal}
structure AcOK (t:Zan) (u:Zar) (n:Nat) (a:Ac):Prop where
 pl:a.P.length<=n
 ul:a.U.length<=16*a.P.length
 per:a.P.all perB=true
 st:∀x∈a.U,0<=x.Stream/\x.Stream<(a.P.length:Int)
 port:∀x∈a.U,Zcn t x.Port=true
 fr:∀x∈a.U,0<=x.From/\x.From<perU a.P x
 lg:∀x∈a.U,1<=x.Long/\x.Long<=100000000
theorem ZxV {P Q:List Int}{x:ZaD}(h0:0<=x.Stream)(h1:x.Stream<(P.length:Int)):perU (P++Q) x=perU P x:=by
 unfold perU;rw[Zz,Zz,ZA (by omega)]
theorem ZxU {P:List Int}{q:Int}{x:ZaD}(h:x.Stream=(P.length:Int)):perU (P++[q]) x=q:=by
 unfold perU;rw[h,Zp,Zz,ZB (Nat.le_refl _)];simp
theorem ZyN (g:Good t)(hu:Zfr u)(h:SS t s){r:List Int}(hr:r∈s.Routes){n:Int}{x:ZaD}(hx:x∈Zc2 t u n s r):
  x.Stream=n/\Zcn t x.Port=true/\0<=x.From/\x.From<s.Period/\1<=x.Long/\x.Long<=100000000:=by
 obtain⟨h',hh,rfl⟩:=List.mem_map.1 hx;obtain⟨⟨e1,e2,o1,o2,l1,l2,eo⟩,hp⟩:=Zsc g hu (Zdg h.str) (h.rt r hr) hh;have p1:=h.per1;have g1:=hu.g1;have g2:=hu.g2;have d1:=Zeb (a:=h'.Early) (B:=20000000) g1 (by omega) e2 (by omega);have d2:=Zeb (a:=h'.Open+h'.Long+u.Grid-1) (B:=22000000) g1 (by omega) (by omega) (by omega);refine⟨rfl,hp,Int.emod_nonneg _ (by omega),Int.emod_lt_of_pos _ (by omega),?_,?_⟩
 ·show 1<=(h'.Open+h'.Long+u.Grid-1)/u.Grid-h'.Early/u.Grid;obtain⟨a1,a2⟩:=ZnA (a:=h'.Open+h'.Long+u.Grid-1) (G:=u.Grid) (by omega);obtain⟨b1,b2⟩:=ZnA (a:=h'.Early) (G:=u.Grid) (by omega);generalize (h'.Open+h'.Long+u.Grid-1)/u.Grid=p at*;generalize h'.Early/u.Grid=q at*;rcases Int.lt_or_le q p with c|c
  ·omega
  have:p*u.Grid<=q*u.Grid:=Int.mul_le_mul_of_nonneg_right c (by omega);omega
 show(h'.Open+h'.Long+u.Grid-1)/u.Grid-h'.Early/u.Grid<=100000000;omega
theorem AcOK.step (g:Good t)(hu:Zfr u){n:Nat}{a:Ac}(h:AcOK t u n a)(hs:Zbk t s=true):AcOK t u (n+1) (Zf5 t u a s):=by
 obtain⟨h1,h2,h3,h4,h5,h6,h7⟩:=h;unfold Zf5;by_cases c:s.Class=7
 ·rw[Zaj c];have q:=SS.of hs c;have p1:=q.per1;have p2:=q.per2;have r2:=q.r2;have hfl:(s.Routes.flatMap (Zc2 t u (a.P.length:Int) s)).length<=8*s.Routes.length:=ZmK _ _ λr hr=>ZoM g (q.rt r hr) _
  have new:∀x∈s.Routes.flatMap (Zc2 t u (a.P.length:Int) s),x.Stream=(a.P.length:Int)/\Zcn t x.Port=true/\0<=x.From/\x.From<s.Period/\1<=x.Long/\x.Long<=100000000:=λx hx=>by
   obtain⟨r,hr,hx⟩:=List.mem_flatMap.1 hx;exact ZyN g hu q hr hx
  refine⟨by simp;omega,by simp only[ZM,ZN,ZP];omega,?_,λx hx=>?_,λx hx=>?_,λx hx=>?_,λx hx=>?_⟩
  ·simp only[List.all_append,h3,Zk,List.all_cons,List.all_nil,Bool.and_true];exact Zjw.2 (by omega)
  ·simp only[ZM,ZN,ZP];rcases List.mem_append.1 hx with hx|hx
   ·have:=h4 x hx;omega
   have:=(new x hx).1;omega
  ·rcases List.mem_append.1 hx with hx|hx
   ·exact h5 x hx
   exact(new x hx).2.1
  ·rcases List.mem_append.1 hx with hx|hx
   ·have:=h4 x hx;simp only;rw[ZxV this.1 this.2];exact h6 x hx
   have:=new x hx;simp only;rw[ZxU this.1];exact⟨this.2.2.1,this.2.2.2.1⟩
  rcases List.mem_append.1 hx with hx|hx
  ·exact h7 x hx
  exact(new x hx).2.2.2.2
 rw[Zai c];exact⟨by omega,h2,h3,h4,h5,h6,h7⟩
theorem ZyG (g:Good t)(hu:Zfr u):∀(l:List Zal) (n:Nat) (a:Ac),AcOK t u n a->(∀x∈l,Zbk t x=true)->AcOK t u (n+l.length) (l.foldl (Zf5 t u) a)
 |[],n,a,h,_=>h
 |x::l,n,a,h,hl=>by
  have:=ZyG g hu l (n+1) _ (h.step g hu (hl x (by simp))) λy hy=>hl y (by simp[hy])
  simp only[ZN,Zy]
  rwa [show n+(l.length+1)=n+1+l.length by omega]
theorem acc0:AcOK t u 0 ⟨false,[],[]⟩:=⟨by simp,by simp,rfl,by simp,by simp,by simp,by simp⟩
theorem Zhz (g:Good t)(hu:Zfr u){l:List Zal}(hl:∀x∈l,Zbk t x=true):AcOK t u l.length (accA t u l):=by
 have:=ZyG (t:=t) (u:=u) g hu l 0 _ acc0 hl
 rwa [Z7]at this
theorem ZmS (l:List Zal)(k:Nat)(hk:k<l.length):accA t u (l.take (k+1))=Zf5 t u (accA t u (l.take k)) l[k]:=by
 unfold accA;rw[ZcW hk,List.foldl_append];rfl
theorem Ztb (hT:ZdW t=true)(hU:Zdi u=true){l:List Zal}(hl:∀x∈l,Zbk t x=true)(h12:l.length<=12)(hN:2000<=N):
  ZaI (λx:Int×Bool×(List Int)×(List ZaD)=>ZkV N t u l x.1 x.2.1 x.2.2.1 x.2.2.2) N (0,false,[],[])=some (.inl ((accA t u l).late,(accA t u l).P,(accA t u l).U)):=by
 have g:=Za9.1 hT;have hu:=ZbC hU;obtain⟨o,ho,eo⟩:=ZbD (body:=λx:Int×Bool×(List Int)×(List ZaD)=>ZkV N t u l x.1 x.2.1 x.2.2.1 x.2.2.2)
  (λx=>∃k:Nat,x.1=k/\k<=l.length/\x.2=((accA t u (l.take k)).late,(accA t u (l.take k)).P,(accA t u (l.take k)).U)) (λx=>(l.length-x.1).toNat)
  (λr=>r=.inl ((accA t u l).late,(accA t u l).P,(accA t u l).U)) (λx hx=>by
   obtain⟨i,y⟩:=x;obtain⟨k,k1,k2,k3⟩:=hx;simp only at k1 k3;subst k1 k3;simp only[ZkV];by_cases c:k<l.length
   ·left;have hs:=hl _ (List.getElem_mem c);have ha:=Zhz (t:=t) (u:=u) g hu (l:=l.take k) λx hx=>hl x (List.mem_of_mem_take hx)
    have a1:=ha.pl;have a2:=ha.ul;have htl:(l.take k).length<=12:=by simp;omega
    refine⟨(((k+1:Nat):Int),(accA t u (l.take (k+1))).late,(accA t u (l.take (k+1))).P,(accA t u (l.take (k+1))).U),?_,⟨k+1,rfl,by omega,rfl⟩,by simp;omega⟩;rw[Zaj (by simpa using c),Zbq c,Z8,ZaE (by omega),ZmS l k c];by_cases hc:l[k].Class=7
    ·rw[Zai (by simpa using hc),Znm hT hU (SS.of hs hc) (by omega) (by omega) hN,Z8];rfl
    rw[Zaj (by simpa using hc)];unfold Zf5;rw[Zai hc]
   right;obtain rfl:k=l.length:=by omega
   exact⟨.inl ((accA t u l).late,(accA t u l).P,(accA t u l).U),by rw[Zai (by simp),Z3],rfl⟩) N (0,false,[],[]) ⟨0,rfl,by omega,by simp[accA]⟩ (by simp;omega)
 rw[ho,eo]
def sumC (P:List Int)(C:Int):List ZaD->Int
 |[]=>0
 |x::l=>C.tdiv (perU P x)+sumC P C l
theorem ZuF (P:List Int)(C:Int)(a b:List ZaD):sumC P C (a++b)=sumC P C a+sumC P C b:=by
 induction a with
 |nil=>simp[sumC]
 |cons x a ih=>simp only[Zu,sumC,ih];omega
def ZjZ (P:List Int)(C:Int)(U:List ZaD)(q:Int):Int:=sumC P C (U.filter λx=>x.Port==q)
def Zty (P:List Int)(C:Int)(U:List ZaD):Bool:=U.any λx=>decide (ZjZ P C U x.Port>63)
def ZiO (P:List Int)(U:List ZaD):Bool:=U.any λx=>decide (x.Long>perU P x)
def errC (a:Ac):Int:=if lcmL a.P<=960 then(if Zty a.P (lcmL a.P) a.U=true then 7 else if ZiO a.P a.U=true then 341 else if a.late=true then 342 else 0)else 6
theorem ZmY {P:List Int}{C:Int}(h0:0<=C)(h1:C<=960):∀{U:List ZaD},(∀x∈U,1<=perU P x)->0<=sumC P C U/\sumC P C U<=960*U.length
 |[],_=>by simp[sumC]
 |x::U,h=>by
  have ih:=ZmY h0 h1 (U:=U) λy hy=>h y (by simp[hy])
  have hx:=h x (by simp);simp only[sumC,ZN];rw[Zn h0];have d:=Zeb (a:=C) (B:=C) hx (by omega) (by omega) h0;have e:0<=C/perU P x:=Int.ediv_nonneg h0 (by omega);omega
structure Grp (U:List ZaD) (m:List (Int×List ZaD)):Prop where
 nd:(m.map (·.1)).Nodup
 val:∀p∈m,p.2=U.filter (λx=>x.Port==p.1)/\p.2≠[]
 key:∀x∈U,∃p∈m,p.1=x.Port
theorem ZwR {κ υ:Type}[DecidableEq κ]{m:List (κ×υ)}{z:υ}:∀{p:κ×υ},(m.map (·.1)).Nodup->p∈m->Zio m p.1 z=p.2:=by
 intro p hn hp;induction m with
 |nil=>simp at hp
 |cons q m ih=>
  rw[Znq];simp only[ZU,List.nodup_cons]at hn;rcases List.mem_cons.1 hp with rfl|hp
  ·rw[Zaj rfl]
  rw[Zai,ih hn.2 hp];intro e;exact hn.1 (List.mem_map.2 ⟨p,hp,e.symm⟩)
theorem ZvL {κ υ:Type}[DecidableEq κ]{m:List (κ×υ)}{x:κ}{z:υ}(h:∀p∈m,p.1≠x):Zio m x z=z:=by
 induction m with
 |nil=>rfl
 |cons q m ih=>
  rw[Znq,Zai (h q (by simp)),ih λp hp=>h p (by simp[hp])]
theorem ZvI {κ υ:Type}[DecidableEq κ](m:List (κ×υ))(x:κ)(v:υ):(Zd6 m x v).map (·.1)=if x∈m.map (·.1)then m.map (·.1)else m.map (·.1)++[x]:=by
 induction m with
 |nil=>simp[Zd6]
 |cons q m ih=>
  unfold Zd6;by_cases e:q.1=x
  ·rw[Zaj e];simp[e]
  rw[Zai e,ZU,ih];by_cases c:x∈m.map (·.1)
  ·rw[Zaj c,Zaj (by simp[c])];rfl
  have hx:¬x∈(q::m).map (·.1):=by
   rw[ZU,List.mem_cons];rintro(r|r)
   ·exact e r.symm
   exact c r
  rw[Zai c,Zai hx];rfl
theorem ZmH {κ υ:Type}[DecidableEq κ]{m:List (κ×υ)}{x:κ}{v:υ}(hn:(m.map (·.1)).Nodup){p:κ×υ}:p∈Zd6 m x v↔p=(x,v)∨(p∈m/\p.1≠x):=by
 induction m with
 |nil=>simp[Zd6]
 |cons q m ih=>
  simp only[ZU,List.nodup_cons]at hn;unfold Zd6;by_cases e:q.1=x
  ·rw[Zaj e,List.mem_cons,List.mem_cons];constructor
   ·rintro(r|r)
    ·exact .inl r
    refine .inr ⟨.inr r,λe2=>hn.1 (List.mem_map.2 ⟨p,r,by rw[e2,e]⟩)⟩
   rintro(r|⟨r|r,e2⟩)
   ·exact .inl r
   ·subst r;exact absurd e e2
   exact .inr r
  rw[Zai e,List.mem_cons,ih hn.2,List.mem_cons];constructor
  ·rintro(r|r|⟨r,e2⟩)
   ·subst r;exact .inr ⟨.inl rfl,e⟩
   ·exact .inl r
   exact .inr ⟨.inr r,e2⟩
  rintro(r|⟨r|r,e2⟩)
  ·exact .inr (.inl r)
  ·exact .inl r
  exact .inr (.inr ⟨r,e2⟩)
theorem Grp.get {U:List ZaD}{m:List (Int×List ZaD)}(h:Grp U m)(q:Int):Zio m q []=U.filter (λx=>x.Port==q):=by
 by_cases c:∃p∈m,p.1=q
 ·obtain⟨p,hp,rfl⟩:=c;rw[ZwR h.nd hp,(h.val p hp).1]
 rw[ZvL λp hp e=>c ⟨p,hp,e⟩];symm;rw[List.filter_eq_nil_iff];intro x hx hq;obtain⟨p,hp,e⟩:=h.key x hx;exact c ⟨p,hp,by rw[e];simpa using hq⟩
theorem Grp.add {U:List ZaD}{m:List (Int×List ZaD)}(h:Grp U m)(x:ZaD):Grp (U++[x]) (Zd6 m x.Port (Zio m x.Port []++[x])):=by
 refine⟨?_,λp hp=>?_,λy hy=>?_⟩
 ·rw[ZvI];by_cases c:x.Port∈m.map (·.1)
  ·rw[Zaj c];exact h.nd
  rw[Zai c,List.nodup_append];refine⟨h.nd,by simp,λa ha b hb e=>?_⟩;simp only[ZX]at hb;subst hb e;exact c ha
 ·rw[List.filter_append];rcases(ZmH h.nd).1 hp with rfl|⟨hp,hne⟩
  ·simp only;rw[h.get];refine⟨by simp,by simp⟩
  refine⟨?_,(h.val p hp).2⟩;rw[←(h.val p hp).1];simp[Ne.symm hne]
 rcases List.mem_append.1 hy with hy|hy
 ·obtain⟨p,hp,e⟩:=h.key y hy;by_cases c:p.1=x.Port
  ·exact⟨_,(ZmH h.nd).2 (.inl rfl),by rw[←e,c]⟩
  exact⟨p,(ZmH h.nd).2 (.inr ⟨hp,c⟩),e⟩
 simp only[ZX]at hy;subst hy;exact⟨_,(ZmH h.nd).2 (.inl rfl),rfl⟩
theorem Zyx {f:List ZaD->Option Bool}{g:List ZaD->Bool}:∀{m:List (Int×List ZaD)},(∀p∈m,f p.2=some (g p.2))->rgF f m=some (m.any λp=>g p.2)
 |[],_=>rfl
 |p::m,h=>by
  unfold rgF;rw[h p (by simp),Z8,Zyx λq hq=>h q (by simp[hq]),Z8,List.any_cons]
theorem Zwi {P:List Int}{U:List ZaD}{b:Bool}(hU:U.length<=300)(hst:∀x∈U,0<=x.Stream/\x.Stream<(P.length:Int))(hN:2000<=N):
  ZaI (λx:Int=>ZbT N ⟨⟨P,U⟩,b⟩ x) N 0=some (if ZiO P U=true then .inr 341 else .inl ()):=by
 rw[Zdc (l:=U) (p:=λx=>!decide (x.Long>perU P x)) (bad:=.inr 341) (fin:=.inl ()) (λk hk=>?_) (by simp[ZbT]) (by omega)]
 ·have e:(U.all λx=>!decide (x.Long>perU P x))=!ZiO P U:=by
   unfold ZiO;rw[List.not_any_eq_all_not]
  rw[e];cases ZiO P U<;>rfl
 obtain⟨a,c⟩:=hst _ (List.getElem_mem hk);simp only[ZbT];rw[Zaj (by simpa using hk),Zbq hk,Z8,ZkD a c,Z8,ZaE (by omega)];by_cases d:U[k].Long>perU P U[k]
 ·rw[Zaj (by simpa using d),Zai (by simpa using d)]
 rw[Zai (by simpa using d),Zaj (by simpa using d)]
theorem W_eq {P:List Int}{U us:List ZaD}{b:Bool}{C:Int}(h0:0<=C)(h1:C<=960)(hl:us.length<=300)(hst:∀x∈us,0<=x.Stream/\x.Stream<(P.length:Int))(hp:∀x∈us,1<=perU P x)(e:Int)(hN:2000<=N):
  Zcr N ⟨⟨P,U⟩,b⟩ (C,e) us=some (decide (sumC P C us>63)):=by
 unfold Zcr;obtain⟨o,ho,eo⟩:=ZbD (body:=λx:Int×Int=>Zcg N ⟨⟨P,U⟩,b⟩ (C,e) us x.1 x.2)
  (λx=>∃k:Nat,x.2=k/\k<=us.length/\x.1=sumC P C (us.take k)) (λx=>(us.length-x.2).toNat) (λr=>r=sumC P C us) (λx hx=>by
   obtain⟨c,i⟩:=x;obtain⟨k,k1,k2,k3⟩:=hx;simp only at k1 k3;subst k1 k3;simp only[Zcg];by_cases c:k<us.length
   ·left;have hm:=List.getElem_mem c;obtain⟨a1,a2⟩:=hst _ hm;have q:=hp _ hm;have s1:=ZmY (P:=P) h0 h1 (U:=us.take k) λx hx=>hp x (List.mem_of_mem_take hx)
    have hlen:(us.take k).length<=300:=by simp;omega
    have d:=Zeb (a:=C) (B:=C) q (by omega) (by omega) h0;have d0:0<=C/perU P us[k]:=Int.ediv_nonneg h0 (by omega);have et:C.tdiv (perU P us[k])=C/perU P us[k]:=Zn h0;refine⟨(sumC P C (us.take (k+1)),((k+1:Nat):Int)),?_,⟨k+1,rfl,by omega,rfl⟩,by simp;omega⟩;rw[Zaj (by simpa using c),Zbq c,Z8,ZkD a1 a2,Z8,Zjo (by omega),Z8,et];have ew:IntKind.i64.wrap (C/perU P us[k])=C/perU P us[k]:=ZaB (by omega) (by omega);have es:sumC P C (us.take (k+1))=sumC P C (us.take k)+C/perU P us[k]:=by
     rw[ZcW c,ZuF];simp[sumC,et]
    rw[ew,ZaB (by omega) (by omega),ZaE (by omega),es]
   right;obtain rfl:k=us.length:=by omega
   exact⟨sumC P C us,by rw[Zai (by simp),Z3],rfl⟩) N (0,0) ⟨0,rfl,by omega,by simp[sumC]⟩ (by simp;omega)
 rw[ho,Z8,eo]
theorem Zyc {P:List Int}{C:Int}{U:List ZaD}{m:List (Int×List ZaD)}(h:Grp U m):(m.any λp=>decide (sumC P C p.2>63))=Zty P C U:=by
 unfold Zty ZjZ;rw[Zf,List.any_eq_true,List.any_eq_true];constructor
 ·rintro⟨p,hp,hs⟩;obtain⟨e,ne⟩:=h.val p hp;obtain⟨x,hx⟩:=List.exists_mem_of_ne_nil _ ne;rw[e]at hx;obtain⟨hx1,hx2⟩:=List.mem_filter.1 hx;have:x.Port=p.1:=by simpa using hx2
  refine⟨x,hx1,?_⟩;rw[this,←e];exact hs
 rintro⟨x,hx,hs⟩;obtain⟨p,hp,e⟩:=h.key x hx;refine⟨p,hp,?_⟩;rw[(h.val p hp).1,e];exact hs
theorem Zl4 {a:Ac}{n:Nat}(h:AcOK t u n a)(hn:n<=12)(hN:2000<=N):ZdE N ⟨⟨a.P,a.U⟩,a.late⟩=some (errC a):=by
 obtain⟨h1,h2,h3,h4,h5,h6,h7⟩:=h;have hper:∀x∈a.U,1<=perU a.P x:=λx hx=>by
  obtain⟨c,d⟩:=h4 x hx;have:=Zjw.1 (List.all_eq_true.1 h3 _ (Zub c d));omega
 unfold ZdE errC;simp only;rw[Zhn hN (by omega) h3,Z8];by_cases hc:lcmL a.P<=960
 ·rw[Zaj hc,Zaj hc];simp only[Zae,Zg,Zah];obtain⟨m,hm,em⟩:=ZbD (body:=λx:Int×(List (Int×(List ZaD)))=>Zch N ⟨⟨a.P,a.U⟩,a.late⟩ x.1 x.2)
   (λx=>∃k:Nat,x.1=k/\k<=a.U.length/\Grp (a.U.take k) x.2) (λx=>(a.U.length-x.1).toNat) (λr=>Grp a.U r) (λx hx=>by
    obtain⟨i,m⟩:=x;obtain⟨k,k1,k2,k3⟩:=hx;simp only at k1 k3;subst k1;simp only[Zch];by_cases c:k<a.U.length
    ·left;have hlen:(Zio m a.U[k].Port []).length<=192:=by
      rw[k3.get];have:=List.length_filter_le (λx=>x.Port==a.U[k].Port) (a.U.take k);have e:(a.U.take k).length<=192:=by simp;omega
      omega
     refine⟨(((k+1:Nat):Int),Zd6 m a.U[k].Port (Zio m a.U[k].Port []++[a.U[k]])),?_,⟨k+1,rfl,by omega,?_⟩,by simp;omega⟩
     ·rw[Zaj (by simpa using c),Zbq c,Z8,ZiK (by omega) (by omega),Z8,ZaE (by omega)]
     simp only;rw[ZcW c];exact k3.add _
    right;obtain rfl:k=a.U.length:=by omega
    rw[Z3]at k3;exact⟨m,by rw[Zai (by simp)],k3⟩) N (0,[]) ⟨0,rfl,by omega,⟨by simp,by simp,by simp⟩⟩ (by simp;omega)
  rw[hm,Z8];rw[Zyx (g:=λus=>decide (sumC a.P (lcmL a.P) us>63)) (λp hp=>by
   have e:=(em.val p hp).1;have hsub:∀x∈p.2,x∈a.U:=λx hx=>by rw[e]at hx;exact(List.mem_filter.1 hx).1
   have hl:p.2.length<=192:=by
    rw[e];have:=List.length_filter_le (λx=>x.Port==p.1) a.U;omega
   exact W_eq (by omega) (by omega) (by omega) (λx hx=>h4 x (hsub x hx)) (λx hx=>hper x (hsub x hx)) 0 hN),Z8,Zyc em]
  cases hf:Zty a.P (lcmL a.P) a.U with
  |true=>rfl
  |false=>
   simp only[Zg,Zah];rw[Zwi (by omega) h4 hN,Z8];cases ZiO a.P a.U with
   |true=>rfl
   |false=>cases a.late<;>rfl
 rw[Zai hc,Zai hc];rfl
def ZpJ:Zap:=⟨[],[]⟩
def ofS (t:Zan)(u:Zar)(l:List Zal):Zap×Int:=
 if ZdW t=true then(if Zdi u=true then(if allR t l=0 then(if errC (accA t u l)=0 then(⟨(accA t u l).P,(accA t u l).U⟩,0)else(ZpJ,errC (accA t u l)))else(ZpJ,allR t l))else(ZpJ,320))else(ZpJ,260)
theorem Zym:allR t []=if ZdW t=true then 0 else 260:=by
 unfold allR;cases ZdW t<;>simp[allB]
theorem Zma {l:List Zal}(h:allR t l=0):l.length<=12/\∀x∈l,Zbk t x=true:=by
 unfold allR at h;by_cases c:ZdW t=true
 ·rw[Zaj c]at h;by_cases d:l.length<=12
  ·rw[Zaj d]at h;by_cases e:l.all (Zbk t)=true
   ·exact⟨d,List.all_eq_true.1 e⟩
   rw[Zai e]at h;omega
  rw[Zai d]at h;omega
 rw[Zai c]at h;omega
theorem ZvC (l:List Zal)(hN:2000<=N):Zpw N t u l=some (ofS t u l):=by
 unfold Zpw ofS;rw[ZhN _ (by omega),Z8,Zym];cases hT:ZdW t with
 |false=>rfl
 |true=>
  simp only[Zak,Zae,Zg,Zah];rw[Zgv,Z8];cases hU:Zdi u with
  |false=>rfl
  |true=>
   simp only[Zak,Zae,Zg,Zah];rw[ZhN _ (by omega),Z8];by_cases hA:allR t l=0
   ·obtain⟨h12,hl⟩:=Zma hA;rw[Zaj hA,hA,Zai (by simp),Ztb hT hU hl h12 hN,Z8];simp only;rw[Zl4 (Zhz (Za9.1 hT) (ZbC hU) hl) h12 hN,Z8];by_cases e:errC (accA t u l)=0
    ·rw[Zaj e,e];rfl
    rw[Zai e,Zaj (by simpa using e)];rfl
   rw[Zai hA,Zaj (by simpa using hA)];rfl
end
end Go.Sh

namespace Go.Sh
open Go Go.Eng
section
variable {N:Nat} {t:Zan} {u:Zar} {s:Zal}
theorem Zs4 (g:Good t)(hu:Zfr u)(hs:ZkI s){r:List Int}(e2:ZbG t r=true)(hN:30000000<=N):Zmt N t u s r=some (Zbn t u (ZaR t u s r (r.length-1))):=by
 obtain⟨h1,h8,hp⟩:=Zb1 e2;have hL:t.Links.length<=1000:=by have:=g.l24;omega
 unfold Zmt;rw[Zkk g hu hs e2 hN,Z8];have hj:r.length-1<r.length:=by omega
 have hb:=ZgT g hu hs hp _ hj;obtain⟨b1,b2,b3,b4⟩:=ZgZ g hu hs hp h8 hj;obtain⟨_,_,d1,d2⟩:=ZgX g hb.port;have lo1:=hb.long1;have lo2:=hb.long2;have p1:=hu.p1;have p2:=hu.p2;have x3:idx ((List.range r.length).map (ZaR t u s r)) (w64 (((List.length ((List.range r.length).map (ZaR t u s r)):Nat):Int)-1))=some (ZaR t u s r (r.length-1)):=by
  rw[ZO,ZQ,ZaB (by omega) (by omega),show((r.length:Nat):Int)-1=((r.length-1:Nat):Int)by omega,ZoC _ hj]
 rw[x3,Z8,ZlE hL hb.port,Z8];have htold:(ZaR t u s r (r.length-1)).Open+(ZaR t u s r (r.length-1)).Long+(plk t (ZaR t u s r (r.length-1)).Port).Delay+u.Proc=Zbn t u (ZaR t u s r (r.length-1)):=rfl;rw[ZaB (x:=(ZaR t u s r (r.length-1)).Open+(ZaR t u s r (r.length-1)).Long) (by omega) (by omega),ZaB (x:=(ZaR t u s r (r.length-1)).Open+(ZaR t u s r (r.length-1)).Long+_) (by omega) (by omega),htold,ZaB (by omega) (by omega)]
theorem Zom (hT:ZdW t=true)(hU:Zdi u=true){l:List Zal}{i:Nat}(hi:i<l.length)(h:SS t l[i]){b:Bool}{P:List Int}{U:List ZaD}(hP:P.length<=100)(hUl:U.length<=900)(hN:30000000<=N):
  ZaI (λx:Bool×Int×(List ZaD)=>Zjc N t u l (i:Int) P x.1 x.2.1 x.2.2) N (b,0,U)=some ((Zf5 t u ⟨b,P,U⟩ l[i]).late,(Zf5 t u ⟨b,P,U⟩ l[i]).U):=by
 have g:=Za9.1 hT;have hu:=ZbC hU;obtain⟨s,es⟩:∃s,s=l[i]:=⟨_,rfl⟩;have ei:idx l (i:Int)=some s:=by rw[Zbq hi,es]
 rw[←es]at h⊢;have hs:=Zdg h.str;have p1:=h.per1;have p2:=h.per2;have r1:=h.r1;have r2:=h.r2;unfold Zf5;rw[Zaj h.cls];simp only;obtain⟨o,ho,eo⟩:=ZbD (body:=λx:Bool×Int×(List ZaD)=>Zjc N t u l (i:Int) P x.1 x.2.1 x.2.2)
  (λx=>∃k:Nat,x.2.1=k/\k<=s.Routes.length/\x.1=(b||(s.Routes.take k).any (Znu t u s))/\x.2.2=U++(s.Routes.take k).flatMap (Zc2 t u (P.length:Int) s)) (λx=>(s.Routes.length-x.2.1).toNat)
  (λr=>r=(b||s.Routes.any (Znu t u s),U++s.Routes.flatMap (Zc2 t u (P.length:Int) s))) (λx hx=>by
   obtain⟨b',i',U'⟩:=x;obtain⟨k,k1,k2,k3,k4⟩:=hx;simp only at k1 k3 k4;subst k1 k3 k4;simp only[Zjc];rw[ei];simp only[Z8];by_cases c:k<s.Routes.length
   ·left;have hv:=h.rt _ (List.getElem_mem c);obtain⟨v1,v8,vp⟩:=Zb1 hv;refine⟨(b||(s.Routes.take (k+1)).any (Znu t u s),((k+1:Nat):Int),U++(s.Routes.take (k+1)).flatMap (Zc2 t u (P.length:Int) s)),?_,⟨k+1,rfl,by omega,rfl,rfl⟩,by simp;omega⟩;rw[Zaj (by simpa using c),Zbq c];simp only[Z8];rw[Zkk g hu hs hv hN,Z8,Zs4 g hu hs hv hN];have hfl:((s.Routes.take k).flatMap (Zc2 t u (P.length:Int) s)).length<=8*(s.Routes.take k).length:=ZmK _ _ λr hr=>ZoM g (h.rt r (List.mem_of_mem_take hr)) _
    have htl:(s.Routes.take k).length<=2:=by simp;omega
    obtain⟨q,hq,eq⟩:=ZbD (body:=λx:Int×(List ZaD)=>ZlX N u l (i:Int) P ((List.range s.Routes[k].length).map (ZaR t u s s.Routes[k])) x.1 x.2)
     (λx=>∃j:Nat,x.1=j/\j<=s.Routes[k].length/\x.2=U++(s.Routes.take k).flatMap (Zc2 t u (P.length:Int) s)++(Zc2 t u (P.length:Int) s s.Routes[k]).take j) (λx=>(s.Routes[k].length-x.1).toNat)
     (λr=>r=U++(s.Routes.take k).flatMap (Zc2 t u (P.length:Int) s)++Zc2 t u (P.length:Int) s s.Routes[k]) (λx hx=>by
      obtain⟨i',U'⟩:=x;obtain⟨j,j1,j2,j3⟩:=hx;simp only at j1 j3;subst j1 j3;simp only[ZlX];have hlen:(Zc2 t u (P.length:Int) s s.Routes[k]).length=s.Routes[k].length:=by simp[Zc2,Ziq]
      by_cases d:j<s.Routes[k].length
      ·left;refine⟨(((j+1:Nat):Int),U++(s.Routes.take k).flatMap (Zc2 t u (P.length:Int) s)++(Zc2 t u (P.length:Int) s s.Routes[k]).take (j+1)),?_,⟨j+1,rfl,by omega,rfl⟩,by simp;omega⟩;have hmem:ZaR t u s s.Routes[k] j∈Ziq t u s s.Routes[k]:=List.mem_map.2 ⟨j,List.mem_range.2 d,rfl⟩;have eh:(Zc2 t u (P.length:Int) s s.Routes[k])[j]'(by omega)=useH u (P.length:Int) s.Period (ZaR t u s s.Routes[k] j):=by simp[Zc2,Ziq]
       rw[Zaj (by simpa using d),ei,Z8,ZoC _ d,Z8,Zs0 hu (Zsc g hu hs hv hmem).1 p1 (by omega),Z8,ZiK (by simp only[ZM,ZS];omega) (by omega),Z8,ZaE (by omega),ZcW (by omega),eh];simp only[Zs]
      right;obtain rfl:j=s.Routes[k].length:=by omega
      refine⟨U++(s.Routes.take k).flatMap (Zc2 t u (P.length:Int) s)++Zc2 t u (P.length:Int) s s.Routes[k],?_,rfl⟩;rw[Zai (by simp),Z4 (Nat.le_of_eq hlen)]) N (0,U++(s.Routes.take k).flatMap (Zc2 t u (P.length:Int) s)) ⟨0,rfl,by omega,by simp⟩ (by simp;omega)
    rw[hq,Z8,eq];have hj:s.Routes[k].length-1<s.Routes[k].length:=by omega
    obtain⟨b1,b2,b3,b4⟩:=ZgZ g hu hs vp v8 hj;have s1:=hu.s1;have s2:=hu.s2;rw[Z8,ZaB (x:=2*u.Slack) (by omega) (by omega),ZaB (x:=Zbn t u (ZaR t u s s.Routes[k] (s.Routes[k].length-1))+2*u.Slack) (by omega) (by omega),ZaE (by omega),ZcW c,List.any_append,List.flatMap_append];have el:decide (Zbn t u (ZaR t u s s.Routes[k] (s.Routes[k].length-1))+2*u.Slack>s.Deadline)=Znu t u s s.Routes[k]:=rfl;rw[el];simp only[List.any_cons,List.any_nil,Bool.or_false,List.flatMap_cons,List.flatMap_nil,List.append_nil,Zs];cases b<;>cases (s.Routes.take k).any (Znu t u s)<;>cases Znu t u s s.Routes[k]<;>simp
   right;obtain rfl:k=s.Routes.length:=by omega
   exact⟨(b||s.Routes.any (Znu t u s),U++s.Routes.flatMap (Zc2 t u (P.length:Int) s)),by rw[Zai (by simp),Z3],rfl⟩) N (b,0,U) ⟨0,rfl,by omega,by simp,by simp⟩ (by simp;omega)
 rw[ho,eo]
theorem ZrP (hT:ZdW t=true)(hU:Zdi u=true){l:List Zal}(hl:∀x∈l,Zbk t x=true)(h12:l.length<=12)(hN:30000000<=N):
  ZaI (λx:Bool×Int×(List Int)×(List ZaD)=>Zjd N t u l x.1 x.2.1 x.2.2.1 x.2.2.2) N (false,0,[],[])=some ((accA t u l).late,(accA t u l).P,(accA t u l).U):=by
 have g:=Za9.1 hT;have hu:=ZbC hU;obtain⟨o,ho,eo⟩:=ZbD (body:=λx:Bool×Int×(List Int)×(List ZaD)=>Zjd N t u l x.1 x.2.1 x.2.2.1 x.2.2.2)
  (λx=>∃k:Nat,x.2.1=k/\k<=l.length/\x.1=(accA t u (l.take k)).late/\x.2.2=((accA t u (l.take k)).P,(accA t u (l.take k)).U)) (λx=>(l.length-x.2.1).toNat)
  (λr=>r=((accA t u l).late,(accA t u l).P,(accA t u l).U)) (λx hx=>by
   obtain⟨b,i,y⟩:=x;obtain⟨k,k1,k2,k3,k4⟩:=hx;simp only at k1 k3 k4;subst k1 k3 k4;simp only[Zjd];by_cases c:k<l.length
   ·left;have hs:=hl _ (List.getElem_mem c);have ha:=Zhz (t:=t) (u:=u) g hu (l:=l.take k) λx hx=>hl x (List.mem_of_mem_take hx)
    have a1:=ha.pl;have a2:=ha.ul;have htl:(l.take k).length<=12:=by simp;omega
    refine⟨((accA t u (l.take (k+1))).late,((k+1:Nat):Int),(accA t u (l.take (k+1))).P,(accA t u (l.take (k+1))).U),?_,⟨k+1,rfl,by omega,rfl,rfl⟩,by simp;omega⟩;rw[Zaj (by simpa using c),Zbq c];simp only[Z8];rw[ZaE (by omega),ZmS l k c];by_cases hc:l[k].Class=7
    ·have e:=Zom (N:=N) hT hU c (SS.of hs hc) (b:=(accA t u (l.take k)).late) (P:=(accA t u (l.take k)).P) (U:=(accA t u (l.take k)).U) (by omega) (by omega) hN;rw[Zai (by simpa using hc),e,Z8,ZiK (by omega) (by omega),Z8];simp only[Z8];unfold Zf5;rw[Zaj hc]
    rw[Zaj (by simpa using hc)];unfold Zf5;rw[Zai hc];rfl
   right;obtain rfl:k=l.length:=by omega
   exact⟨((accA t u l).late,(accA t u l).P,(accA t u l).U),by rw[Zai (by simp),Z3],rfl⟩) N (false,0,[],[]) ⟨0,rfl,by omega,by simp[accA],by simp[accA]⟩ (by simp;omega)
 rw[ho,eo]
theorem ZxT {P:List Int}{U:List ZaD}{b:Bool}{C:Int}(h0:0<=C)(h1:C<=960)(hl:U.length<=300)(hst:∀x∈U,0<=x.Stream/\x.Stream<(P.length:Int))(hp:∀x∈U,1<=perU P x)(q:Int)(hN:2000<=N):
  ZaI (λx:Int×Int=>Zjb N (b,P,U) C q x.1 x.2) N (0,0)=some (ZjZ P C U q):=by
 obtain⟨o,ho,eo⟩:=ZbD (body:=λx:Int×Int=>Zjb N (b,P,U) C q x.1 x.2)
  (λx=>∃k:Nat,x.2=k/\k<=U.length/\x.1=ZjZ P C (U.take k) q) (λx=>(U.length-x.2).toNat) (λr=>r=ZjZ P C U q) (λx hx=>by
   obtain⟨c,i⟩:=x;obtain⟨k,k1,k2,k3⟩:=hx;simp only at k1 k3;subst k1 k3;simp only[Zjb];by_cases c:k<U.length
   ·left;have hm:=List.getElem_mem c;obtain⟨a1,a2⟩:=hst _ hm;have hq:=hp _ hm;have s1:=ZmY (P:=P) h0 h1 (U:=(U.take k).filter λx=>x.Port==q) λx hx=>hp x (List.mem_of_mem_take (List.mem_filter.1 hx).1)
    have hlen:((U.take k).filter λx=>x.Port==q).length<=300:=by
     have:=List.length_filter_le (λx:ZaD=>x.Port==q) (U.take k);have e:(U.take k).length<=300:=by simp;omega
     omega
    have d:=Zeb (a:=C) (B:=C) hq (by omega) (by omega) h0;have d0:0<=C/perU P U[k]:=Int.ediv_nonneg h0 (by omega);have et:C.tdiv (perU P U[k])=C/perU P U[k]:=Zn h0;have ew:IntKind.i64.wrap (C/perU P U[k])=C/perU P U[k]:=ZaB (by omega) (by omega);refine⟨(ZjZ P C (U.take (k+1)) q,((k+1:Nat):Int)),?_,⟨k+1,rfl,by omega,rfl⟩,by simp;omega⟩;have es:ZjZ P C (U.take (k+1)) q=ZjZ P C (U.take k) q+(if U[k].Port==q then C/perU P U[k]else 0):=by
     unfold ZjZ;rw[ZcW c,List.filter_append,ZuF]
     congr 1
     cases hh:U[k].Port==q with
     |false=>simp[List.filter,hh,sumC]
     |true=>simp[List.filter,hh,sumC,et]
    have s2:0<=ZjZ P C (U.take k) q/\ZjZ P C (U.take k) q<=960*300:=by
     unfold ZjZ;omega
    rw[Zaj (by simpa using c),Zbq c];simp only[Z8];rw[ZkD a1 a2,Z8,Zjo (by omega),Z8,et,ew,ZaE (by omega),es];cases hh:U[k].Port==q with
    |false=>simp
    |true=>
     simp only[Zak];rw[Z8,ZaB (by omega) (by omega)]
   right;obtain rfl:k=U.length:=by omega
   exact⟨ZjZ P C U q,by rw[Zai (by simp),Z3],rfl⟩) N (0,0) ⟨0,rfl,by omega,by simp[ZjZ,sumC]⟩ (by simp;omega)
 rw[ho,eo]
theorem Zv1 {P:List Int}{C:Int}{U:List ZaD}{n:Nat}(hp:∀x∈U,0<=x.Port/\x.Port<(n:Int)):allB n (λq=>!decide (ZjZ P C U (q:Int)>63))=!Zty P C U:=by
 rw[Zf,ZbF];unfold Zty;simp only[Zh,decide_eq_false_iff_not,List.any_eq_false,Zag];constructor
 ·intro h x hx hs;have:=hp x hx;refine h x.Port.toNat (by omega) ?_;rw[Zq this.1];exact hs
 intro h q hq hs;have hne:U.filter (λx=>x.Port==(q:Int))≠[]:=by
  intro e;unfold ZjZ at hs;rw[e]at hs;simp[sumC]at hs
 obtain⟨x,hx⟩:=List.exists_mem_of_ne_nil _ hne;obtain⟨hx1,hx2⟩:=List.mem_filter.1 hx;have e:x.Port=(q:Int):=by simpa using hx2
 exact h x hx1 (by rw[e];exact hs)
theorem ZlU (l:List Zal)(hN:30000000<=N):ZkQ N t u l=some (ofS t u l):=by
 unfold ZkQ ofS;rw[ZlA (by omega),Z8];cases hT:ZdW t with
 |false=>rfl
 |true=>
  simp only[Zi,Zg,Zah,Zak];rw[ZqC,Z8];cases hU:Zdi u with
  |false=>rfl
  |true=>
   simp only[Zi,Zg,Zah,Zak];rw[Znk _ (by omega),Z8];by_cases hA:allR t l=0
   ·obtain⟨h12,hl⟩:=Zma hA;have g:=Za9.1 hT;rw[Zaj hA,hA,Zai (by simp),ZrP hT hU hl h12 hN,Z8];obtain⟨h1,h2,h3,h4,h5,h6,h7⟩:=Zhz (t:=t) (u:=u) g (ZbC hU) hl;obtain⟨a,ea⟩:∃a,a=accA t u l:=⟨_,rfl⟩;rw[←ea]at h1 h2 h3 h4 h5 h6 h7⊢;have hper:∀x∈a.U,1<=perU a.P x:=λx hx=>by
     obtain⟨c,d⟩:=h4 x hx;have:=Zjw.1 (List.all_eq_true.1 h3 _ (Zub c d));omega
    have hlp:=ZoB h3;simp only;rw[ZhW (by omega) (by omega) h3,Z8];unfold errC;by_cases hc:lcmL a.P<=960
    ·rw[Zaj hc,Zaj hc,Zai (by simp;omega)];have hl24:=g.l24;rw[Zbc (n:=2*t.Links.length) (p:=λq=>!decide (ZjZ a.P (lcmL a.P) a.U (q:Int)>63)) (bad:=.inr (ZpJ,7)) (fin:=.inl ()) (λq hq=>by
       simp only[ZlW];rw[ZaB (x:=2*((List.length t.Links:Nat):Int)) (by omega) (by omega),Zaj (by simp;omega),ZxT (by omega) (by omega) (by omega) h4 hper (q:Int) (by omega),Z8,ZaE (by omega)];by_cases d:ZjZ a.P (lcmL a.P) a.U (q:Int)>63
       ·rw[Zaj (by simpa using d),Zai (by simpa using d)];rfl
       ·rw[Zai (by simpa using d),Zaj (by simpa using d)]) (by
       simp only[ZlW];rw[ZaB (x:=2*((List.length t.Links:Nat):Int)) (by omega) (by omega),Zai (by simp)]) (by omega),Zv1 (λx hx=>by
       have:=h5 x hx;simp only[Zcn,Ze,Zag]at this;omega)]
     cases hf:Zty a.P (lcmL a.P) a.U with
     |true=>rfl
     |false=>
      simp only[Bool.not_false,Zak,Zg,Zah,Z8];obtain⟨o,ho,eo⟩:=ZbD (body:=λx:Bool×Int=>ZlV N (a.late,a.P,a.U) x.1 x.2)
       (λx=>∃k:Nat,x.2=k/\k<=a.U.length/\x.1=ZiO a.P (a.U.take k)) (λx=>(a.U.length-x.2).toNat) (λr=>r=ZiO a.P a.U) (λx hx=>by
        obtain⟨c,i⟩:=x;obtain⟨k,k1,k2,k3⟩:=hx;simp only at k1 k3;subst k1 k3;simp only[ZlV];by_cases c:k<a.U.length
        ·left;obtain⟨a1,a2⟩:=h4 _ (List.getElem_mem c);refine⟨(ZiO a.P (a.U.take (k+1)),((k+1:Nat):Int)),?_,⟨k+1,rfl,by omega,rfl⟩,by simp;omega⟩;have es:ZiO a.P (a.U.take (k+1))=(ZiO a.P (a.U.take k)||decide (a.U[k].Long>perU a.P a.U[k])):=by
          unfold ZiO;rw[ZcW c,List.any_append];simp
         rw[Zaj (by simpa using c),Zbq c];simp only[Z8];rw[ZkD a1 a2,Z8,ZaE (by omega),es];cases ZiO a.P (a.U.take k)with
         |true=>rfl
         |false=>cases decide (a.U[k].Long>perU a.P a.U[k])<;>rfl
        right;obtain rfl:k=a.U.length:=by omega
        exact⟨ZiO a.P a.U,by rw[Zai (by simp),Z3],rfl⟩) N (false,0) ⟨0,rfl,by omega,by simp[ZiO]⟩ (by simp;omega)
      rw[ho,Z8,eo];cases ZiO a.P a.U with
      |true=>rfl
      |false=>cases a.late<;>rfl
    rw[Zai hc,Zai hc];rfl
   rw[Zai hA,Zaj (by simpa using hA)];rfl
end
end Go.Sh
namespace Go.Sh
open Go Go.Eng
section
variable {N:Nat} {t:Zan} {u:Zar} {s:Zal}
theorem ZxC (a:Ac)(x:Zal):∃P' U',(Zf5 t u a x).P=a.P++P'/\(Zf5 t u a x).U=a.U++U':=by
 unfold Zf5;by_cases c:x.Class=7
 ·rw[Zaj c];exact⟨_,_,rfl,rfl⟩
 rw[Zai c];exact⟨[],[],by simp,by simp⟩
theorem Zu1:∀(l:List Zal) (a:Ac),∃P' U',(l.foldl (Zf5 t u) a).P=a.P++P'/\(l.foldl (Zf5 t u) a).U=a.U++U'
 |[],a=>⟨[],[],by simp,by simp⟩
 |x::l,a=>by
  obtain⟨P1,U1,h1,h2⟩:=ZxC (t:=t) (u:=u) a x;obtain⟨P2,U2,h3,h4⟩:=Zu1 l (Zf5 t u a x);exact⟨P1++P2,U1++U2,by rw[Zy,h3,h1,Zs],by rw[Zy,h4,h2,Zs]⟩
theorem Zxl (l:List Zal)(k:Nat):∃P' U',(accA t u l).P=(accA t u (l.take k)).P++P'/\(accA t u l).U=(accA t u (l.take k)).U++U':=by
 unfold accA;have:=Zu1 (t:=t) (u:=u) (l.drop k) ((l.take k).foldl (Zf5 t u) ⟨false,[],[]⟩)
 rwa [←List.foldl_append,List.take_append_drop]at this
theorem Zw7 {a:Ac}(h:errC a=0):lcmL a.P<=960/\ZiO a.P a.U=false/\a.late=false:=by
 unfold errC at h;by_cases c:lcmL a.P<=960
 ·rw[Zaj c]at h;by_cases d:Zty a.P (lcmL a.P) a.U=true
  ·rw[Zaj d]at h;omega
  rw[Zai d]at h;by_cases e:ZiO a.P a.U=true
  ·rw[Zaj e]at h;omega
  rw[Zai e]at h;by_cases f:a.late=true
  ·rw[Zaj f]at h;omega
  exact⟨c,by simpa using e,by simpa using f⟩
 rw[Zai c]at h;omega
theorem Zkq (g:Good t){a:Ac}{n:Nat}(h:AcOK t u n a)(hn:n<=12)(he:errC a=0):Zjp ⟨a.P,a.U⟩=true:=by
 obtain⟨h1,h2,h3,h4,h5,h6,h7⟩:=h;obtain⟨e1,e2,e3⟩:=Zw7 he;refine Zkp.2 ⟨by simp only;omega,by simp only;omega,h3,?_,e1⟩;rw[Zr];intro x hx;have p:=h5 x hx;have hl:=g.l24;simp only[Zcn,Ze,Zag]at p;have w:x.Long<=perU a.P x:=by
  unfold ZiO at e2;rw[List.any_eq_false]at e2;have:=e2 x hx;simp only[Zag]at this;omega
 obtain⟨s1,s2⟩:=h4 x hx;obtain⟨f1,f2⟩:=h6 x hx;obtain⟨l1,_⟩:=h7 x hx;exact ZhE.2 ⟨s1,s2,by omega,by omega,f1,f2,l1,w⟩
end
end Go.Sh
namespace Go.Sh
open Go Go.Eng
section
variable {N:Nat} {p:Zap}
theorem ZzX (hN:2000<=N)(h:VP p){given:List Int}(hg:∀y∈given,0<=y/\y<=1000){x:Int}(h0:0<=x)(h1:x<=1000)(hl:given.length<=12):∃r,Zoz N p given x=some r:=by
 obtain⟨r,hr,_⟩:=ZbD (body:=λy:Int=>ZlS N p given x y) (λy=>∃k:Nat,y=k/\k<=given.length) (λy=>((given.length:Int)-y).toNat) (λ_=>True) (λy hy=>by
   obtain⟨k,rfl,k1⟩:=hy;simp only[ZlS];by_cases c:k<given.length
   ·have q:=hg _ (List.getElem_mem c);rw[Zaj (by simpa using c),Zbq c,Z8,Zlu hN h h0 h1 q.1 q.2,Z8];split
    ·exact .inr ⟨_,rfl,trivial⟩
    exact .inl ⟨_,rfl,⟨k+1,by rw[ZaE (by omega)],by omega⟩,by rw[ZaE (by omega)];omega⟩
   exact .inr ⟨_,by rw[Zai (by simp;omega)],trivial⟩) N 0 ⟨0,rfl,by omega⟩ (by omega)
 unfold Zoz;rw[hr,Z8];cases r with
 |inl _=>
  simp only;rw[Zlu hN h h0 h1 h0 h1,Z8];split<;>exact⟨_,rfl⟩
 |inr q=>exact⟨_,rfl⟩
def Zvf (p:Zap)(l:List Zb3)(r:ZaW):Prop:=(l.length<=r.Proof.length/\r.Proof.length<=41)/\(r.What=1->Zgq p r.Offsets=true)
def ZtS (p:Zap)(given:List Int):Prop:=∀k,k<given.length->offB p k (given.getD k 0)=true
theorem ZtS.le {p:Zap}(h:VP p){given:List Int}(hg:ZtS p given):∀y∈given,0<=y/\y<=1000:=λy hy=>by
 obtain⟨k,hk,rfl⟩:=List.getElem_of_mem hy;have:=ZwN h (hg k hk);rw[Zbv hk]at this;omega
theorem ZtS.snoc {p:Zap}{given:List Int}(hg:ZtS p given){x:Int}(h0:0<=x)(hl:given.length<p.Periods.length)(h1:x<p.Periods[given.length]):ZtS p (given++[x]):=λk hk=>by
 rw[ZM,ZR]at hk;rw[Zz];by_cases c:k<given.length
 ·rw[ZA c,←Zz];exact hg k c
 obtain rfl:k=given.length:=by omega
 rw[ZB (Nat.le_refl _)];refine ZfY.2 ⟨by omega,by omega,by simpa using h0,?_⟩;rw[Zp,Zbv hl];simpa using h1
theorem ZtB (hN:2000<=N)(h:VP p){R:Zap->ZaW->List Int->Int->Option ZaW}{s:ZaW}{given:List Int}(hl:given.length<p.Periods.length)(hs:s.Proof.length<=41)(hw0:s.What=0)(hg:ZtS p given)
  (hR:∀(s':ZaW) (x:Int),s'.Proof.length<=41->s'.What=0->ZtS p (given++[x])->given.length+1<p.Periods.length->∃r,R p s' (given++[x]) 40=some r/\Zvf p s'.Proof r):
  ∃r,ZgJ N R p s given 40=some r/\Zvf p s.Proof r:=by
 unfold ZgJ;by_cases hc:40<(s.Proof.length:Int)
 ·rw[Zaj (by simpa using hc)];exact⟨_,rfl,⟨Nat.le_refl _,hs⟩,λhh=>by simp at hh⟩
 have hP:=h.len;have hper:=h.per _ (List.getElem_mem hl);rw[Zai (by simpa using hc),Zct (by simp;omega) (by omega),Z8];obtain⟨r,hr,e⟩:=ZbD (body:=λx:Int×Int×(List Zde)×(List Zb3)×(List Int)=>ZdM N R p given 40 x.1 x.2.1 x.2.2.1 x.2.2.2.1 x.2.2.2.2)
  (λy=>∃k:Nat,y.1=k/\y.2.1=0/\k<=240/\y.2.2.1.length<=k/\s.Proof.length+1<=y.2.2.2.1.length/\y.2.2.2.1.length<=41)
  (λy=>((241:Int)-y.1).toNat)
  (λr=>(∃b c d,r=.inl (0,b,c,d)/\s.Proof.length+1<=c.length/\c.length<=41)∨∃st,r=.inr st/\Zvf p s.Proof st) (λy hy=>by
   obtain⟨i,wh,arms,pr,of⟩:=y;obtain⟨k,k0,kw,k1,k2,k3,k4⟩:=hy;simp only at k0 kw k2 k3 k4;subst k0 kw;simp only[ZdM];rw[Zbq hl,Z8];by_cases c:(k:Int)<p.Periods[given.length]
   ·rw[Zaj (by simpa using c)];by_cases c1:(((List.length given:Nat):Int)==0&&(k:Int)==1)=true
    ·rw[Zaj c1,ZbE 0 (by omega) (by omega),Z8,Zct (by simp;omega) (by omega),Z8];exact .inr ⟨_,rfl,.inl ⟨_,_,_,rfl,k3,k4⟩⟩
    rw[Zai c1];obtain⟨b,hb⟩:=ZzX hN h (hg.le h) (x:=(k:Int)) (by omega) (by omega) (by omega);have hw:w64 ((k:Int)+1)=((k+1:Nat):Int):=ZaE (by omega);rw[hb,Z8];by_cases c2:(b != -1)=true
    ·rw[Zaj c2];have arm:∃l:List Zde,((((if(decide (((List.length arms:Nat):Int)>0))then((idx arms (w64 (((List.length arms:Nat):Int)-1))).bind λe1038=>(some (e1038.By==b)))else(some false))).bind λ(j1042:Bool)=>(if j1042 then((idx arms (w64 (((List.length arms:Nat):Int)-1))).bind λe1045=>(some (List.set arms (Int.toNat (w64 (((List.length arms:Nat):Int)-1))) (Zde.mk e1045.From (w64 ((k:Int)+1)) e1045.By e1045.Next))))else((appI 32 arms [(Zde.mk (k:Int) (w64 ((k:Int)+1)) b 0)]).bind λl1051=>(some l1051)))))=some l/\l.length<=k+1:=by
      by_cases hn:arms.length=0
      ·obtain rfl:=List.eq_nil_of_length_eq_zero hn;exact⟨[⟨k,w64 ((k:Int)+1),b,0⟩],by simp[Zct],by simp⟩
      have e:w64 (((List.length arms:Nat):Int)-1)=((arms.length-1:Nat):Int):=by rw[ZaB (by omega) (by omega)];omega
      rw[Zaj (by simp;omega),e,Zbq (by omega),Z8,Z8];split
      ·exact⟨_,rfl,by simp;omega⟩
      rw[Zct (by simp;omega) (by omega)];exact⟨_,rfl,by simp;omega⟩
     obtain⟨l,hl1,hl2⟩:=arm;rw[hl1,Z8,hw];exact .inl ⟨_,rfl,⟨k+1,rfl,rfl,by omega,hl2,k3,k4⟩,by simp only;omega⟩
    rw[Zai c2,Zct (by simp;omega) (by omega),Z8,ZY,Zct (by simp;omega) (by omega),Z8];by_cases c3:(((List.length (given++[(k:Int)]):Nat):Int)==((List.length p.Periods:Nat):Int))=true
    ·rw[Zaj c3];have gv:=hg.snoc (x:=(k:Int)) (by omega) hl c;refine .inr ⟨_,rfl,.inr ⟨_,rfl,⟨by simp only;omega,k4⟩,λ_=>?_⟩⟩;unfold Zgq;rw[Zaf (show(given++[(k:Int)]).length=p.Periods.length by simp only[beq_iff_eq]at c3;omega),Zk];exact ZbF.2 gv
    rw[Zai c3,Zct (by simp;omega) (by omega),Z8];simp only[ZM,ZR,beq_iff_eq]at c3;obtain⟨st,hst,⟨s1,s2⟩,s3⟩:=hR ⟨pr,of,0⟩ (k:Int) k4 rfl (hg.snoc (by omega) hl c) (by omega);rw[hst,Z8];simp only at s1;by_cases c4:(st.What !=0)=true
    ·rw[Zaj c4];exact .inr ⟨_,rfl,.inr ⟨_,rfl,⟨by omega,s2⟩,s3⟩⟩
    rw[Zai c4,hw];exact .inl ⟨_,rfl,⟨k+1,rfl,by simpa using c4,by omega,by simp;omega,by simp only;omega,s2⟩,by simp only;omega⟩
   rw[Zai (by simpa using c)];exact .inr ⟨_,rfl,.inl ⟨_,_,_,rfl,k3,k4⟩⟩) N (0,s.What,[],s.Proof++[⟨((List.length given:Nat):Int),[]⟩],s.Offsets) ⟨0,rfl,hw0,by omega,by simp,by simp,by simp;omega⟩ (by simp only;omega)
 rw[hr,Z8];rcases e with⟨b,c,d,rfl,e1,e2⟩|⟨st,rfl,e1⟩
 ·simp only;rw[Zbq (by omega),Z8];exact⟨_,rfl,⟨by simp;omega,by simp;omega⟩,λhh=>by simp at hh⟩
 exact⟨_,rfl,e1⟩
theorem Zre (h:VP p):∀(n M:Nat) (s:ZaW) (given:List Int),given.length+(n+1)=p.Periods.length->2000+n<M->s.Proof.length<=41->s.What=0->ZtS p given->∃r,Zhc M p s given 40=some r/\Zvf p s.Proof r
 |n,0,s,given,_,hM,_,_,_=>by omega
 |n,M+1,s,given,hl,hM,hs,hw,hg=>by
  refine ZtB (N:=M) (by omega) h (by omega) hs hw hg λs' x h1 h2 h3 h4=>?_
  cases n with
  |zero=>omega
  |succ n=>
   refine Zre h n M s' (given++[x]) (by simp;omega) (by omega) h1 h2 h3
theorem Zwb (h:Zjp p=true)(hN:3000<=N):∃r,Zi7 N p 40=some r/\(r.2.2=0->Zgq p r.1=true):=by
 unfold Zi7;rw[Zqy (by omega),h,Z8,Zai (by simp),Zai (by decide)];have hv:=VP.of h;have hl:=hv.len;by_cases c:p.Periods.length=0
 ·rw[Zaj (by simp[c])];exact⟨_,rfl,λ_=>by simp[Zgq,c,allB]⟩
 rw[Zai (by simpa using c)];obtain⟨r,hr,_,h3⟩:=Zre hv (p.Periods.length-1) N ⟨[],[],0⟩ [] (by simp;omega) (by omega) (by simp) rfl (λk hk=>by simp at hk);rw[hr,Z8];split
 ·rename_i h4;exact⟨_,rfl,λ_=>h3 (by simpa using h4)⟩
 split<;>exact⟨_,rfl,λhh=>by simp at hh⟩
end
end Go.Sh

namespace Go.Sh
open Go Go.Eng
theorem ZyB {α β S ρ:Type}(l:List α)(f:β->α->β)(J:Nat->β->Prop)(e:Nat->β->S){body:S->Option (S⊕ρ)}{fin:β->ρ}
  (hstep:∀k (hk:k<l.length) b,J k b->body (e k b)=some (.inl (e (k+1) (f b l[k])))/\J (k+1) (f b l[k])) (hend:∀b,J l.length b->body (e l.length b)=some (.inr (fin b))):
  ∀(n k M:Nat) (b:β),l.length-k=n->k<=l.length->J k b->n<M->ZaI body M (e k b)=some (fin ((l.drop k).foldl f b))/\J l.length ((l.drop k).foldl f b)
 |n,k,0,b,_,_,_,h=>by omega
 |0,k,M+1,b,hn,hk,hJ,h=>by
  obtain rfl:k=l.length:=by omega
  rw[Za1 (hend b hJ),List.drop_length];exact⟨rfl,hJ⟩
 |n+1,k,M+1,b,hn,hk,hJ,h=>by
  obtain⟨h1,h2⟩:=hstep k (by omega) b hJ;rw[Zbw h1,Zhw (show k<l.length by omega),Zy];exact ZyB l f J e hstep hend n (k+1) M _ (by omega) (by omega) h2 (by omega)
theorem Zsb {α β S ρ:Type}(l:List α)(f:β->α->β)(J:Nat->β->Prop)(e:Nat->β->S){body:S->Option (S⊕ρ)}{fin:β->ρ}{N:Nat}{b:β}(hN:l.length<N)(h0:J 0 b)
  (hstep:∀k (hk:k<l.length) b,J k b->body (e k b)=some (.inl (e (k+1) (f b l[k])))/\J (k+1) (f b l[k])) (hend:∀b,J l.length b->body (e l.length b)=some (.inr (fin b))):
  ZaI body N (e 0 b)=some (fin (l.foldl f b))/\J l.length (l.foldl f b):=by
 have:=ZyB l f J e hstep hend l.length 0 N b (by omega) (by omega) h0 hN
 rwa [Zw]at this
theorem ZmJ {α β:Type}(g:α->List β):∀(l:List α) (b:List β),l.foldl (λb a=>b++g a) b=b++l.flatMap g
 |[],b=>by simp
 |a::l,b=>by rw[Zy,ZmJ g l,List.flatMap_cons,Zs]
theorem Zl8 {α β:Type}(g:α->β):∀(l:List α),l.flatMap (λa=>[g a])=l.map g
 |[]=>rfl
 |a::l=>by rw[List.flatMap_cons,Zl8 g l];rfl
section
variable {N:Nat} {t:Zan} {u:Zar} {s:Zal}
structure Tw where
 n:Nat
 s:Zal
 x:Int
 h:ZaQ
def ZsC (t:Zan)(u:Zar)(n:Nat)(s:Zal)(x:Int)(r:List Int):List Tw:=(Ziq t u s r).map (Tw.mk n s x)
def Zn7 (t:Zan)(u:Zar)(n:Nat)(s:Zal)(x:Int):List Tw:=s.Routes.flatMap (ZsC t u n s x)
def Zqh (t:Zan)(u:Zar)(o:List Int)(a:Nat×List Tw)(s:Zal):Nat×List Tw:=if s.Class=7 then(a.1+1,a.2++Zn7 t u a.1 s (o.getD a.1 0))else a
def Zcj (t:Zan)(u:Zar)(l:List Zal)(o:List Int):Nat×List Tw:=l.foldl (Zqh t u o) (0,[])
def synW (u:Zar)(w:Tw):ZaX:=⟨w.h.Port,w.h.Open+w.x*u.Grid,w.h.Long,w.s.Period*u.Grid⟩
def ZhF (u:Zar)(w:Tw):Int:=(w.h.Long+u.Grid-1)/u.Grid
def refW (u:Zar)(w:Tw):ZaN:=⟨w.s.Id,w.h.Port,w.h.Open+w.x*u.Grid,w.s.Period*u.Grid,ZhF u w*u.Grid,w.h.Long⟩
structure TwOK (t:Zan) (u:Zar) (w:Tw):Prop where
 s:SS t w.s
 h:HN u w.h
 port:Zcn t w.h.Port=true
 x1:0<=w.x
 x2:w.x<w.s.Period
 grid:w.h.Open%u.Grid=0
theorem ZwK (hu:Zfr u)(g:Good t)(hs:ZkI s){r:List Int}(hv:ZbG t r=true){h:ZaQ}(hh:h∈Ziq t u s r):h.Open%u.Grid=0:=by
 obtain⟨h1,h8,hp⟩:=Zb1 hv;obtain⟨k,hk,rfl⟩:=List.mem_map.1 hh;rw[ZW]at hk;cases k with
 |zero=>show(0:Int)%u.Grid=0;simp
 |succ k=>show ZnC u _%u.Grid=0;unfold ZnC;exact Int.mul_emod_left _ _
theorem Zrx (g:Good t)(hu:Zfr u)(h:SS t s){n:Nat}{x:Int}(x1:0<=x)(x2:x<s.Period){w:Tw}(hw:w∈Zn7 t u n s x):TwOK t u w:=by
 obtain⟨r,hr,hw⟩:=List.mem_flatMap.1 hw;obtain⟨hh,hm,rfl⟩:=List.mem_map.1 hw;have hs:=Zdg h.str;obtain⟨a,b⟩:=Zsc g hu hs (h.rt r hr) hm;exact⟨h,a,b,x1,x2,ZwK hu g hs (h.rt r hr) hm⟩
theorem mulG {x G:Int}(h0:0<=x)(h1:x<=100000000)(hG:1<=G)(hG2:G<=10000):0<=x*G/\x*G<=1000000000000:=by
 constructor
 ·exact Int.mul_nonneg h0 (by omega)
 calc x*G<=100000000*10000:=Int.mul_le_mul h1 hG2 (by omega) (by omega)
  _=_:=by decide
theorem TwOK.num {w:Tw}(h:TwOK t u w)(hu:Zfr u):(0<=w.x*u.Grid/\w.x*u.Grid<=1000000000000)/\(0<=w.s.Period*u.Grid/\w.s.Period*u.Grid<=2400000)/\(0<=ZhF u w/\ZhF u w<=1552000)/\(0<=ZhF u w*u.Grid/\ZhF u w*u.Grid<=1000000000000):=by
 have p2:=h.s.per2;have p1:=h.s.per1;have x1:=h.x1;have x2:=h.x2;obtain⟨_,_,_,_,l1,l2,_⟩:=h.h;have g1:=hu.g1;have g2:=hu.g2;have hu0:0<=ZhF u w/\ZhF u w<=1552000:=by
  have:=Zeb (a:=w.h.Long+u.Grid-1) (B:=1552000) g1 (by omega) (by omega) (by omega);exact⟨Int.ediv_nonneg (by omega) (by omega),this.2⟩
 refine⟨mulG x1 (by omega) g1 g2,⟨(mulG (by omega) (by omega) g1 g2).1,?_⟩,hu0,mulG hu0.1 (by omega) g1 g2⟩
 calc w.s.Period*u.Grid<=240*10000:=Int.mul_le_mul p2 g2 (by omega) (by omega)
  _=_:=by decide
theorem ZwI {a b:Int}(hb:1<=b)(ha:0<=a)(ha2:a<=1000000000000000):quoI .i64 a b=some (a/b):=by
 rw[Zjo (by omega),Zn ha];show some (w64 (a/b))=_;have h1:=Int.ediv_nonneg ha (show 0<=b by omega);have h2:=Int.ediv_le_self b ha;rw[ZaB (by omega) (by omega)]
theorem Zvm (hu:Zfr u){l:List Zal}{o:List Int}{i n:Nat}(hi:i<l.length)(hn:n<o.length){hs:List ZaQ}(h8:hs.length<=8)(hok:∀h∈hs,TwOK t u ⟨n,l[i],o.getD n 0,h⟩){W:List ZaN}(hW:W.length<=1000)(hN:2000<=N):
  ZaI (λx:Int×(List ZaN)=>ZdB N u l o (n:Int) (i:Int) hs x.1 x.2) N (0,W)=some (W++hs.map λh=>refW u ⟨n,l[i],o.getD n 0,h⟩):=by
 have:=(Zsb (body:=λx:Int×(List ZaN)=>ZdB N u l o (n:Int) (i:Int) hs x.1 x.2) (N:=N) hs (λb h=>b++[refW u ⟨n,l[i],o.getD n 0,h⟩]) (λk b=>b.length<=1000+k) (λk b=>((k:Int),b)) (fin:=id) (b:=W) (by omega) (by simpa using hW) (λk hk b hb=>by
   have ok:=hok _ (List.getElem_mem hk);obtain⟨⟨a1,a2⟩,⟨b1,b2⟩,⟨c1,c2⟩,d1,d2⟩:=ok.num hu;obtain⟨_,_,o1,o2,l1,l2,_⟩:=ok.h;have g1:=hu.g1;have g2:=hu.g2;simp only at a1 a2 b1 b2 o1 o2 l1 l2;refine⟨?_,by simp;omega⟩;simp only[ZdB];rw[Zaj (by simpa using hk),Zbq hk,Z8,ZaB (x:=hs[k].Long+u.Grid) (by omega) (by omega),ZaB (x:=hs[k].Long+u.Grid-1) (by omega) (by omega),ZwI g1 (by omega) (by omega),Z8,Zbq hi,Z8,Z8,Z8,ZbE 0 (by omega) (by omega),Z8,Z8,Z8,Zct (by simp;omega) (by omega),Z8];rw[Zp,ZaB (x:=o.getD n 0*u.Grid) (by omega) (by omega),ZaB (x:=hs[k].Open+o.getD n 0*u.Grid) (by omega) (by omega),ZaB (x:=l[i].Period*u.Grid) (by omega) (by omega),ZaE (by omega)];have e:w64 ((hs[k].Long+u.Grid-1)/u.Grid*u.Grid)=ZhF u ⟨n,l[i],o.getD n 0,hs[k]⟩*u.Grid:=ZaB (x:=ZhF u ⟨n,l[i],o.getD n 0,hs[k]⟩*u.Grid) (by omega) (by omega);rw[e];rfl) (λb hb=>by simp[ZdB])).1
 refine this.trans ?_;rw[ZmJ (λh=>[refW u ⟨n,l[i],o.getD n 0,h⟩]),id,Zl8]
theorem Zvn (hT:ZdW t=true)(hU:Zdi u=true){l:List Zal}{o:List Int}{i n:Nat}(hi:i<l.length)(h:SS t l[i])(hn:n<o.length)(x1:0<=o.getD n 0)(x2:o.getD n 0<l[i].Period){W:List ZaN}(hW:W.length<=900)(hN:30000000<=N):
  ZaI (λx:Int×(List ZaN)=>ZdC N t u l o (n:Int) (i:Int) x.1 x.2) N (0,W)=some (W++(Zn7 t u n l[i] (o.getD n 0)).map (refW u)):=by
 have g:=Za9.1 hT;have hu:=ZbC hU;have hs:=Zdg h.str;have r2:=h.r2;have:=(Zsb (body:=λx:Int×(List ZaN)=>ZdC N t u l o (n:Int) (i:Int) x.1 x.2) (N:=N) l[i].Routes (λb r=>b++(ZsC t u n l[i] (o.getD n 0) r).map (refW u)) (λk b=>b.length<=900+8*k) (λk b=>((k:Int),b)) (fin:=id) (b:=W) (by omega) (by simpa using hW) (λk hk b hb=>by
   have hv:=h.rt _ (List.getElem_mem hk);have h8:=(Zb1 hv).2.1;have hl:((ZsC t u n l[i] (o.getD n 0) l[i].Routes[k]).map (refW u)).length<=8:=by simp[ZsC,Ziq];omega
   refine⟨?_,by rw[ZM];omega⟩;simp only[ZdC];rw[Zbq hi,Z8,Zaj (by simpa using hk),Z8,Z8,Zbq hk,Z8,Zkk g hu hs hv hN,Z8];have e:=Zvm (N:=N) (t:=t) hu (W:=b) hi hn (hs:=Ziq t u l[i] l[i].Routes[k]) (by simp[Ziq];omega) (λh' hh=>Zrx g hu h x1 x2 (List.mem_flatMap.2 ⟨_,List.getElem_mem hk,List.mem_map.2 ⟨h',hh,rfl⟩⟩)) (by omega) (by omega);unfold Ziq at e;rw[e,Z8,ZaE (by omega)];simp[ZsC,Ziq,Function.comp_def]) (λb hb=>by
   simp only[ZdC];rw[Zbq hi,Z8,Zai (by simp)];rfl)).1
 refine this.trans ?_;rw[ZmJ,id];unfold Zn7;rw[List.map_flatMap]
theorem ZsB (o:List Int):∀(l:List Zal) (a:Nat×List Tw) (b:Ac),a.1=b.P.length->(l.foldl (Zqh t u o) a).1=(l.foldl (Zf5 t u) b).P.length
 |[],a,b,h=>h
 |s::l,a,b,h=>by
  rw[Zy,Zy];refine ZsB o l _ _ ?_;unfold Zqh Zf5;by_cases c:s.Class=7
  ·rw[Zaj c,Zaj c];simp[h]
  rw[Zai c,Zai c];exact h
theorem ZoO (l:List Zal)(o:List Int):(Zcj t u l o).1=(accA t u l).P.length:=ZsB o l _ _ rfl
theorem ZkK (l:List Zal)(o:List Int)(k:Nat)(hk:k<l.length):Zcj t u (l.take (k+1)) o=Zqh t u o (Zcj t u (l.take k) o) l[k]:=by
 unfold Zcj;rw[ZcW hk,List.foldl_append];rfl
theorem ZwO {l:List Zal}{k:Nat}(hk:k<l.length)(hc:l[k].Class=7){o:List Int}(ho:Zgq ⟨(accA t u l).P,(accA t u l).U⟩ o=true):
  (Zcj t u (l.take k) o).1<o.length/\0<=o.getD (Zcj t u (l.take k) o).1 0/\o.getD (Zcj t u (l.take k) o).1 0<l[k].Period:=by
 obtain⟨h1,h2⟩:=ZuN ho;simp only at h1;obtain⟨P',U',p1,_⟩:=Zxl (t:=t) (u:=u) l (k+1);rw[ZmS l k hk]at p1;unfold Zf5 at p1;rw[Zaj hc]at p1;simp only at p1;rw[ZoO];obtain⟨A,eA⟩:∃A,A=(accA t u (l.take k)).P:=⟨_,rfl⟩;rw[←eA]at p1⊢;have hlt:A.length<o.length:=by rw[h1,p1];simp
 have h3:=ZfY.1 (h2 _ hlt);obtain⟨_,_,a,b⟩:=h3;refine⟨hlt,a,?_⟩;simp only[Zp]at b;rw[p1]at b;have e:(A++[l[k].Period]++P').getD A.length 0=l[k].Period:=by
  rw[Zs,Zz,ZB (Nat.le_refl _)];simp
 rwa [e]at b
theorem Zmd (g:Good t)(hu:Zfr u){l:List Zal}(hl:∀x∈l,Zbk t x=true){o:List Int}(ho:Zgq ⟨(accA t u l).P,(accA t u l).U⟩ o=true):∀k,k<=l.length->(∀w∈(Zcj t u (l.take k) o).2,TwOK t u w)/\(Zcj t u (l.take k) o).2.length<=16*k
 |0,_=>by simp[Zcj]
 |k+1,hk=>by
  obtain⟨ih,ih2⟩:=Zmd g hu hl ho k (by omega);rw[ZkK l o k (by omega)];unfold Zqh;by_cases c:l[k].Class=7
  ·rw[Zaj c];obtain⟨h1,h2,h3⟩:=ZwO (by omega) c ho;have hs:=SS.of (hl _ (List.getElem_mem (show k<l.length by omega))) c;have r2:=hs.r2;refine⟨λw hw=>?_,?_⟩
   ·rcases List.mem_append.1 hw with hw|hw
    ·exact ih w hw
    exact Zrx g hu hs h2 h3 hw
   have:=ZmK (ZsC t u (Zcj t u (l.take k) o).1 l[k] (o.getD (Zcj t u (l.take k) o).1 0)) (B:=8) l[k].Routes λr hr=>by
    have:=(Zb1 (hs.rt r hr)).2.1;simp[ZsC,Ziq];omega
   rw[ZM];unfold Zn7;omega
  rw[Zai c];exact⟨ih,by omega⟩
theorem ZjP (hT:ZdW t=true)(hU:Zdi u=true){l:List Zal}(hl:∀x∈l,Zbk t x=true)(h12:l.length<=12){o:List Int}(ho:Zgq ⟨(accA t u l).P,(accA t u l).U⟩ o=true)(hN:30000000<=N):
  Zff N t u l o=some ((Zcj t u l o).2.map (refW u)):=by
 have g:=Za9.1 hT;have hu:=ZbC hU;unfold Zff;obtain⟨r,hr,er⟩:=ZbD (body:=λx:Int×Int×(List ZaN)=>Zgm N t u l o x.1 x.2.1 x.2.2)
  (λx=>∃k:Nat,x=(((Zcj t u (l.take k) o).1:Int),(k:Int),(Zcj t u (l.take k) o).2.map (refW u))/\k<=l.length) (λx=>(l.length-x.2.1).toNat)
  (λr=>r=(Zcj t u l o).2.map (refW u)) (λx hx=>by
   obtain⟨k,rfl,hk⟩:=hx;simp only[Zgm];by_cases c:k<l.length
   ·left;refine⟨(((Zcj t u (l.take (k+1)) o).1:Int),((k+1:Nat):Int),(Zcj t u (l.take (k+1)) o).2.map (refW u)),?_,⟨k+1,rfl,by omega⟩,by simp only;omega⟩;have hlen:=(Zmd g hu hl ho k hk).2;rw[Zaj (by simpa using c),Zbq c,Z8,ZaE (n:=k) (by omega),ZkK l o k c];unfold Zqh;by_cases hc:l[k].Class=7
    ·obtain⟨h1,h2,h3⟩:=ZwO c hc ho;have hs:=SS.of (hl _ (List.getElem_mem c)) hc;rw[Zai (by simpa using hc),Zaj hc,Zvn hT hU c hs h1 h2 h3 (by rw[ZO];omega) hN,Z8,Z8,ZT];have h7:=ZoO (t:=t) (u:=u) (l.take k) o;have h8:=(Zhz (t:=t) (u:=u) g hu (l:=l.take k) λx hx=>hl x (List.mem_of_mem_take hx)).pl;rw[ZS]at h8;rw[ZaE (n:=(Zcj t u (l.take k) o).1) (by omega)]
    rw[Zaj (by simpa using hc),Zai hc,Z8]
   right;obtain rfl:k=l.length:=by omega
   rw[Zai (by simp),Z3];exact⟨_,rfl,rfl⟩) N (0,0,[]) ⟨0,by simp[Zcj],by omega⟩ (by simp only;omega)
 rw[hr,er];rfl
variable {σ:Type} {y:σ->ZaX->Option (σ×Bool)} {F:σ->Tw->σ} {J:σ->Prop} {W:List Tw}
theorem ZqT (o:List Int):∀(l:List Zal) (a:Nat×List Tw) (w:Tw),w∈a.2->w∈(l.foldl (Zqh t u o) a).2
 |[],a,w,h=>h
 |s::l,a,w,h=>by
  rw[Zy];refine ZqT o l _ w ?_;unfold Zqh;split
  ·exact List.mem_append_left _ h
  exact h
theorem Zwq (l:List Zal)(o:List Int)(k:Nat){w:Tw}(h:w∈(Zcj t u (l.take k) o).2):w∈(Zcj t u l o).2:=by
 have:=ZqT (t:=t) (u:=u) o (l.drop k) _ w h;unfold Zcj at this⊢
 rwa [←List.foldl_append,List.take_append_drop]at this
end
end Go.Sh

namespace Go.Sh
open Go Go.Eng
section
variable {N:Nat} {t:Zan} {u:Zar} {s:Zal}
def hitW (u:Zar)(w:Tw)(i:Nat):Bool:=decide (((i:Int)-(w.h.Open/u.Grid+w.x))%w.s.Period<ZhF u w)
def e00:Zaw:=⟨0,0⟩
def Zfs (l:List Zaw):Zaw:=l.getD (l.length-1) e00
def addE (G:Int)(l:List Zaw)(m:Int):List Zaw:=if l≠[]/\(Zfs l).Mask=m then l.set (l.length-1) ⟨(Zfs l).Mask,(Zfs l).Long+G⟩else l++[⟨m,G⟩]
def ZhB (b:Bool):Int:=if b=true then 128 else 127
def Zql (G:Int)(row:List Bool):List Zaw:=row.foldl (λl b=>addE G l (ZhB b)) []
theorem ZtO {G:Int}(l:List Zaw)(m:Int):addE G l m≠[]/\(Zfs (addE G l m)).Mask=m/\(addE G l m).length<=l.length+1/\(0<=(Zfs l).Long->0<=G->0<=(Zfs (addE G l m)).Long/\(Zfs (addE G l m)).Long<=(Zfs l).Long+G):=by
 unfold addE;split
 ·rename_i h;have hl:l.length-1<l.length:=by have:=List.length_pos_iff.2 h.1;omega
  have e:Zfs (l.set (l.length-1) ⟨(Zfs l).Mask,(Zfs l).Long+G⟩)=⟨(Zfs l).Mask,(Zfs l).Long+G⟩:=by
   unfold Zfs;rw[List.length_set,Zbv (by simpa using hl),List.getElem_set_self]
  rw[e];refine⟨λh'=>h.1 (by simpa using h'),h.2,by simp,λa b=>?_⟩;simp only;omega
 have e:Zfs (l++[⟨m,G⟩])=⟨m,G⟩:=by simp[Zfs]
 rw[e];refine⟨by simp,rfl,by simp,λa b=>?_⟩;simp only;omega
theorem Zyo {G m:Int}{l:List Zaw}(hl:l.length<=1000)(h1:0<=(Zfs l).Long)(h2:(Zfs l).Long<=100000000)(g1:0<=G)(g2:G<=10000){c:Bool}(hc:c=true↔l≠[]/\(Zfs l).Mask=m):
  (if c=true then((idx l (w64 (((List.length l:Nat):Int)-1))).bind λe1=>((idx l (w64 (((List.length l:Nat):Int)-1))).bind λe2=>(some (List.set l (Int.toNat (w64 (((List.length l:Nat):Int)-1))) (Zaw.mk e2.Mask (w64 (e1.Long+G)))))))else((appI 16 l [(Zaw.mk m G)]).bind λl1=>(some l1)))=some (addE G l m):=by
 unfold addE;by_cases d:l≠[]/\(Zfs l).Mask=m
 ·rw[Zaj (hc.2 d),Zaj d];have h0:0<l.length:=List.length_pos_iff.2 d.1;have e:w64 (((List.length l:Nat):Int)-1)=((l.length-1:Nat):Int):=by rw[ZaB (by omega) (by omega)];omega
  have e2:l[l.length-1]'(by omega)=Zfs l:=(Zbv (by omega) e00).symm;rw[e,Zbq (by omega),Z8,Z8,Zp,e2,ZaB (by omega) (by omega)]
 rw[Zai (λh=>d (hc.1 h)),Zai d,Zct (by simp;omega) (by omega),Z8]
theorem ZrO {W:List ZaN}{q:Int}{C:Nat}(hC:C<=960){G:Int}(g1:1<=G)(g2:G<=10000){F:Nat->Bool}(hF:∀i:Nat,i<C->Zml N W q ((i:Int)*G)=some (F i))(hN:2000<=N):
  ZkP N W q (C:Int) G=some ⟨Zql G ((List.range C).map F),(C:Int)*G⟩:=by
 unfold ZkP;have:=(Zsb (body:=λx:Int×(List Zaw)=>ZgI N W q (C:Int) G x.1 x.2) (N:=N) (List.range C) (λl i=>addE G l (ZhB (F i))) (λk l=>l.length<=k/\0<=(Zfs l).Long/\(Zfs l).Long<=k*10000) (λk l=>((k:Int),l)) (fin:=id) (b:=[]) (by rw[ZQ];omega) (by simp[Zfs,e00]) (λk hk l hx=>by
   obtain⟨j1,j4,j5⟩:=hx;rw[ZQ]at hk;rw[List.getElem_range];obtain⟨n1,n2,n3,n4⟩:=ZtO (G:=G) l (ZhB (F k));obtain⟨n5,n6⟩:=n4 j4 (by omega);refine⟨?_,by omega,n5,by omega⟩;simp only[ZgI];obtain⟨m1,m2⟩:=mulG (x:=(k:Int)) (by omega) (by omega) g1 g2;have hm:(if F k=true then(some 128)else(some 127))=some (ZhB (F k)):=by unfold ZhB;cases F k<;>rfl
   rw[Zaj (by simpa using hk),ZaB (x:=(k:Int)*G) (by omega) (by omega),hF k hk,Z8,hm,Z8];have hcond:∃c,(if(decide (((List.length l:Nat):Int)>0))=true then((idx l (w64 (((List.length l:Nat):Int)-1))).bind λe1516=>(some (e1516.Mask==ZhB (F k))))else(some false))=some c/\(c=true↔l≠[]/\(Zfs l).Mask=ZhB (F k)):=by
    by_cases hn:l=[]
    ·subst hn;exact⟨false,by simp,by simp⟩
    have h0:0<l.length:=List.length_pos_iff.2 hn;have e:w64 (((List.length l:Nat):Int)-1)=((l.length-1:Nat):Int):=by rw[ZaB (by omega) (by omega)];omega
    refine⟨(Zfs l).Mask==ZhB (F k),?_,by simp[hn]⟩;rw[Zaj (by simpa using h0),e,Zbq (by omega),Z8,←Zbv (show l.length-1<l.length by omega) e00];rfl
   obtain⟨c,c1,c2⟩:=hcond;rw[c1,Z8,Zyo (by omega) j4 (by omega) (by omega) g2 c2,Z8,ZaE (by omega)]) (λx hx=>by simp[ZgI])).1
 rw[show((0:Nat):Int)=0 from rfl]at this;rw[this,Z8];obtain⟨m1,m2⟩:=mulG (x:=(C:Int)) (by omega) (by omega) g1 g2;rw[ZaB (by omega) (by omega)];unfold Zql;rw[List.foldl_map];rfl
theorem Zxr {a b:Int}(hb:1<=b)(hb2:b<=9600000):ZeG N a b=some (a%b):=by
 unfold ZeG;have h1:=Int.lt_tmod_of_pos a (show 0<b by omega);have h2:=Int.tmod_lt_of_pos a (show 0<b by omega);rw[ZcK (by omega),Z8];have h3:=Zmf (a:=a) (b:=b) (by omega);by_cases h:a.tmod b<0
 ·rw[Zaj (by simp[h]),Z8,ZaB (by omega) (by omega),←h3]
  congr 1
  exact(Int.tmod_eq_of_lt (by omega) (by omega)).symm
 rw[Zai (by simp[h]),Z8,←h3]
 congr 1
 have:(a.tmod b+b).tmod b=(a.tmod b+b)%b:=Zo (by omega);rw[this,Int.add_emod_right,Int.emod_eq_of_lt (by omega) (by omega)]
def Zvq (u:Zar)(ws:List Tw)(p i:Nat):Bool:=ws.any λw=>decide ((p:Int)=w.h.Port)&&hitW u w i
theorem ZL5 (hu:Zfr u){w:Tw}(ok:TwOK t u w){i:Nat}(hi:i<=960):decide (((i:Int)*u.Grid-(w.h.Open+w.x*u.Grid))%(w.s.Period*u.Grid)<ZhF u w*u.Grid)=hitW u w i:=by
 have g1:=hu.g1;have hop:=Int.mul_ediv_add_emod w.h.Open u.Grid;rw[ok.grid]at hop;have e:(i:Int)*u.Grid-(w.h.Open+w.x*u.Grid)=((i:Int)-(w.h.Open/u.Grid+w.x))*u.Grid:=by
  rw[Int.sub_mul,Zl,Zm (w.h.Open/u.Grid)];omega
 rw[e,Zm _ u.Grid,Zm w.s.Period,Zm (ZhF u w),Int.mul_emod_mul_of_pos _ _ (by omega)];unfold hitW;refine decide_eq_decide.2 ⟨λh=>Int.lt_of_mul_lt_mul_left h (by omega),λh=>Int.mul_lt_mul_of_pos_left h (by omega)⟩
theorem Zt2 (hu:Zfr u){ws:List Tw}(hw:∀w∈ws,TwOK t u w)(hl:ws.length<=1000){q i:Nat}(hi:i<=960)(hN:2000<=N):Zml N (ws.map (refW u)) (q:Int) ((i:Int)*u.Grid)=some (Zvq u ws q i):=by
 unfold Zml;have g1:=hu.g1;have g2:=hu.g2;rw[Zdc (l:=ws) (p:=λw=>!(decide ((q:Int)=w.h.Port)&&hitW u w i)) (bad:=.inr true) (fin:=.inl ()) (λk hk=>by
  have ok:=hw _ (List.getElem_mem hk);obtain⟨⟨a1,a2⟩,⟨b1,b2⟩,⟨c1,c2⟩,d1,d2⟩:=ok.num hu;obtain⟨_,_,o1,o2,l1,l2,_⟩:=ok.h;obtain⟨m1,m2⟩:=mulG (x:=(i:Int)) (by omega) (by omega) g1 g2;have p1:=ok.s.per1;simp only[ZlR];have hk':k<(ws.map (refW u)).length:=by simpa using hk
  have hP:1<=ws[k].s.Period*u.Grid:=by
   calc (1:Int)<=1*u.Grid:=by omega
    _<=_:=Int.mul_le_mul_of_nonneg_right p1 (by omega)
  rw[Zaj (by simpa using hk),Zbq hk',Z8,List.getElem_map];by_cases c:(q:Int)=ws[k].h.Port
  ·have c':((refW u ws[k]).Port==(q:Int))=true:=by simp[refW,c]
   rw[Zaj c'];simp only[refW,Z8];rw[ZaB (x:=(i:Int)*u.Grid-(ws[k].h.Open+ws[k].x*u.Grid)) (by omega) (by omega),Zxr hP (by omega),Z8,Z8,ZL5 hu ok hi,Zaf c,Zk,ZaE (by omega)];cases hitW u ws[k] i<;>rfl
  have c':¬((refW u ws[k]).Port==(q:Int))=true:=by simp[refW,Ne.symm c]
  rw[Zai c',Z8,Zai (by simp),decide_eq_false c,Bool.false_and,ZaE (by omega)];rfl) (by simp[ZlR]) (by omega),Z8]
 unfold Zvq;rw[List.all_eq_not_any_not];simp only[Bool.not_not];cases (ws.any λw=>decide ((q:Int)=w.h.Port)&&hitW u w i)<;>rfl
end
end Go.Sh

namespace Go.Sh
open Go Go.Eng
section
variable {N:Nat} {t:Zan} {u:Zar} {s:Zal}
def ZyD (t:Zan)(u:Zar)(ws:List Tw)(C:Nat):List Zas:=(List.range (2*t.Links.length)).map λp=>⟨Zql u.Grid ((List.range C).map (Zvq u ws p)),(C:Int)*u.Grid⟩
theorem ZmG {l:List Zal}(h:(ofS t u l).2=0):ZdW t=true/\Zdi u=true/\allR t l=0/\errC (accA t u l)=0/\ofS t u l=(⟨(accA t u l).P,(accA t u l).U⟩,0):=by
 unfold ofS at h⊢;split at h
 ·rename_i h1;split at h
  ·rename_i h2;split at h
   ·rename_i h3;split at h
    ·rename_i h4;exact⟨h1,h2,h3,h4,by rw[Zaj h1,Zaj h2,Zaj h3,Zaj h4]⟩
    rename_i h4;exact absurd h h4
   rename_i h3;exact absurd h h3
  simp at h
 simp at h
theorem Zua (g:Good t)(hu:Zfr u){l:List Zal}(hl:∀x∈l,Zbk t x=true){o:List Int}:∀k,k<=l.length->∀w∈(Zcj t u (l.take k) o).2,w.s.Period∈(accA t u l).P
 |0,_=>by simp[Zcj]
 |k+1,hk=>by
  intro w hw;rw[ZkK l o k (by omega)]at hw;unfold Zqh at hw;by_cases c:l[k].Class=7
  ·rw[Zaj c]at hw;rcases List.mem_append.1 hw with hw|hw
   ·exact Zua g hu hl k (by omega) w hw
   obtain⟨P',U',p1,_⟩:=Zxl (t:=t) (u:=u) l (k+1);rw[ZmS l k (by omega)]at p1;unfold Zf5 at p1;rw[Zaj c]at p1;obtain⟨r,hr,hw⟩:=List.mem_flatMap.1 hw;obtain⟨hh,hm,rfl⟩:=List.mem_map.1 hw;rw[p1];simp
  rw[Zai c]at hw;exact Zua g hu hl k (by omega) w hw
theorem ZsY (hT:ZdW t=true)(hU:Zdi u=true){l:List Zal}(hl:∀x∈l,Zbk t x=true)(h12:l.length<=12){o:List Int}(ho:Zgq ⟨(accA t u l).P,(accA t u l).U⟩ o=true){C:Nat}(hC:C<=960)(hN:30000000<=N):Zkf N t u l o (C:Int)=some (ZyD t u (Zcj t u l o).2 C):=by
 have hN2:2000<=N:=by omega
 have g:=Za9.1 hT;have hu:=ZbC hU;have h24:=g.l24;have g1:=hu.g1;have g2:=hu.g2;have tok:=Zmd (t:=t) (u:=u) g hu hl ho l.length (Nat.le_refl _);rw[Z3]at tok;unfold Zkf;rw[ZjP hT hU hl h12 ho hN,Z8];have lp:=(Zsb (body:=λx:Int×(List Zas)=>ZhT N t u (C:Int) ((Zcj t u l o).2.map (refW u)) x.1 x.2) (N:=N) (List.range (2*t.Links.length)) (λb p=>b++[(⟨Zql u.Grid ((List.range C).map (Zvq u (Zcj t u l o).2 p)),(C:Int)*u.Grid⟩:Zas)]) (λk b=>b.length<=k) (λk b=>((k:Int),b)) (fin:=id) (b:=[]) (by rw[ZQ];omega) (by simp) (λk hk b hb=>by
  rw[ZQ]at hk;refine⟨?_,by simp;omega⟩;simp only[ZhT,List.getElem_range];rw[ZaB (x:=2*((List.length t.Links:Nat):Int)) (by omega) (by omega),Zaj (by simp;omega),ZrO hC g1 g2 (λi hi=>Zt2 hu tok.1 (by omega) (by omega) hN2) hN2,Z8,Zct (by simp;omega) (by omega),Z8,ZaE (by omega)]) (λb hb=>by
  simp only[ZhT,ZQ];rw[ZaB (x:=2*((List.length t.Links:Nat):Int)) (by omega) (by omega),Zai (by simp)];rfl)).1
 rw[show((0:Nat):Int)=0 from rfl]at lp;rw[lp,ZmJ,Zl8];rfl
theorem ZuH (G:Int):∀(row:List Bool) (l:List Zaw),(row.foldl (λl b=>addE G l (ZhB b)) l).length<=l.length+row.length
 |[],l=>by simp
 |b::row,l=>by
  have h1:=ZuH G row (addE G l (ZhB b));have h2:=(ZtO (G:=G) l (ZhB b)).2.2.1;rw[Zy,ZN];omega
theorem Zvl (n:Nat):Zjz (n+1000)=some true:=by kernel_rfl
theorem ZyJ (hN:2000<=N):Zjz N=some true:=by
 have:=Zvl (N-1000)
 rwa [show N-1000+1000=N by omega]at this
theorem ZwU {c:Zfz}(hc:ZjK c)(hN:30000000+c.L.length<=N):∃t u l o,Zfo N c=some (t,u,l,o)/\((ofS t u l).2=0->Zgq (ofS t u l).1 o=true):=by
 obtain⟨hd,hl,hw,⟨_,hs⟩,_⟩:=hc;obtain⟨t,t1,t2,t3⟩:=Zv3 (N:=N) (DOK.of hd) (by omega);obtain⟨u,u1,u2⟩:=Zms (N:=N) (Zew hw.1) (Zew hw.2.1) (Zew hw.2.2);obtain⟨l,s1,s2⟩:=Zmr (N:=N) t2 t3 (λd hd=>SDOK.of (hl.2 d hd)) hl.1 (by omega);have hN2:2000<=N:=by omega
 unfold Zfo;rw[t1,Z8,u1,Z8,s1,Z8,ZlU _ (by omega),Z8];by_cases h0:(ofS t u l).2=0
 ·obtain⟨hT,hU,hA,he,hof⟩:=ZmG h0;obtain⟨h12,hl'⟩:=Zma hA;have hp:Zjp (ofS t u l).1=true:=by rw[hof];exact Zkq t2 (Zhz t2 (ZbC hU) hl') h12 he
  obtain⟨q,hq,hq2⟩:=Zmn hN2 (VP.of hp) hs;rw[Zai (by simp[h0]),hq];obtain⟨r,hr,hr2⟩:=Zwb (N:=N) hp (by omega);rw[hr];cases c.Find with
  |false=>exact⟨_,_,_,_,rfl,λ_=>hq2⟩
  |true=>
   rw[Zaj rfl,Z8];split
   ·rename_i h4;exact⟨_,_,_,_,rfl,λ_=>hr2 (by simpa using h4)⟩
   exact⟨_,_,_,_,rfl,λ_=>hq2⟩
 rw[Zaj (by simpa using h0)];exact⟨_,_,_,_,rfl,λhh=>absurd hh h0⟩
end
end Go.Sh

namespace Go.Sh
open Go Go.Eng
theorem Zuq (n:Nat)(q:Nat->Bool):(List.range (n+1)).countP q=(List.range n).countP q+(if q n=true then 1 else 0):=by
 rw[List.range_succ,List.countP_append];simp[List.countP_cons]
end Go.Sh
namespace Go.Sh
open Go Go.Eng
def okE (e:Zaw):Bool:=!((decide (e.Mask<0))||((decide (e.Mask>255))||((decide (e.Long<1))||(decide (e.Long>9600000)))))
theorem Zgp {e:Zaw}:okE e=true↔0<=e.Mask/\e.Mask<=255/\1<=e.Long/\e.Long<=9600000:=by
 unfold okE;simp only[Zh,Bool.or_eq_false_iff,decide_eq_false_iff_not];omega
def sumL:List Zaw->Int
 |[]=>0
 |e::l=>e.Long+sumL l
theorem ZdY (a b:List Zaw):sumL (a++b)=sumL a+sumL b:=by
 induction a with
 |nil=>simp[sumL]
 |cons e a ih=>simp only[Zu,sumL,ih];omega
theorem ZeY {l:List Zaw}(h:∀e∈l,okE e=true):(l.length:Int)<=sumL l/\sumL l<=9600000*l.length:=by
 induction l with
 |nil=>simp[sumL]
 |cons e l ih=>
  have h1:=Zgp.1 (h e (by simp));have h2:=ih λx hx=>h x (by simp[hx])
  simp only[sumL,ZN];omega
def VG (g:Zas):Prop:=1<=g.Entries.length/\g.Entries.length<=128/\(g.Entries.all okE=true)/\sumL g.Entries=g.Cycle/\g.Cycle<=9600000
instance (g:Zas):Decidable (VG g):=by unfold VG;infer_instance
theorem VG.ok {g:Zas}(h:VG g):∀e∈g.Entries,okE e=true:=List.all_eq_true.1 h.2.2.1
theorem Zv4 (N:Nat)(g:Zas)(hl:g.Entries.length<=128):∀(n M k:Nat) (s:Int),g.Entries.length-k=n->k<=g.Entries.length->n<M->0<=s->s<=9600000*k→
  ZaI (λx:Int×Int=>ZeL N g x.1 x.2) M (s,(k:Int))=some (if(g.Entries.drop k).all okE then .inl (s+sumL (g.Entries.drop k))else .inr 370):=by
 intro n;induction n with
 |zero=>
  intro M k s hn hk hM h0 h1;have:k=g.Entries.length:=by omega
  subst this;cases M with
  |zero=>omega
  |succ M=>rw[Za1 (r:=.inl s) (by simp[ZeL])];simp[sumL]
 |succ n ih=>
  intro M k s hn hk hM h0 h1;cases M with
  |zero=>omega
  |succ M=>
   have hlt:k<g.Entries.length:=by omega
   rw[Zhw hlt,List.all_cons];have hbody:ZeL N g s (k:Int)=if okE g.Entries[k]=true then some (.inl (w64 (s+g.Entries[k].Long),((k+1:Nat):Int)))else some (.inr (.inr 370)):=by
    simp only[ZeL];rw[Zaj (by simpa using hlt),Zhs,ZF hlt,Z8,ZaB (x:=(k:Int)+1) (by omega) (by omega)];unfold okE;cases ((decide (g.Entries[k].Mask<0))||((decide (g.Entries[k].Mask>255))||((decide (g.Entries[k].Long<1))||(decide (g.Entries[k].Long>9600000)))))<;>simp
   by_cases ho:okE g.Entries[k]=true
   ·have hb:=Zgp.1 ho;rw[Zbw (by rw[hbody,Zaj ho]),ZaB (by omega) (by omega),ih M (k+1) _ (by omega) (by omega) (by omega) (by omega) (by omega)];simp only[ho,Zk,sumL,Int.add_assoc]
   rw[Za1 (by rw[hbody,Zai ho])];simp[ho]
theorem ZlJ {N:Nat}(hN:200<=N)(g:Zas):Zhu N g=some (if VG g then 0 else 370):=by
 unfold Zhu;by_cases h:1<=g.Entries.length/\g.Entries.length<=128
 ·rw[Zai (by simp only[Zj,Zag];omega)];have:=Zv4 N g h.2 g.Entries.length N 0 0 (by omega) (by omega) (by omega) (by omega) (by omega);rw[show((0:Nat):Int)=0 from rfl,Zw,Int.zero_add]at this;rw[this,Z8];by_cases ha:g.Entries.all okE=true
  ·simp only[ha,Zak];by_cases hs:sumL g.Entries=g.Cycle/\g.Cycle<=9600000
   ·rw[Zaj (show VG g from⟨h.1,h.2,ha,hs.1,hs.2⟩),Zai (by simp only[Zj,bne_iff_ne,Zag];omega)]
   rw[Zai (show ¬VG g from λhv=>hs ⟨hv.2.2.2.1,hv.2.2.2.2⟩),Zaj (by simp only[Zj,bne_iff_ne,Zag];omega)]
  rw[Zai (show ¬VG g from λhv=>ha hv.2.2.1)];simp only[ha,Zg,Zah]
 rw[Zaj (by simp only[Zj,Zag];omega),Zai (show ¬VG g from λhv=>h ⟨hv.1,hv.2.1⟩)]
theorem Zvz (N:Nat)(g:Zas)(hl:g.Entries.length<=128):∀(n M k:Nat) (s:Int),g.Entries.length-k=n->k<=g.Entries.length->n<M->0<=s->s<=9600000*k→
  ZaI (λx:Int×Int=>ZeE N g x.1 x.2) M (s,(k:Int))=some (if(g.Entries.drop k).all okE then .inl (s+sumL (g.Entries.drop k))else .inr false):=by
 intro n;induction n with
 |zero=>
  intro M k s hn hk hM h0 h1;have:k=g.Entries.length:=by omega
  subst this;cases M with
  |zero=>omega
  |succ M=>rw[Za1 (r:=.inl s) (by simp[ZeE])];simp[sumL]
 |succ n ih=>
  intro M k s hn hk hM h0 h1;cases M with
  |zero=>omega
  |succ M=>
   have hlt:k<g.Entries.length:=by omega
   rw[Zhw hlt,List.all_cons];have hbody:ZeE N g s (k:Int)=if okE g.Entries[k]=true then some (.inl (w64 (s+g.Entries[k].Long),((k+1:Nat):Int)))else some (.inr (.inr false)):=by
    simp only[ZeE];rw[Zaj (by simpa using hlt),Zhs,ZF hlt,Z8,ZaB (x:=(k:Int)+1) (by omega) (by omega)];unfold okE;cases ((decide (g.Entries[k].Mask<0))||((decide (g.Entries[k].Mask>255))||((decide (g.Entries[k].Long<1))||(decide (g.Entries[k].Long>9600000)))))<;>simp
   by_cases ho:okE g.Entries[k]=true
   ·have hb:=Zgp.1 ho;rw[Zbw (by rw[hbody,Zaj ho]),ZaB (by omega) (by omega),ih M (k+1) _ (by omega) (by omega) (by omega) (by omega) (by omega)];simp only[ho,Zk,sumL,Int.add_assoc]
   rw[Za1 (by rw[hbody,Zai ho])];simp[ho]
theorem Zqv {N:Nat}(hN:200<=N)(g:Zas):Zi5 N g=some (decide (VG g)):=by
 unfold Zi5;by_cases h:1<=g.Entries.length/\g.Entries.length<=128
 ·rw[Zai (by simp only[Zj,Zag];omega)];have:=Zvz N g h.2 g.Entries.length N 0 0 (by omega) (by omega) (by omega) (by omega) (by omega);rw[show((0:Nat):Int)=0 from rfl,Zw,Int.zero_add]at this;rw[this,Z8];by_cases ha:g.Entries.all okE=true
  ·simp only[ha,Zak]
   congr 1
   rw[Zf,decide_eq_true_iff];simp only[Ze,beq_iff_eq,Zag,VG,h.1,h.2,ha,true_and];omega
  simp only[ha,Zg,Zah]
  congr 1
  symm;rw[decide_eq_false_iff_not];exact λhv=>ha hv.2.2.1
 rw[Zaj (by simp only[Zj,Zag];omega)]
 congr 1
 symm;rw[decide_eq_false_iff_not];exact λhv=>h ⟨hv.1,hv.2.1⟩
def errS (g:Zas)(c t l:Int):Int:=if VG g then(if 0<=c/\c<=7∧ -1099511627776<=t/\t<=1099511627776/\0<=l/\l<=1099511627776 then 0 else 2)else 370
theorem ZlH {N:Nat}(hN:200<=N)(g:Zas)(c t l:Int):Zht N g c t l=some (errS g c t l):=by
 unfold Zht errS;rw[ZlJ hN,Z8];by_cases h:VG g
 ·simp only[h,Zak,Zae,Zg,Zah];by_cases hc:0<=c/\c<=7∧ -1099511627776<=t/\t<=1099511627776/\0<=l/\l<=1099511627776
  ·rw[Zaj hc,Zai (by simp only[Zj,Zag];omega)]
  rw[Zai hc,Zaj (by simp only[Zj,Zag];omega)]
 simp[h]
def AtE (E:List Zaw)(t:Int)(i:Nat)(e:Zaw)(s:Int):Prop:=E[i]?=some e/\0<=s/\s<e.Long/\t%sumL E=sumL (E.take i)+s
theorem Ze9 {E:List Zaw}{i:Nat}{e:Zaw}(h:E[i]?=some e):sumL (E.take (i+1))=sumL (E.take i)+e.Long:=by
 have hi:=(List.getElem?_eq_some_iff.1 h).1;rw[Z5 hi,ZdY];have:E[i]=e:=by
  have:=ZF hi;rw[h]at this;exact(Option.some.inj this).symm
 simp[sumL,this]
theorem Zex {E:List Zaw}(h:∀e∈E,okE e=true){i j:Nat}(hij:i<=j):sumL (E.take i)<=sumL (E.take j):=by
 have e:E.take j=E.take i++(E.take j).drop i:=by
  conv=>lhs;rw[←List.take_append_drop i (E.take j),List.take_take,Nat.min_eq_left hij]
 rw[e,ZdY];have:=(ZeY (l:=(E.take j).drop i) λx hx=>h x (List.mem_of_mem_take (List.mem_of_mem_drop hx))).1;omega
theorem Zwe {E:List Zaw}(h:∀e∈E,okE e=true){t:Int}{i j:Nat}{e f:Zaw}{s r:Int}(h1:AtE E t i e s)(h2:AtE E t j f r):i=j/\e=f/\s=r:=by
 obtain⟨a1,a2,a3,a4⟩:=h1;obtain⟨b1,b2,b3,b4⟩:=h2;have key:∀{i j:Nat} {e f:Zaw} {s r:Int},E[i]?=some e->E[j]?=some f->0<=s->s<e.Long->0<=r->r<f.Long->sumL (E.take i)+s=sumL (E.take j)+r->¬i<j:=by
  intro i j e f s r a1 b1 a2 a3 b2 b3 heq hlt;have:=Zex h (show i+1<=j by omega);rw[Ze9 a1]at this;omega
 have hij:i=j:=by
  have n1:=key a1 b1 a2 a3 b2 b3 (by omega);have n2:=key b1 a1 b2 b3 a2 a3 (by omega);omega
 subst hij;rw[a1]at b1;cases b1;exact⟨rfl,rfl,by omega⟩
theorem Zwg {E:List Zaw}(h:∀e∈E,okE e=true):∀(l:List Zaw) (k:Nat) (r:Int),E.drop k=l->0<=r->r<sumL l->∃i e s,E[i]?=some e/\0<=s/\s<e.Long/\sumL (E.take k)+r=sumL (E.take i)+s:=by
 intro l;induction l with
 |nil=>intro k r _ h0 h1;simp only[sumL]at h1;omega
 |cons e l ih=>
  intro k r hk h0 h1;have hlt:k<E.length:=by
   rcases Nat.lt_or_ge k E.length with h'|h'
   ·exact h'
   rw[List.drop_eq_nil_of_le h']at hk;cases hk
  rw[Zhw hlt]at hk;simp only[Zt]at hk;have hE:E[k]?=some e:=by rw[ZF hlt,hk.1]
  by_cases hr:r<e.Long
  ·exact⟨k,e,r,hE,h0,hr,rfl⟩
  simp only[sumL]at h1;obtain⟨i,f,s,a1,a2,a3,a4⟩:=ih (k+1) (r-e.Long) hk.2 (by omega) (by omega);rw[Ze9 hE]at a4;exact⟨i,f,s,a1,a2,a3,by omega⟩
theorem Zg2 {E:List Zaw}(h:∀e∈E,okE e=true)(hne:1<=E.length)(t:Int):∃i e s,AtE E t i e s:=by
 have hb:=(ZeY h).1;have hpos:0<sumL E:=by omega
 obtain⟨i,e,s,a1,a2,a3,a4⟩:=Zwg h E 0 (t%sumL E) (by simp) (Int.emod_nonneg _ (by omega)) (Int.emod_lt_of_pos _ hpos);exact⟨i,e,s,a1,a2,a3,by simpa[sumL]using a4⟩
theorem Zwf {E:List Zaw}{t:Int}{i:Nat}{e:Zaw}{s:Int}(h:AtE E t i e s)(k:Int):AtE E (t+k*sumL E) i e s:=by
 obtain⟨a1,a2,a3,a4⟩:=h;exact⟨a1,a2,a3,by rw[Int.add_mul_emod_self_right];exact a4⟩
theorem ZtV {E:List Zaw}(h:∀e∈E,okE e=true){t:Int}{i:Nat}{e:Zaw}{s:Int}(ha:AtE E t i e s):sumL (E.take i)+e.Long<=sumL E/\0<=sumL (E.take i)/\i<E.length:=by
 obtain⟨a1,a2,a3,a4⟩:=ha;have hi:=(List.getElem?_eq_some_iff.1 a1).1;have h1:=Zex h (show i+1<=E.length from hi);rw[Ze9 a1,Z3]at h1;have h2:=Zex h (show 0<=i by omega);simp only[List.take_zero,sumL]at h2;exact⟨h1,h2,hi⟩
theorem Zrf {t k C:Int}(h0:0<=t%C+k)(h1:t%C+k<C):(t+k)%C=t%C+k:=by
 have:t+k=(t%C+k)+C*(t/C):=by have:=Int.mul_ediv_add_emod t C;omega
 rw[this,Int.add_mul_emod_self_left];exact Int.emod_eq_of_lt h0 h1
theorem Zw8 {t k C:Int}(h:t%C+k=C):(t+k)%C=0:=by
 have:t+k=C*(t/C+1):=by have:=Int.mul_ediv_add_emod t C;rw[Int.mul_add];omega
 rw[this];exact Int.mul_emod_right _ _
theorem ZL6 {E:List Zaw}(h:∀e∈E,okE e=true){t:Int}{i:Nat}{e:Zaw}{s k:Int}(ha:AtE E t i e s)(h0:0<=s+k)(h1:s+k<e.Long):AtE E (t+k) i e (s+k):=by
 have hl:=ZtV h ha;obtain⟨a1,a2,a3,a4⟩:=ha;refine⟨a1,h0,h1,?_⟩;rw[Zrf (by omega) (by omega),a4];omega
theorem Zyu {E:List Zaw}(h:∀e∈E,okE e=true){t:Int}{i:Nat}{e:Zaw}{s:Int}(ha:AtE E t i e s):∃f,AtE E (t+(e.Long-s)) ((i+1)%E.length) f 0:=by
 have hl:=ZtV h ha;obtain⟨a1,a2,a3,a4⟩:=ha;have hlen:0<E.length:=by omega
 have hmod:=Nat.mod_lt (i+1) hlen;refine⟨E[(i+1)%E.length],ZF hmod,Int.le_refl _,?_,?_⟩
 ·have:=Zgp.1 (h _ (List.getElem_mem hmod));omega
 by_cases hi:i+1<E.length
 ·rw[Nat.mod_eq_of_lt hi,Ze9 a1];have h1:=Zex h (show i+1+1<=E.length from hi);rw[Ze9 (ZF hi),Ze9 a1,Z3]at h1;have h2:=Zgp.1 (h _ (List.getElem_mem hi));rw[Zrf (by omega) (by omega),a4];omega
 have:i+1=E.length:=by omega
 rw[this,Nat.mod_self];have h1:=Ze9 a1;rw[this,Z3]at h1;rw[Zw8 (by omega)];simp[sumL]
noncomputable def mAt (E:List Zaw)(t:Int):Int:=by
 classical exact if h:∃i e s,AtE E t i e s then(Classical.choose (Classical.choose_spec h)).Mask else 0
theorem ZnX {E:List Zaw}(h:∀e∈E,okE e=true){t:Int}{i:Nat}{e:Zaw}{s:Int}(ha:AtE E t i e s):mAt E t=e.Mask:=by
 unfold mAt;have hex:∃i e s,AtE E t i e s:=⟨i,e,s,ha⟩;rw[dif_pos hex];obtain⟨s',hs'⟩:=Classical.choose_spec (Classical.choose_spec hex);have:=(Zwe h ha hs').2.1;rw[←this]
theorem Zq5 {E:List Zaw}(h:∀e∈E,okE e=true)(hne:1<=E.length)(t k:Int):mAt E (t+k*sumL E)=mAt E t:=by
 obtain⟨i,e,s,ha⟩:=Zg2 h hne t;rw[ZnX h ha,ZnX h (Zwf ha k)]
theorem Zui {E:List Zaw}(h:∀e∈E,okE e=true)(hne:1<=E.length)(t:Int):∃e∈E,mAt E t=e.Mask:=by
 obtain⟨i,e,s,ha⟩:=Zg2 h hne t;exact⟨e,List.mem_of_getElem? ha.1,ZnX h ha⟩
theorem ZdU {α:Type}{l:List α}{k:Nat}{e:α}(h:l[k]?=some e):idx l (k:Int)=some e:=by rw[Zhs,h]
theorem Zw5 (N:Nat){g:Zas}(hg:VG g){i:Nat}{e:Zaw}{s:Int}(h1:g.Entries[i]?=some e)(h2:0<=s)(h3:s<e.Long):∀(n M k:Nat),i-k=n->k<=i->n<M→
  ZaI (λx:Int×Int=>Zdy N g x.1 x.2) M (sumL (g.Entries.take i)+s-sumL (g.Entries.take k),(k:Int))=some ((i:Int),e.Long-s):=by
 have hi:=(List.getElem?_eq_some_iff.1 h1).1;have hE:=Zgp.1 (hg.ok e (List.mem_of_getElem? h1));have hlen:=hg.2.1;have hC:=(ZeY hg.ok).2;intro n;induction n with
 |zero=>
  intro M k hn hk hM;have:k=i:=by omega
  subst this;cases M with
  |zero=>omega
  |succ M=>
   rw[Za1 (r:=((k:Int),e.Long-s))];simp only[Zdy];rw[ZdU h1,Z8,Zai (by simp only[Zag];omega),Z8,ZaB (by omega) (by omega)]
   congr 3
   omega
 |succ n ih=>
  intro M k hn hk hM;cases M with
  |zero=>omega
  |succ M=>
   have hlt:k<g.Entries.length:=by omega
   have hk1:g.Entries[k]?=some g.Entries[k]:=ZF hlt;have hb:=Zgp.1 (hg.ok _ (List.getElem_mem hlt));have hm:=Zex hg.ok (show k+1<=i by omega);rw[Ze9 hk1]at hm;have hm2:=Zex hg.ok (show i<=g.Entries.length by omega);rw[Z3]at hm2;have hm3:=Zex hg.ok (show 0<=k by omega);simp only[List.take_zero,sumL]at hm3;have hC1:=hg.2.2.2;rw[Zbw (y:=(sumL (g.Entries.take i)+s-sumL (g.Entries.take (k+1)),((k+1:Nat):Int))),ih M (k+1) (by omega) (by omega) (by omega)];simp only[Zdy];rw[ZdU hk1,Z8,Zaj (by simp only[Zag];omega),Z8,ZaB (by omega) (by omega),ZaB (by omega) (by omega),Ze9 hk1]
   congr 3
   omega
theorem ZjE {N:Nat}(hN:200<=N){g:Zas}(hg:VG g){t:Int}{i:Nat}{e:Zaw}{s:Int}(ha:AtE g.Entries t i e s):Zg0 N g t=some ((i:Int),e.Long-s):=by
 have hlt:=ZtV hg.ok ha;have hb:=ZeY hg.ok;have hC:=hg.2.2.2;have hlen:=hg.1;have hlen2:=hg.2.1;have hpos:0<g.Cycle:=by omega
 have h1:=Int.lt_tmod_of_pos t hpos;have h2:=Int.tmod_lt_of_pos t hpos;unfold Zg0;rw[ZcK (by omega),Z8,ZaB (by omega) (by omega),ZcK (by omega),Z8,Zmf hpos,←hC.1,ha.2.2.2];have:=Zw5 N hg ha.1 ha.2.1 ha.2.2.1 i N 0 (by omega) (by omega) (by omega);simp only[List.take_zero,sumL,Int.sub_zero]at this;rw[show((0:Nat):Int)=0 from rfl]at this;rw[this,Z8]
theorem ZzY (N:Nat){g:Zas}(hg:VG g){i:Nat}{e:Zaw}{s:Int}(h1:g.Entries[i]?=some e)(h2:0<=s)(h3:s<e.Long):∀(n M k:Nat),i-k=n->k<=i->n<M→
  ZaI (λx:Int×Int=>Zi6 N g x.1 x.2) M (sumL (g.Entries.take i)+s-sumL (g.Entries.take k),(k:Int))=some (s,(i:Int)):=by
 have hi:=(List.getElem?_eq_some_iff.1 h1).1;have hE:=Zgp.1 (hg.ok e (List.mem_of_getElem? h1));have hlen:=hg.2.1;have hC:=(ZeY hg.ok).2;intro n;induction n with
 |zero=>
  intro M k hn hk hM;have:k=i:=by omega
  subst this;cases M with
  |zero=>omega
  |succ M=>
   rw[Za1 (r:=(s,(k:Int)))];simp only[Zi6];rw[ZdU h1,Z8,Zai (by simp only[Zag];omega)]
   congr 3
   omega
 |succ n ih=>
  intro M k hn hk hM;cases M with
  |zero=>omega
  |succ M=>
   have hlt:k<g.Entries.length:=by omega
   have hk1:g.Entries[k]?=some g.Entries[k]:=ZF hlt;have hb:=Zgp.1 (hg.ok _ (List.getElem_mem hlt));have hm:=Zex hg.ok (show k+1<=i by omega);rw[Ze9 hk1]at hm;have hm2:=Zex hg.ok (show i<=g.Entries.length by omega);rw[Z3]at hm2;have hm3:=Zex hg.ok (show 0<=k by omega);simp only[List.take_zero,sumL]at hm3;have hC1:=hg.2.2.2;rw[Zbw (y:=(sumL (g.Entries.take i)+s-sumL (g.Entries.take (k+1)),((k+1:Nat):Int))),ih M (k+1) (by omega) (by omega) (by omega)];simp only[Zi6];rw[ZdU hk1,Z8,Zaj (by simp only[Zag];omega),Z8,ZaB (by omega) (by omega),ZaB (by omega) (by omega),Ze9 hk1]
   congr 3
   omega
theorem Zt4 {N:Nat}(hN:200<=N){g:Zas}(hg:VG g){t:Int}{i:Nat}{e:Zaw}{s:Int}(ha:AtE g.Entries t i e s):Zoy N g t=some ((i:Int),s):=by
 have hlt:=ZtV hg.ok ha;have hb:=ZeY hg.ok;have hC:=hg.2.2.2;have hlen:=hg.1;have hlen2:=hg.2.1;have hpos:0<g.Cycle:=by omega
 have h1:=Int.lt_tmod_of_pos t hpos;have h2:=Int.tmod_lt_of_pos t hpos;have hm:=Zmf (a:=t) hpos;have hj:(if(decide (t.tmod g.Cycle<0))=true then some (w64 (t.tmod g.Cycle+g.Cycle))else some (t.tmod g.Cycle))=some (t%g.Cycle):=by
  by_cases h:t.tmod g.Cycle<0
  ·rw[Zaj (by simpa using h),ZaB (by omega) (by omega)];rw[Int.tmod_eq_of_lt (by omega) (by omega)]at hm;rw[hm]
  rw[Zai (by simpa using h)];have e:(t.tmod g.Cycle+g.Cycle).tmod g.Cycle=(t.tmod g.Cycle+g.Cycle)%g.Cycle:=Zo (by omega);rw[e,Int.add_emod_right,Int.emod_eq_of_lt (by omega) (by omega)]at hm;rw[hm]
 unfold Zoy;rw[ZcK (by omega),Z8,hj,Z8,←hC.1,ha.2.2.2];have:=ZzY N hg ha.1 ha.2.1 ha.2.2.1 i N 0 (by omega) (by omega) (by omega);simp only[List.take_zero,sumL,Int.sub_zero]at this;rw[show((0:Nat):Int)=0 from rfl]at this;rw[this,Z8]
theorem Zsg {N:Nat}(hN:200<=N)(g:Zas)(t:Int):Zk1 N g t=some (if errS g 0 t 0=0 then(mAt g.Entries t,0)else(0,errS g 0 t 0)):=by
 unfold Zk1;rw[ZlH hN,Z8];by_cases h:errS g 0 t 0=0
 ·have hg:VG g:=by
   unfold errS at h;by_cases hv:VG g
   ·exact hv
   rw[Zai hv]at h;cases h
  obtain⟨i,e,s,ha⟩:=Zg2 hg.ok hg.1 t;rw[Zai (by simp[h]),ZjE hN hg ha,Z8,ZdU ha.1,Z8,ZnX hg.ok ha,Zaj h]
 rw[Zaj (by simp[h]),Zai h]
end Go.Sh
namespace Go.Sh
open Go Go.Eng
def IsSt (E:List Zaw)(p:Int->Bool)(t r:Int):Prop:=
 (r=sumL E/\∀e∈E,p e.Mask=true)∨(0<=r/\r<sumL E/\(∀k,0<=k->k<r->p (mAt E (t+k))=true)/\p (mAt E (t+r))=false)
theorem Zuw {E:List Zaw}(h:∀e∈E,okE e=true)(hne:1<=E.length){p:Int->Bool}{t r r':Int}(h1:IsSt E p t r)(h2:IsSt E p t r'):r=r':=by
 rcases h1 with⟨a1,a2⟩|⟨a1,a2,a3,a4⟩<;>rcases h2 with⟨b1,b2⟩|⟨b1,b2,b3,b4⟩
 ·omega
 ·obtain⟨e,he,hm⟩:=Zui h hne (t+r');rw[hm,a2 e he]at b4;cases b4
 ·obtain⟨e,he,hm⟩:=Zui h hne (t+r);rw[hm,b2 e he]at a4;cases a4
 rcases Int.lt_trichotomy r r' with hlt|heq|hgt
 ·rw[b3 r a1 hlt]at a4;cases a4
 ·exact heq
 rw[a3 r' b1 hgt]at b4;cases b4
theorem Zx6 {E:List Zaw}(h:∀e∈E,okE e=true)(hne:1<=E.length){p:Int->Bool}{t r:Int}(h0:0<=r)(h1:∀k,0<=k->k<r->p (mAt E (t+k))=true)(h2:p (mAt E (t+r))=false):r<sumL E:=by
 rcases Int.lt_or_le r (sumL E)with hlt|hle
 ·exact hlt
 exfalso;have hb:=(ZeY h).1;have h3:=h1 (r-sumL E) (by omega) (by omega);have h4:=Zq5 h hne (t+(r-sumL E)) 1;rw[show t+(r-sumL E)+1*sumL E=t+r by omega]at h4;rw[h4,h3]at h2;cases h2
theorem ZuE {E:List Zaw}(h:∀e∈E,okE e=true){t:Int}{i:Nat}{e:Zaw}{s:Int}(ha:AtE E t i e s){k:Int}(h0:0<=s+k)(h1:s+k<e.Long):mAt E (t+k)=e.Mask:=ZnX h (ZL6 h ha h0 h1)
theorem Zx3 {len q i0:Nat}:((i0+q)%len+1)%len=(i0+(q+1))%len:=by
 rw[Nat.mod_add_mod];rfl
theorem Zz0 {E:List Zaw}{P:Zaw->Prop}{i0:Nat}(h:∀j,j<E.length->∃f,E[(i0+j)%E.length]?=some f/\P f):∀e∈E,P e:=by
 intro e he;obtain⟨k,hk,rfl⟩:=List.getElem_of_mem he;have hlen:0<E.length:=by omega
 have hm:=Nat.mod_lt i0 hlen;obtain⟨f,hf,hP⟩:=h ((k+E.length-i0%E.length)%E.length) (Nat.mod_lt _ hlen);have e1:(i0+(k+E.length-i0%E.length)%E.length)%E.length=k:=by
  rw[Nat.add_mod_mod];have h1:=Nat.div_add_mod i0 E.length;have h2:i0+(k+E.length-i0%E.length)=k+E.length*(i0/E.length+1):=by rw[Nat.mul_add];omega
  rw[h2,Nat.add_mul_mod_self_left,Nat.mod_eq_of_lt hk]
 rw[e1,ZF hk]at hf;cases hf;exact hP
theorem ZsE (N:Nat){g:Zas}(hg:VG g){has:Int->Option Bool}{p:Int->Bool}(hp:∀e∈g.Entries,has e.Mask=some (p e.Mask))(t:Int)(i0:Nat):∀(n M q:Nat) (e:Zaw) (s c:Int),
  g.Entries.length+1-q=n->q<=g.Entries.length+1->n<M->AtE g.Entries (t+c) ((i0+q)%g.Entries.length) e s->0<=c->c<=9600000*q->(∀k,0<=k->k<c->p (mAt g.Entries (t+k))=true)→
  (∀j,j<q->∃f,g.Entries[(i0+j)%g.Entries.length]?=some f/\p f.Mask=true)→
  ∃o,ZaI (λx:Int×Int×Int×Int=>Zb7 N g has x.1 x.2.1 x.2.2.1 x.2.2.2) M ((((i0+q)%g.Entries.length:Nat):Int),e.Long-s,c,(q:Int))=some o∧
   ((∃x,o=.inl x/\∀e∈g.Entries,p e.Mask=true)∨(∃r,o=.inr r/\0<=r/\(∀k,0<=k->k<r->p (mAt g.Entries (t+k))=true)/\p (mAt g.Entries (t+r))=false)):=by
 have hlen1:=hg.1;have hlen2:=hg.2.1;intro n;induction n with
 |zero=>
  intro M q e s c hn hq hM ha h0 h1 h2 h3;cases M with
  |zero=>omega
  |succ M=>
   refine⟨.inl (),Za1 ?_,.inl ⟨_,rfl,Zz0 λj hj=>h3 j (by omega)⟩⟩;simp only[Zb7];rw[ZaB (by omega) (by omega),Zai (by simp only[Zag];omega)]
 |succ n ih=>
  intro M q e s c hn hq hM ha h0 h1 h2 h3;cases M with
  |zero=>omega
  |succ M=>
   have hE:=Zgp.1 (hg.ok e (List.mem_of_getElem? ha.1));have hs:=ha.2;have hmod:(i0+q)%g.Entries.length<g.Entries.length:=Nat.mod_lt _ (by omega);have hpe:=hp e (List.mem_of_getElem? ha.1);obtain⟨f,hf⟩:=Zyu hg.ok ha;have hfE:=Zgp.1 (hg.ok f (List.mem_of_getElem? hf.1));have hmod2:((i0+q)%g.Entries.length+1)%g.Entries.length<g.Entries.length:=Nat.mod_lt _ (by omega);have hbody:Zb7 N g has (((i0+q)%g.Entries.length:Nat):Int) (e.Long-s) c (q:Int)=
     if p e.Mask=true then some (.inl ((((((i0+q)%g.Entries.length+1)%g.Entries.length:Nat):Int)),f.Long,c+(e.Long-s),((q+1:Nat):Int)))else some (.inr (.inr c)):=by
    simp only[Zb7];rw[ZaB (x:=((List.length g.Entries:Nat):Int)+1) (by omega) (by omega),Zaj (by simp only[Zag];omega),ZdU ha.1,Z8,hpe,Z8];cases p e.Mask with
    |false=>simp
    |true=>
     simp only[Zi,Zg,Zah,Zak];generalize hmm:(i0+q)%g.Entries.length=m at*;rw[ZaB (x:=(m:Int)+1) (by omega) (by omega),ZcK (by omega),Z8,Zo (by omega)];have e1:((m:Int)+1)%((List.length g.Entries:Nat):Int)=(((m+1)%g.Entries.length:Nat):Int):=by
      rw[Int.natCast_emod];rfl
     rw[e1,ZdU hf.1,Z8,ZaB (by omega) (by omega),ZaB (by omega) (by omega)];rfl
   by_cases hpt:p e.Mask=true
   ·rw[Zbw (by rw[hbody,Zaj hpt])];rw[Zx3]at hf⊢;have hnext:AtE g.Entries (t+(c+(e.Long-s))) ((i0+(q+1))%g.Entries.length) f 0:=by
     rw[show t+(c+(e.Long-s))=t+c+(e.Long-s)by omega];exact hf
    have:=ih M (q+1) f 0 (c+(e.Long-s)) (by omega) (by omega) (by omega) hnext (by omega) (by omega) (λk k0 k1=>by
     by_cases hk:k<c
     ·exact h2 k k0 hk
     ·have:=ZuE hg.ok ha (k:=k-c) (by omega) (by omega);rw[show t+c+(k-c)=t+k by omega]at this;rw[this,hpt]) (λj hj=>by
     by_cases hjq:j<q
     ·exact h3 j hjq
     have:j=q:=by omega
     subst this;exact⟨e,ha.1,hpt⟩)
    rw[Int.sub_zero]at this;exact this
   refine⟨.inr c,Za1 (by rw[hbody,Zai hpt]),.inr ⟨c,rfl,h0,h2,?_⟩⟩;rw[ZnX hg.ok ha];simpa using hpt
theorem ZjW {N:Nat}(hN:200<=N){g:Zas}(hg:VG g){has:Int->Option Bool}{p:Int->Bool}(hp:∀e∈g.Entries,has e.Mask=some (p e.Mask))(t:Int):∃r,Zeo N g t has=some r/\IsSt g.Entries p t r:=by
 obtain⟨i,e,s,ha⟩:=Zg2 hg.ok hg.1 t;have hi:=(ZtV hg.ok ha).2.2;have hlen2:=hg.2.1;have hmi:(i+0)%g.Entries.length=i:=by rw[Nat.add_zero,Nat.mod_eq_of_lt hi]
 obtain⟨o,h1,h2⟩:=ZsE N hg hp t i (g.Entries.length+1) N 0 e s 0 (by omega) (by omega) (by omega) (by rw[hmi,Int.add_zero];exact ha) (by omega) (by omega) (λk k0 k1=>by omega) (λj hj=>by omega);rw[hmi,show((0:Nat):Int)=0 from rfl]at h1;unfold Zeo;rw[ZjE hN hg ha,Z8];simp only;rw[h1,Z8];rcases h2 with⟨x,rfl,hall⟩|⟨r,rfl,r0,r1,r2⟩
 ·exact⟨g.Cycle,rfl,.inl ⟨hg.2.2.2.1.symm,hall⟩⟩
 exact⟨r,rfl,.inr ⟨r0,Zx6 hg.ok hg.1 r0 r1 r2,r1,r2⟩⟩
theorem Zux {g:Zas}(hg:VG g)(p:Int->Bool)(t:Int):∃r,IsSt g.Entries p t r:=
 let ⟨r,_,h⟩:=ZjW (N:=200) (Nat.le_refl _) hg (has:=λm=>some (p m)) (λ_ _=>rfl) t
 ⟨r,h⟩
theorem Zou {N:Nat}(hN:200<=N){g:Zas}(hg:VG g){has:Int->Option Bool}{p:Int->Bool}(hp:∀e∈g.Entries,has e.Mask=some (p e.Mask)){t r:Int}(hr:IsSt g.Entries p t r):Zeo N g t has=some r:=by
 obtain⟨r',h1,h2⟩:=ZjW hN hg hp t;rw[h1,Zuw hg.ok hg.1 h2 hr]
theorem Zw6 {g:Zas}{c t l:Int}(h:errS g c t l=0):VG g/\0<=c/\c<=7∧ -1099511627776<=t/\t<=1099511627776/\0<=l/\l<=1099511627776:=by
 unfold errS at h;by_cases hv:VG g
 ·rw[Zaj hv]at h;by_cases hc:0<=c/\c<=7∧ -1099511627776<=t/\t<=1099511627776/\0<=l/\l<=1099511627776
  ·exact⟨hv,hc⟩
  rw[Zai hc]at h;cases h
 rw[Zai hv]at h;cases h
end Go.Sh
namespace Go.Sh
open Go Go.Eng
theorem Zy4 {α:Type}{l:List α}(h:l≠[]):∃a e,l=a++[e]:=⟨l.dropLast,l.getLast h,(List.dropLast_concat_getLast h).symm⟩
theorem Zxk (G:Int)(a:List Zaw)(e:Zaw)(m:Int):addE G (a++[e]) m=if e.Mask=m then a++[⟨e.Mask,e.Long+G⟩]else a++[e]++[⟨m,G⟩]:=by
 have h:Zfs (a++[e])=e:=by simp[Zfs]
 unfold addE;rw[h];by_cases c:e.Mask=m
 ·rw[Zaj ⟨by simp,c⟩,Zaj c];simp
 rw[Zai λh=>c h.2,Zai c]
def atM (l:List Zaw)(r m:Int):Prop:=∃i e s,l[i]?=some e/\0<=s/\s<e.Long/\r=sumL (l.take i)+s/\e.Mask=m
theorem Zxh {l:List Zaw}{r m:Int}(h:atM l r m)(x:List Zaw):atM (l++x) r m:=by
 obtain⟨i,e,s,h1,h2,h3,h4,h5⟩:=h;have hi:i<l.length:=by
  rcases Nat.lt_or_ge i l.length with c|c
  ·exact c
  rw[ZG c]at h1;cases h1
 exact⟨i,e,s,by rw[ZA hi];exact h1,h2,h3,by rw[Z2 (by omega)];exact h4,h5⟩
theorem ZoH {l:List Zaw}{e:Zaw}{s:Int}(h0:0<=s)(h1:s<e.Long):atM (l++[e]) (sumL l+s) e.Mask:=
 ⟨l.length,e,s,by simp,h0,h1,by rw[List.take_left],rfl⟩
theorem Zyj {l:List Zaw}{e e':Zaw}(hm:e'.Mask=e.Mask)(hl:e.Long<=e'.Long){r m:Int}(h:atM (l++[e]) r m):atM (l++[e']) r m:=by
 obtain⟨i,f,s,h1,h2,h3,h4,h5⟩:=h;rcases Nat.lt_trichotomy i l.length with c|c|c
 ·rw[ZA c]at h1;rw[Z2 (by omega)]at h4;exact Zxh ⟨i,f,s,h1,h2,h3,h4,h5⟩ [e']
 ·subst c;simp only[List.getElem?_concat_length,Zab]at h1;subst h1;rw[List.take_left]at h4;have:=ZoH (l:=l) (e:=e') h2 (by omega)
  rwa [←h4,hm,h5]at this
 rw[ZG (by simp;omega)]at h1;cases h1
theorem ZiS (e:Zaw):sumL [e]=e.Long:=by simp[sumL]
structure Runs (G:Int) (F:Nat->Bool) (k:Nat) (l:List Zaw):Prop where
 sum:sumL l=(k:Int)*G
 ok:∀e∈l,(e.Mask=127∨e.Mask=128)/\1<=e.Long
 at_:∀r:Int,0<=r->r<(k:Int)*G->atM l r (ZhB (F (r/G).toNat))
 last:∀a e,l=a++[e]->e.Mask=ZhB (F (k-1))
 ne:0<k->l≠[]
 cnt:l.length<=(List.range k).countP λi=>decide (i=0)||F i !=F (i-1)
theorem Ztp (b:Bool):ZhB b=127∨ZhB b=128:=by cases b<;>simp[ZhB]
theorem Runs.step {G:Int}(hG:1<=G){F:Nat->Bool}{k:Nat}{l:List Zaw}(h:Runs G F k l):Runs G F (k+1) (addE G l (ZhB (F k))):=by
 have hk:((k+1:Nat):Int)*G=(k:Int)*G+G:=by rw[show((k+1:Nat):Int)=(k:Int)+1 by omega,Zl,Int.one_mul]
 have hdiv:∀r:Int,(k:Int)*G<=r->r<(k:Int)*G+G->(r/G).toNat=k:=λr h1 h2=>by
  rw[ZoD (q:=(k:Int)) (by omega) h1 h2];omega
 have hcnt:(List.range (k+1)).countP (λi=>decide (i=0)||F i !=F (i-1))=(List.range k).countP (λi=>decide (i=0)||F i !=F (i-1))+(if(decide (k=0)||F k !=F (k-1))=true then 1 else 0):=Zuq k _;by_cases hn:l=[]
 ·subst hn;have h0:k=0:=by
   rcases Nat.eq_zero_or_pos k with c|c
   ·exact c
   exact absurd rfl (h.ne c)
  subst h0;have e:addE G [] (ZhB (F 0))=[⟨ZhB (F 0),G⟩]:=by simp[addE]
  rw[e];refine⟨by rw[ZiS,hk];show G=_;simp,λx hx=>?_,λr r0 r1=>?_,λa x hx=>?_,λ_=>by simp,by rw[hcnt];simp⟩
  ·rw[List.mem_singleton.1 hx];exact⟨Ztp _,hG⟩
  ·have hd:=hdiv r (by omega) (by omega);rw[hd];have:=ZoH (l:=[]) (e:=⟨ZhB (F 0),G⟩) r0 (by simp only;omega);simpa[sumL]using this
  have:=congrArg List.getLast? hx;simp at this;rw[←this]
 obtain⟨a,e,rfl⟩:=Zy4 hn;have hlast:=h.last a e rfl;have hsum:=h.sum;rw[ZdY,ZiS]at hsum;have hoke:=h.ok e (by simp);have k0:0<k:=by
  rcases Nat.eq_zero_or_pos k with c|c
  ·subst c;have hc:=h.cnt;simp at hc
  exact c
 rw[Zxk];by_cases c:e.Mask=ZhB (F k)
 ·rw[Zaj c];refine⟨by rw[ZdY,ZiS,hk];simp only;omega,λx hx=>?_,λr r0 r1=>?_,λa' x hx=>?_,λ_=>by simp,?_⟩
  ·rcases List.mem_append.1 hx with hx|hx
   ·exact h.ok x (List.mem_append_left _ hx)
   rw[List.mem_singleton.1 hx];exact⟨hoke.1,by simp only;omega⟩
  ·by_cases d:r<(k:Int)*G
   ·exact Zyj (e:=e) (e':=⟨e.Mask,e.Long+G⟩) rfl (show e.Long<=e.Long+G by omega) (h.at_ r r0 d)
   rw[hdiv r (by omega) (by omega)];have:=ZoH (l:=a) (e:=⟨e.Mask,e.Long+G⟩) (s:=r-sumL a) (by omega) (by simp only;omega);rw[show sumL a+(r-sumL a)=r by omega]at this;simp only[c]at this⊢;exact this
  ·obtain⟨_,rfl⟩:=List.append_singleton_inj.1 hx;exact c
  have:=h.cnt;rw[hcnt];simp only[ZM,ZR]at this⊢;omega
 rw[Zai c];refine⟨by rw[ZdY,ZdY,ZiS,ZiS,hk];simp only;omega,λx hx=>?_,λr r0 r1=>?_,λa' x hx=>?_,λ_=>by simp,?_⟩
 ·rcases List.mem_append.1 hx with hx|hx
  ·exact h.ok x hx
  rw[List.mem_singleton.1 hx];exact⟨Ztp _,hG⟩
 ·by_cases d:r<(k:Int)*G
  ·exact Zxh (h.at_ r r0 d) _
  rw[hdiv r (by omega) (by omega)];have:=ZoH (l:=a++[e]) (e:=⟨ZhB (F k),G⟩) (s:=r-sumL (a++[e])) (by rw[ZdY,ZiS];omega) (by rw[ZdY,ZiS];simp only;omega)
  rwa [show sumL (a++[e])+(r-sumL (a++[e]))=r by omega]at this
 ·obtain⟨_,rfl⟩:=List.append_singleton_inj.1 hx;rfl
 have hc:=h.cnt;have hne:(decide (k=0)||F k !=F (k-1))=true:=by
  rw[hlast]at c;have:F k≠F (k-1):=λhh=>c (by rw[hh])
  simp[this]
 rw[hcnt,Zaj hne];simp only[ZM,ZR]at hc⊢;omega
theorem ZsN {G:Int}(hG:1<=G)(F:Nat->Bool):∀k,Runs G F k (Zql G ((List.range k).map F))
 |0=>⟨by simp[Zql,sumL],by simp[Zql],λr h0 h1=>by simp at h1;omega,by simp[Zql],by simp,by simp[Zql]⟩
 |k+1=>by
  have:=(ZsN hG F k).step hG;unfold Zql at this⊢;rw[List.range_succ,ZT,List.foldl_append];exact this
section
variable {N:Nat} {t:Zan} {u:Zar} {s:Zal}
end
end Go.Sh

namespace Go.Sh
open Go Go.Eng
section
variable {N:Nat} {t:Zan} {u:Zar} {s:Zal}
def okG (E:List Zaw)(B L:Int):Prop:=∀k,0<=k->k<L->mAt E (B+k)=128
theorem ZvD {E:List Zaw}(h:∀e∈E,okE e=true)(hne:1<=E.length){B L:Int}(z:Int):okG E (B+z*sumL E) L↔okG E B L:=by
 have e:∀k,mAt E (B+z*sumL E+k)=mAt E (B+k):=λk=>by
  rw[show B+z*sumL E+k=B+k+z*sumL E by omega];exact Zq5 h hne _ _
 unfold okG;simp only[e]
theorem Zse (hN:200<=N){g:Zas}{τ:Int}(h:errS g 0 τ 0=0):∃q,IsSt g.Entries (λm=>m==mAt g.Entries τ) τ q/\Zk0 N g τ=some (if q=g.Cycle then(0,4)else(τ+q,0)):=by
 obtain⟨hg,_,_,ht1,ht2,_⟩:=Zw6 h;obtain⟨i,e,s,ha⟩:=Zg2 hg.ok hg.1 τ;have hC:=hg.2.2.2;obtain⟨q,hq⟩:=Zux hg (λm=>m==e.Mask) τ;have hq2:0<=q/\q<=9600000:=by
  have hb:=(ZeY hg.ok).1;rcases hq with⟨a,_⟩|⟨a,b,_⟩<;>omega
 refine⟨q,by rw[ZnX hg.ok ha];exact hq,?_⟩;unfold Zk0;rw[ZlH hN,Z8,Zai (by simp[h]),ZjE hN hg ha,Z8];simp only;rw[ZdU ha.1,Z8,Zou hN hg (p:=λm=>m==e.Mask) (λ_ _=>rfl) hq,Z8,ZaB (by omega) (by omega)];by_cases hqC:q=g.Cycle<;>simp[hqC]
theorem ZwD (hN:200<=N){g:Zas}(hg:VG g){B L:Int}(b0: -1000000<=B)(b1:B<=1000000000)(l0:1<=L)(l1:L<=10000000):∃b,ZhK N g B L=some b/\(b=true↔okG g.Entries B L):=by
 have herr:errS g 0 B 0=0:=by unfold errS;rw[Zaj hg,Zaj (by omega)]
 unfold ZhK;rw[Zsg hN,Zaj herr,Z8];by_cases c:mAt g.Entries B=128
 ·rw[Zai (by simpa using c)];obtain⟨q,hq,e⟩:=Zse hN herr;have hC:=hg.2.2.2.1;rw[e,Z8,ZaB (x:=B+L) (by omega) (by omega)];refine⟨_,rfl,?_⟩;rw[c]at hq;rcases hq with⟨q1,q2⟩|⟨q1,q2,q3,q4⟩
  ·rw[Zaj (by omega)];refine⟨λ_ k k0 k1=>?_,λ_=>rfl⟩;obtain⟨x,hx,hm⟩:=Zui hg.ok hg.1 (B+k);rw[hm];simpa using q2 x hx
  rw[Zai (by omega)];simp only[Zae,Bool.false_or,Zag];refine⟨λh k k0 k1=>by simpa using q3 k k0 (by omega),λh=>?_⟩;rcases Int.lt_or_le q L with d|d
  ·rw[h q q1 d]at q4;simp at q4
  omega
 rw[Zaj (by simpa using c)];refine⟨false,rfl,⟨λh=>(by cases h),λh=>absurd (by simpa using h 0 (by omega) (by omega)) c⟩⟩
theorem ZAb (hN:30000000<=N){g:Zas}(hg:VG g){w:ZaN}{b:Int}(b0:0<=b)(b1:b<=1000000000)(l0:0<=w.Frame)(l1:w.Frame<=10000000):
  ∃r,ZaI (λx:Int=>Zfe N g w b x) N b=some r/\((r=.inl ()/\okG g.Entries b w.Frame)∨(r=.inr false/\¬okG g.Entries b w.Frame)):=
 ZbD (body:=λx:Int=>Zfe N g w b x) (λx=>b<=x/\x<=b+w.Frame+9600000/\∀k,0<=k->k<x-b->mAt g.Entries (b+k)=128) (λx=>(b+w.Frame+9600001-x).toNat)
  (λr=>(r=.inl ()/\okG g.Entries b w.Frame)∨(r=.inr false/\¬okG g.Entries b w.Frame)) (λx hx=>by
   obtain⟨x0,x1,x2⟩:=hx;simp only[Zfe];rw[ZaB (x:=b+w.Frame) (by omega) (by omega)];by_cases c:x<b+w.Frame
   ·obtain⟨i,e,s,ha⟩:=Zg2 hg.ok hg.1 x;have hE:=Zgp.1 (hg.ok e (List.mem_of_getElem? ha.1));have hs:=ha.2;rw[Zaj (by simpa using c),Zt4 (by omega) hg ha,Z8];simp only;rw[ZdU ha.1,Z8,Z8];by_cases d:e.Mask=128
    ·left;refine⟨x-s+e.Long,?_,⟨by omega,by omega,λk k0 k1=>?_⟩,by omega⟩
     ·rw[Zai (by simpa using d),ZaB (x:=x-s) (by omega) (by omega),ZaB (by omega) (by omega)]
     by_cases f:k<x-b
     ·exact x2 k k0 f
     have:=ZuE hg.ok ha (k:=k-(x-b)) (by omega) (by omega);rw[show x+(k-(x-b))=b+k by omega]at this;rw[this,d]
    right;refine⟨.inr false,by rw[Zaj (by simpa using d)],.inr ⟨rfl,λh=>d ?_⟩⟩;have:=h (x-b) (by omega) (by omega);rw[show b+(x-b)=x by omega,ZnX hg.ok ha]at this;exact this
   right;exact⟨.inl (),by rw[Zai (by simpa using c)],.inl ⟨rfl,λk k0 k1=>x2 k k0 (by omega)⟩⟩) N b ⟨by omega,by omega,λk k0 k1=>by omega⟩ (by omega)
def allW (u:Zar)(E:List Zaw)(w:Tw):Prop:=∀z:Int,okG E (w.h.Open+w.x*u.Grid+z*(w.s.Period*u.Grid)) w.h.Long
theorem Zyz (hu:Zfr u){w:Tw}(ok:TwOK t u w):1<=w.s.Period*u.Grid:=by
 have p1:=ok.s.per1;have g1:=hu.g1
 calc (1:Int)<=1*u.Grid:=by omega
  _<=_:=Int.mul_le_mul_of_nonneg_right p1 (by omega)
theorem ZtM {E:List Zaw}(h:∀e∈E,okE e=true)(hne:1<=E.length){w:Tw}{q:Int}(hq:0<q)(hs:sumL E=q*(w.s.Period*u.Grid)){b:Int}{z0:Int}(hb:b=w.h.Open+w.x*u.Grid+z0*(w.s.Period*u.Grid)):allW u E w↔∀m:Nat,(m:Int)<q->okG E (b+m*(w.s.Period*u.Grid)) w.h.Long:=by
 unfold allW;obtain⟨D,eD⟩:∃D,D=w.s.Period*u.Grid:=⟨_,rfl⟩;obtain⟨B,eB⟩:∃B,B=w.h.Open+w.x*u.Grid:=⟨_,rfl⟩;rw[←eD,←eB]at hb;rw[←eD]at hs⊢;rw[←eB];constructor
 ·intro H m _;have:=H (z0+m)
  rwa [Zl,←Int.add_assoc,←hb]at this
 intro H z;have m0:=Int.emod_nonneg (z-z0) (show q≠0 by omega);have m1:=Int.emod_lt_of_pos (z-z0) hq;have h1:=H ((z-z0)%q).toNat (by omega);rw[Zq m0]at h1;have h2:=Int.emod_add_mul_ediv (z-z0) q;have h3:B+z*D=b+((z-z0)%q)*D+((z-z0)/q)*sumL E:=by
  rw[hs,hb,←Int.mul_assoc,Zm ((z-z0)/q) q,Int.add_assoc,Int.add_assoc,←Zl,h2,←Zl]
  congr 2
  omega
 rw[h3];exact(ZvD h hne _).2 h1
theorem ZrJ (hu:Zfr u){w:Tw}(ok:TwOK t u w){g:Zas}(hg:VG g){q:Int}(hq:0<q)(hc:g.Cycle=q*(w.s.Period*u.Grid))(hN:30000000<=N):∃b,ZhS N g (refW u w)=some b/\(b=true↔allW u g.Entries w):=by
 obtain⟨⟨a1,a2⟩,⟨b1,b2⟩,_,_⟩:=ok.num hu;obtain⟨_,_,o1,o2,l1,l2,_⟩:=ok.h;have hpg:=Zyz hu ok;have hC:=hg.2.2.2;have b2':=hC.2;obtain⟨D,eD⟩:∃D,D=w.s.Period*u.Grid:=⟨_,rfl⟩;obtain⟨B,eB⟩:∃B,B=w.h.Open+w.x*u.Grid:=⟨_,rfl⟩;rw[←eD]at hc b1 b2 hpg;have r0:=Int.emod_nonneg B (show D≠0 by omega);have r1:=Int.emod_lt_of_pos B (show 0<D by omega);have key:=ZtM (u:=u) hg.ok hg.1 (w:=w) hq (by rw[hC.1,hc,eD]) (b:=B%D) (z0:= -(B/D)) (by
  rw[←eD,←eB,Int.neg_mul,Zm];have:=Int.emod_add_mul_ediv B D;omega)
 rw[←eD]at key;unfold ZhS refW;simp only;rw[←eD,←eB,Zxr (by omega) (by omega),Z8];obtain⟨r,hr,e⟩:=ZbD (body:=λx:Int=>Zhb N g ⟨w.s.Id,w.h.Port,B,D,ZhF u w*u.Grid,w.h.Long⟩ x) (λx=>∃m:Nat,x=B%D+m*D/\x<=20000000/\∀j:Nat,j<m->okG g.Entries (B%D+j*D) w.h.Long) (λx=>(20000000-x).toNat)
  (λr=>(r=.inl ()/\∀m:Nat,(m:Int)<q->okG g.Entries (B%D+m*D) w.h.Long)∨(r=.inr false/\∃m:Nat,(m:Int)<q/\¬okG g.Entries (B%D+m*D) w.h.Long)) (λx hx=>by
   obtain⟨m,rfl,m1,m2⟩:=hx;have mD:0<=(m:Int)*D:=Int.mul_nonneg (by omega) (by omega);simp only[Zhb];by_cases c:B%D+m*D<g.Cycle
   ·have mq:(m:Int)<q:=by
     rcases Int.lt_or_le (m:Int) q with d|d
     ·exact d
     have:q*D<=m*D:=Int.mul_le_mul_of_nonneg_right d (by omega);omega
    obtain⟨r,hr,e⟩:=ZAb (N:=N) hN hg (w:=⟨w.s.Id,w.h.Port,B,D,ZhF u w*u.Grid,w.h.Long⟩) (b:=B%D+m*D) (by omega) (by omega) (by simp only;omega) (by simp only;omega);rw[Zaj (by simpa using c),hr,Z8];simp only at e;rcases e with⟨rfl,e⟩|⟨rfl,e⟩
    ·left;refine⟨B%D+(m+1:Nat)*D,?_,⟨m+1,rfl,?_,λj hj=>?_⟩,?_⟩
     ·simp only;rw[show((m+1:Nat):Int)*D=m*D+D by rw[show((m+1:Nat):Int)=(m:Int)+1 by omega,Zl,Int.one_mul],←Int.add_assoc,ZaB (by omega) (by omega)]
     ·rw[show((m+1:Nat):Int)*D=m*D+D by rw[show((m+1:Nat):Int)=(m:Int)+1 by omega,Zl,Int.one_mul]];omega
     ·by_cases d:j=m
      ·subst d;exact e
      exact m2 j (by omega)
     rw[show((m+1:Nat):Int)*D=m*D+D by rw[show((m+1:Nat):Int)=(m:Int)+1 by omega,Zl,Int.one_mul]];omega
    exact .inr ⟨_,rfl,.inr ⟨rfl,m,mq,e⟩⟩
   refine .inr ⟨.inl (),by rw[Zai (by simpa using c)],.inl ⟨rfl,λj hj=>m2 j ?_⟩⟩;rcases Nat.lt_or_ge j m with d|d
   ·exact d
   exfalso;have h1:(m:Int)+1<=q:=by omega
   have h2:((m:Int)+1)*D<=q*D:=Int.mul_le_mul_of_nonneg_right h1 (by omega);rw[Zl,Int.one_mul]at h2;omega) N (B%D) ⟨0,by simp,by omega,λj hj=>by omega⟩ (by omega)
 rw[hr,Z8];rcases e with⟨rfl,e⟩|⟨rfl,m,mq,e⟩
 ·exact⟨true,rfl,λ_=>key.2 e,λ_=>rfl⟩
 exact⟨false,rfl,λh=>(by cases h),λh=>absurd (key.1 h m mq) e⟩
variable {σ:Type} {y:σ->ZaX->Option (σ×Bool)} {q:Tw->Prop} {s0 s1:σ} {W:List Tw}
def Zyq (u:Zar)(y:σ->ZaX->Option (σ×Bool))(s0 s1:σ)(q:Tw->Prop)(w:Tw):Prop:=(q w/\y s0 (synW u w)=some (s0,true))∨(¬q w/\y s0 (synW u w)=some (s1,false))
theorem ZyU (hu:Zfr u){n:Nat}{x:Int}{hs:List ZaQ}{e:Int}(h8:hs.length<=8)(hok:∀h∈hs,TwOK t u ⟨n,s,x,h⟩)(hy:∀h∈hs,Zyq u y s0 s1 q ⟨n,s,x,h⟩)(hN:2000<=N):
  ∃r,ZaI (λz:Int×σ=>ZbY N y u s x (hs,e) z.1 z.2) N (0,s0)=some r/\((r=.inl s0/\∀h∈hs,q ⟨n,s,x,h⟩)∨(r=.inr s1/\∃h∈hs,¬q ⟨n,s,x,h⟩)):=
 ZbD (body:=λz:Int×σ=>ZbY N y u s x (hs,e) z.1 z.2) (λz=>∃k:Nat,z=((k:Int),s0)/\k<=hs.length/\∀j (hj:j<hs.length),j<k->q ⟨n,s,x,hs[j]⟩) (λz=>(hs.length-z.1).toNat)
  (λr=>(r=.inl s0/\∀h∈hs,q ⟨n,s,x,h⟩)∨(r=.inr s1/\∃h∈hs,¬q ⟨n,s,x,h⟩)) (λz hz=>by
   obtain⟨k,rfl,k1,k2⟩:=hz;simp only[ZbY];by_cases c:k<hs.length
   ·have ok:=hok _ (List.getElem_mem c);obtain⟨⟨a1,a2⟩,⟨b1,b2⟩,⟨c1,c2⟩,d1,d2⟩:=ok.num hu;obtain⟨_,_,o1,o2,l1,l2,_⟩:=ok.h;simp only at a1 a2 b1 b2 o1 o2;rw[Zaj (by simpa using c),Zbq c,Z8,ZaB (x:=x*u.Grid) (by omega) (by omega),ZaB (x:=hs[k].Open+x*u.Grid) (by omega) (by omega),ZaB (x:=s.Period*u.Grid) (by omega) (by omega)];have e:ZaX.mk hs[k].Port (hs[k].Open+x*u.Grid) hs[k].Long (s.Period*u.Grid)=synW u ⟨n,s,x,hs[k]⟩:=rfl;rw[e];rcases hy _ (List.getElem_mem c)with⟨h1,h2⟩|⟨h1,h2⟩
    ·left;rw[h2,Z8,Zai (by simp),ZaE (by omega)];refine⟨_,rfl,⟨k+1,rfl,by omega,λj hj hjk=>?_⟩,by simp only;omega⟩;by_cases d:j=k
     ·subst d;exact h1
     exact k2 j hj (by omega)
    right;rw[h2,Z8,Zaj (by simp)];exact⟨_,rfl,.inr ⟨rfl,_,List.getElem_mem c,h1⟩⟩
   right;rw[Zai (by simpa using c)];refine⟨_,rfl,.inl ⟨rfl,λh hm=>?_⟩⟩;obtain⟨j,hj,rfl⟩:=List.getElem_of_mem hm;exact k2 j hj (by omega)) N (0,s0) ⟨0,rfl,by omega,λj hj h=>by omega⟩ (by simp only;omega)
theorem ZyV (hT:ZdW t=true)(hU:Zdi u=true)(h:SS t s){n:Nat}{x:Int}(x1:0<=x)(x2:x<s.Period)(hy:∀w∈Zn7 t u n s x,Zyq u y s0 s1 q w)(hN:2000<=N):
  ∃r,ZaI (λz:Int×σ=>ZbZ N y t u s x z.1 z.2) N (0,s0)=some r/\((r=.inl s0/\∀w∈Zn7 t u n s x,q w)∨(r=.inr s1/\∃w∈Zn7 t u n s x,¬q w)):=by
 have g:=Za9.1 hT;have hu:=ZbC hU;have r2:=h.r2;exact ZbD (body:=λz:Int×σ=>ZbZ N y t u s x z.1 z.2) (λz=>∃k:Nat,z=((k:Int),s0)/\k<=s.Routes.length/\∀j (hj:j<s.Routes.length),j<k->∀w∈ZsC t u n s x s.Routes[j],q w) (λz=>(s.Routes.length-z.1).toNat)
  (λr=>(r=.inl s0/\∀w∈Zn7 t u n s x,q w)∨(r=.inr s1/\∃w∈Zn7 t u n s x,¬q w)) (λz hz=>by
   obtain⟨k,rfl,k1,k2⟩:=hz;simp only[ZbZ];by_cases c:k<s.Routes.length
   ·have hv:=h.rt _ (List.getElem_mem c);have h8:=(Zb1 hv).2.1;have hmem:∀h'∈Ziq t u s s.Routes[k],(⟨n,s,x,h'⟩:Tw)∈Zn7 t u n s x:=λh' hh=>List.mem_flatMap.2 ⟨_,List.getElem_mem c,List.mem_map.2 ⟨h',hh,rfl⟩⟩
    obtain⟨r,e1,e2⟩:=ZyU (N:=N) (t:=t) (s:=s) (n:=n) (x:=x) (e:=0) (y:=y) (q:=q) (s0:=s0) (s1:=s1) hu (hs:=Ziq t u s s.Routes[k]) (by simp[Ziq];omega) (λh' hh=>Zrx g hu h x1 x2 (hmem h' hh)) (λh' hh=>hy _ (hmem h' hh)) hN;rw[Zaj (by simpa using c),ZjN hT hU h.str h.cls (by omega) (by omega) (by omega),Z8,Znc k c];unfold Ziq at e1;rw[e1,Z8];rcases e2 with⟨rfl,e2⟩|⟨rfl,h',hm,e2⟩
    ·left;refine⟨(((k+1:Nat):Int),s0),by simp only;rw[ZaE (by omega)],⟨k+1,rfl,by omega,λj hj hjk w hw=>?_⟩,by simp only;omega⟩;by_cases d:j=k
     ·subst d;obtain⟨h',hh,rfl⟩:=List.mem_map.1 hw;exact e2 h' hh
     exact k2 j hj (by omega) w hw
    exact .inr ⟨_,rfl,.inr ⟨rfl,_,hmem h' hm,e2⟩⟩
   right;rw[Zai (by simpa using c)];refine⟨_,rfl,.inl ⟨rfl,λw hw=>?_⟩⟩;obtain⟨r,hr,hw⟩:=List.mem_flatMap.1 hw;obtain⟨j,hj,rfl⟩:=List.getElem_of_mem hr;exact k2 j hj (by omega) w hw) N (0,s0) ⟨0,rfl,by omega,λj hj h=>by omega⟩ (by simp only;omega)
theorem ZsG (hT:ZdW t=true)(hU:Zdi u=true){l:List Zal}(hl:∀x∈l,Zbk t x=true)(h12:l.length<=12){o:List Int}(ho:Zgq ⟨(accA t u l).P,(accA t u l).U⟩ o=true)(hy:∀w∈(Zcj t u l o).2,Zyq u y s0 s1 q w)(hN:2000<=N):
  ∃r,ZdX N y l o t u s0=some r/\((r=s0/\∀w∈(Zcj t u l o).2,q w)∨(r=s1/\∃w∈(Zcj t u l o).2,¬q w)):=by
 have g:=Za9.1 hT;have hu:=ZbC hU;unfold ZdX;obtain⟨r,hr,er⟩:=ZbD (body:=λz:Int×Int×σ=>Zco N y l o t u z.1 z.2.1 z.2.2)
  (λz=>∃k:Nat,z=(((Zcj t u (l.take k) o).1:Int),(k:Int),s0)/\k<=l.length/\∀w∈(Zcj t u (l.take k) o).2,q w) (λz=>(l.length-z.2.1).toNat)
  (λr=>(r=.inl s0/\∀w∈(Zcj t u l o).2,q w)∨(r=.inr s1/\∃w∈(Zcj t u l o).2,¬q w)) (λz hz=>by
   obtain⟨k,rfl,hk,hj⟩:=hz;simp only[Zco];by_cases c:k<l.length
   ·rw[Zaj (by simpa using c),Zbq c,Z8,ZaE (n:=k) (by omega)];have ex:=ZkK (t:=t) (u:=u) l o k c;unfold Zqh at ex;by_cases hc:l[k].Class=7
    ·obtain⟨h1,h2,h3⟩:=ZwO c hc ho;have hs:=SS.of (hl _ (List.getElem_mem c)) hc;rw[Zaj hc]at ex;have hmem:∀w∈Zn7 t u (Zcj t u (l.take k) o).1 l[k] (o.getD (Zcj t u (l.take k) o).1 0),w∈(Zcj t u l o).2:=λw hw=>Zwq l o (k+1) (by rw[ex];exact List.mem_append_right _ hw)
     obtain⟨r,e1,e2⟩:=ZyV (N:=N) (y:=y) (q:=q) (s0:=s0) (s1:=s1) hT hU hs h2 h3 (λw hw=>hy w (hmem w hw)) hN;have h7:=ZoO (t:=t) (u:=u) (l.take k) o;have h8:=(Zhz (t:=t) (u:=u) g hu (l:=l.take k) λx hx=>hl x (List.mem_of_mem_take hx)).pl;rw[ZS]at h8;rw[Zai (by simpa using hc),ZbE 0 (by omega) (by omega),Z8,Zp,e1,Z8];rcases e2 with⟨rfl,e2⟩|⟨rfl,w,hw,e2⟩
     ·left;refine⟨(((Zcj t u (l.take (k+1)) o).1:Int),((k+1:Nat):Int),s0),?_,⟨k+1,rfl,by omega,λw hw=>?_⟩,by simp only;omega⟩
      ·rw[ex];simp only;rw[ZaE (n:=(Zcj t u (l.take k) o).1) (by omega)]
      rw[ex]at hw;rcases List.mem_append.1 hw with hw|hw
      ·exact hj w hw
      exact e2 w hw
     exact .inr ⟨_,rfl,.inr ⟨rfl,w,hmem w hw,e2⟩⟩
    rw[Zai hc]at ex;left;refine⟨(((Zcj t u (l.take (k+1)) o).1:Int),((k+1:Nat):Int),s0),?_,⟨k+1,rfl,by omega,λw hw=>?_⟩,by simp only;omega⟩
    ·rw[Zaj (by simpa using hc),ex]
    rw[ex]at hw;exact hj w hw
   right;obtain rfl:k=l.length:=by omega
   rw[Z3]at hj;rw[Zai (by simp)];exact⟨_,rfl,.inl ⟨rfl,hj⟩⟩) N (0,0,s0) ⟨0,by simp[Zcj],by omega,by simp[Zcj]⟩ (by simp only;omega)
 rw[hr];rcases er with⟨rfl,er⟩|⟨rfl,er⟩
 ·exact⟨_,rfl,.inl ⟨rfl,er⟩⟩
 exact⟨_,rfl,.inr ⟨rfl,er⟩⟩
end
end Go.Sh

