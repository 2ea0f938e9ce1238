/-Part of the proof. -/
import Derived.Test.YtlajapegdomhfaaGreatSynthRoomStr1
import Derived.Test.YtlajapegdomhfaaGreatSynthRoomBase
import Derived.KernelRfl
import Derived.Test.YtlajapegdomhfaaGreatSynthRoomRd
set_option linter.all false
namespace Go.Sh
open Go Go.Eng
section
variable {N:Nat} {t:Zav} {u:Zay} {s:Zat}
structure AcOK (t:Zav) (u:Zay) (n:Nat) (a:Ac):Prop where
 pl:a.P.length<=n
 ul:a.U.length<=16*a.P.length
 per:a.P.all perB=true
 st:∀x∈a.U,0<=x.Stream/\x.Stream<(a.P.length:Int)
 port:∀x∈a.U,Zcy t x.Port=true
 fr:∀x∈a.U,0<=x.From/\x.From<perU a.P x
 lg:∀x∈a.U,1<=x.Long/\x.Long<=100000000
theorem Zyg {P Q:List Int}{x:ZaH}(h0:0<=x.Stream)(h1:x.Stream<(P.length:Int)):perU (P++Q) x=perU P x:=by
 unfold perU;rw[ZC,ZC,ZD (by omega)]
theorem Zyf {P:List Int}{q:Int}{x:ZaH}(h:x.Stream=(P.length:Int)):perU (P++[q]) x=q:=by
 unfold perU;rw[h,Zr,ZC,ZE (Nat.le_refl _)];simp
theorem Zzb (g:Good t)(hu:ZfE u)(h:SS t s){r:List Int}(hr:r∈s.Routes){n:Int}{x:ZaH}(hx:x∈Zc5 t u n s r):
  x.Stream=n/\Zcy t x.Port=true/\0<=x.From/\x.From<s.Period/\1<=x.Long/\x.Long<=100000000:=by
 obtain⟨h',hh,rfl⟩:=List.mem_map.1 hx;obtain⟨⟨e1,e2,o1,o2,l1,l2,eo⟩,hp⟩:=Zsi g hu (Zd4 h.str) (h.rt r hr) hh;have p1:=h.per1;have g1:=hu.g1;have g2:=hu.g2;have d1:=ZdG (a:=h'.Early) (B:=20000000) g1 (by omega) e2 (by omega);have d2:=ZdG (a:=h'.Open+h'.Long+u.Grid-1) (B:=22000000) g1 (by omega) (by omega) (by omega);refine⟨rfl,hp,Int.emod_nonneg _ (by omega),Int.emod_lt_of_pos _ (by omega),?_,?_⟩
 ·show 1<=(h'.Open+h'.Long+u.Grid-1)/u.Grid-h'.Early/u.Grid;obtain⟨a1,a2⟩:=Znh (a:=h'.Open+h'.Long+u.Grid-1) (G:=u.Grid) (by omega);obtain⟨b1,b2⟩:=Znh (a:=h'.Early) (G:=u.Grid) (by omega);generalize (h'.Open+h'.Long+u.Grid-1)/u.Grid=p at*;generalize h'.Early/u.Grid=q at*;rcases Int.lt_or_le q p with c|c
  ·omega
  have:p*u.Grid<=q*u.Grid:=Int.mul_le_mul_of_nonneg_right c (by omega);omega
 show(h'.Open+h'.Long+u.Grid-1)/u.Grid-h'.Early/u.Grid<=100000000;omega
theorem AcOK.step (g:Good t)(hu:ZfE u){n:Nat}{a:Ac}(h:AcOK t u n a)(hs:Zbv t s=true):AcOK t u (n+1) (Zfa t u a s):=by
 obtain⟨h1,h2,h3,h4,h5,h6,h7⟩:=h;unfold Zfa;by_cases c:s.Class=7
 ·rw[Zar c];have q:=SS.of hs c;have p1:=q.per1;have p2:=q.per2;have r2:=q.r2;have hfl:(s.Routes.flatMap (Zc5 t u (a.P.length:Int) s)).length<=8*s.Routes.length:=Zmp _ _ λr hr=>Zow g (q.rt r hr) _
  have new:∀x∈s.Routes.flatMap (Zc5 t u (a.P.length:Int) s),x.Stream=(a.P.length:Int)/\Zcy t x.Port=true/\0<=x.From/\x.From<s.Period/\1<=x.Long/\x.Long<=100000000:=λx hx=>by
   obtain⟨r,hr,hx⟩:=List.mem_flatMap.1 hx;exact Zzb g hu q hr hx
  refine⟨by simp;omega,by simp only[ZS,ZT,ZV];omega,?_,λx hx=>?_,λx hx=>?_,λx hx=>?_,λx hx=>?_⟩
  ·simp only[List.all_append,h3,Zk,List.all_cons,List.all_nil,Bool.and_true];exact Zjj.2 (by omega)
  ·simp only[ZS,ZT,ZV];rcases List.mem_append.1 hx with hx|hx
   ·have:=h4 x hx;omega
   have:=(new x hx).1;omega
  ·rcases List.mem_append.1 hx with hx|hx
   ·exact h5 x hx
   exact(new x hx).2.1
  ·rcases List.mem_append.1 hx with hx|hx
   ·have:=h4 x hx;simp only;rw[Zyg this.1 this.2];exact h6 x hx
   have:=new x hx;simp only;rw[Zyf this.1];exact⟨this.2.2.1,this.2.2.2.1⟩
  rcases List.mem_append.1 hx with hx|hx
  ·exact h7 x hx
  exact(new x hx).2.2.2.2
 rw[Zaq c];exact⟨by omega,h2,h3,h4,h5,h6,h7⟩
theorem Zy4 (g:Good t)(hu:ZfE u):∀(l:List Zat) (n:Nat) (a:Ac),AcOK t u n a->(∀x∈l,Zbv t x=true)->AcOK t u (n+l.length) (l.foldl (Zfa t u) a)
 |[],n,a,h,_=>h
 |x::l,n,a,h,hl=>by
  have:=Zy4 g hu l (n+1) _ (h.step g hu (hl x (by simp))) λy hy=>hl y (by simp[hy])
  simp only[ZT,ZB]
  rwa [show n+(l.length+1)=n+1+l.length by omega]
theorem acc0:AcOK t u 0 ⟨false,[],[]⟩:=⟨by simp,by simp,rfl,by simp,by simp,by simp,by simp⟩
theorem Zjv (g:Good t)(hu:ZfE u){l:List Zat}(hl:∀x∈l,Zbv t x=true):AcOK t u l.length (accA t u l):=by
 have:=Zy4 (t:=t) (u:=u) g hu l 0 _ acc0 hl
 rwa [Zaf]at this
theorem Zkw (l:List Zat)(k:Nat)(hk:k<l.length):accA t u (l.take (k+1))=Zfa t u (accA t u (l.take k)) l[k]:=by
 unfold accA;rw[ZcY hk,ZA];rfl
theorem Zto (hT:Zez t=true)(hU:Zd6 u=true){l:List Zat}(hl:∀x∈l,Zbv t x=true)(h12:l.length<=12)(hN:2000<=N):
  ZaO (λx:Int×Bool×(List Int)×(List ZaH)=>ZkH N t u l x.1 x.2.1 x.2.2.1 x.2.2.2) N (0,false,[],[])=some (.inl ((accA t u l).late,(accA t u l).P,(accA t u l).U)):=by
 have g:=Zbo.1 hT;have hu:=Zbx hU;obtain⟨o,ho,eo⟩:=Zb6 (body:=λx:Int×Bool×(List Int)×(List ZaH)=>ZkH N t u l x.1 x.2.1 x.2.2.1 x.2.2.2)
  (λx=>∃k:Nat,x.1=k/\k<=l.length/\x.2=((accA t u (l.take k)).late,(accA t u (l.take k)).P,(accA t u (l.take k)).U)) (λx=>(l.length-x.1).toNat)
  (λr=>r=.inl ((accA t u l).late,(accA t u l).P,(accA t u l).U)) (λx hx=>by
   obtain⟨i,y⟩:=x;obtain⟨k,k1,k2,k3⟩:=hx;simp only at k1 k3;subst k1 k3;simp only[ZkH];by_cases c:k<l.length
   ·left;have hs:=hl _ (List.getElem_mem c);have ha:=Zjv (t:=t) (u:=u) g hu (l:=l.take k) λx hx=>hl x (List.mem_of_mem_take hx)
    have a1:=ha.pl;have a2:=ha.ul;have htl:(l.take k).length<=12:=by simp;omega
    refine⟨(((k+1:Nat):Int),(accA t u (l.take (k+1))).late,(accA t u (l.take (k+1))).P,(accA t u (l.take (k+1))).U),?_,⟨k+1,rfl,by omega,rfl⟩,by simp;omega⟩;rw[Zar (by simpa using c),ZbM c,Zag,ZaL (by omega),Zkw l k c];by_cases hc:l[k].Class=7
    ·rw[Zaq (by simpa using hc),Zm2 hT hU (SS.of hs hc) (by omega) (by omega) hN,Zag];rfl
    rw[Zar (by simpa using hc)];unfold Zfa;rw[Zaq hc]
   right;obtain rfl:k=l.length:=by omega
   exact⟨.inl ((accA t u l).late,(accA t u l).P,(accA t u l).U),by rw[Zaq (by simp),Zaa],rfl⟩) N (0,false,[],[]) ⟨0,rfl,by omega,by simp[accA]⟩ (by simp;omega)
 rw[ho,eo]
def sumC (P:List Int)(C:Int):List ZaH->Int
 |[]=>0
 |x::l=>C.tdiv (perU P x)+sumC P C l
theorem ZuZ (P:List Int)(C:Int)(a b:List ZaH):sumC P C (a++b)=sumC P C a+sumC P C b:=by
 induction a with
 |nil=>simp[sumC]
 |cons x a ih=>simp only[Zw,sumC,ih];omega
def ZgI (P:List Int)(C:Int)(U:List ZaH)(q:Int):Int:=sumC P C (U.filter λx=>x.Port==q)
def ZqK (P:List Int)(C:Int)(U:List ZaH):Bool:=U.any λx=>decide (ZgI P C U x.Port>63)
def ZiC (P:List Int)(U:List ZaH):Bool:=U.any λx=>decide (x.Long>perU P x)
def errC (a:Ac):Int:=if lcmL a.P<=960 then(if ZqK a.P (lcmL a.P) a.U=true then 7 else if ZiC a.P a.U=true then 341 else if a.late=true then 342 else 0)else 6
theorem ZmF {P:List Int}{C:Int}(h0:0<=C)(h1:C<=960):∀{U:List ZaH},(∀x∈U,1<=perU P x)->0<=sumC P C U/\sumC P C U<=960*U.length
 |[],_=>by simp[sumC]
 |x::U,h=>by
  have ih:=ZmF h0 h1 (U:=U) λy hy=>h y (by simp[hy])
  have hx:=h x (by simp);simp only[sumC,ZT];rw[Zp h0];have d:=ZdG (a:=C) (B:=C) hx (by omega) (by omega) h0;have e:0<=C/perU P x:=Int.ediv_nonneg h0 (by omega);omega
structure Grp (U:List ZaH) (m:List (Int×List ZaH)):Prop where
 nd:(m.map (·.1)).Nodup
 val:∀p∈m,p.2=U.filter (λx=>x.Port==p.1)/\p.2≠[]
 key:∀x∈U,∃p∈m,p.1=x.Port
theorem Zw2 {κ υ:Type}[DecidableEq κ]{m:List (κ×υ)}{z:υ}:∀{p:κ×υ},(m.map (·.1)).Nodup->p∈m->Zh8 m p.1 z=p.2:=by
 intro p hn hp;induction m with
 |nil=>simp at hp
 |cons q m ih=>
  rw[Zm7];simp only[Z0,List.nodup_cons]at hn;rcases List.mem_cons.1 hp with rfl|hp
  ·rw[Zar rfl]
  rw[Zaq,ih hn.2 hp];intro e;exact hn.1 (List.mem_map.2 ⟨p,hp,e.symm⟩)
theorem ZvY {κ υ:Type}[DecidableEq κ]{m:List (κ×υ)}{x:κ}{z:υ}(h:∀p∈m,p.1≠x):Zh8 m x z=z:=by
 induction m with
 |nil=>rfl
 |cons q m ih=>
  rw[Zm7,Zaq (h q (by simp)),ih λp hp=>h p (by simp[hp])]
theorem ZvV {κ υ:Type}[DecidableEq κ](m:List (κ×υ))(x:κ)(v:υ):(Zec m x v).map (·.1)=if x∈m.map (·.1)then m.map (·.1)else m.map (·.1)++[x]:=by
 induction m with
 |nil=>simp[Zec]
 |cons q m ih=>
  unfold Zec;by_cases e:q.1=x
  ·rw[Zar e];simp[e]
  rw[Zaq e,Z0,ih];by_cases c:x∈m.map (·.1)
  ·rw[Zar c,Zar (by simp[c])];rfl
  have hx:¬x∈(q::m).map (·.1):=by
   rw[Z0,List.mem_cons];rintro(r|r)
   ·exact e r.symm
   exact c r
  rw[Zaq c,Zaq hx];rfl
theorem Zmn {κ υ:Type}[DecidableEq κ]{m:List (κ×υ)}{x:κ}{v:υ}(hn:(m.map (·.1)).Nodup){p:κ×υ}:p∈Zec m x v↔p=(x,v)∨(p∈m/\p.1≠x):=by
 induction m with
 |nil=>simp[Zec]
 |cons q m ih=>
  simp only[Z0,List.nodup_cons]at hn;unfold Zec;by_cases e:q.1=x
  ·rw[Zar e,List.mem_cons,List.mem_cons];constructor
   ·rintro(r|r)
    ·exact .inl r
    refine .inr ⟨.inr r,λe2=>hn.1 (List.mem_map.2 ⟨p,r,by rw[e2,e]⟩)⟩
   rintro(r|⟨r|r,e2⟩)
   ·exact .inl r
   ·subst r;exact absurd e e2
   exact .inr r
  rw[Zaq e,List.mem_cons,ih hn.2,List.mem_cons];constructor
  ·rintro(r|r|⟨r,e2⟩)
   ·subst r;exact .inr ⟨.inl rfl,e⟩
   ·exact .inl r
   exact .inr ⟨.inr r,e2⟩
  rintro(r|⟨r|r,e2⟩)
  ·exact .inr (.inl r)
  ·exact .inl r
  exact .inr (.inr ⟨r,e2⟩)
theorem Grp.get {U:List ZaH}{m:List (Int×List ZaH)}(h:Grp U m)(q:Int):Zh8 m q []=U.filter (λx=>x.Port==q):=by
 by_cases c:∃p∈m,p.1=q
 ·obtain⟨p,hp,rfl⟩:=c;rw[Zw2 h.nd hp,(h.val p hp).1]
 rw[ZvY λp hp e=>c ⟨p,hp,e⟩];symm;rw[List.filter_eq_nil_iff];intro x hx hq;obtain⟨p,hp,e⟩:=h.key x hx;exact c ⟨p,hp,by rw[e];simpa using hq⟩
theorem Grp.add {U:List ZaH}{m:List (Int×List ZaH)}(h:Grp U m)(x:ZaH):Grp (U++[x]) (Zec m x.Port (Zh8 m x.Port []++[x])):=by
 refine⟨?_,λp hp=>?_,λy hy=>?_⟩
 ·rw[ZvV];by_cases c:x.Port∈m.map (·.1)
  ·rw[Zar c];exact h.nd
  rw[Zaq c,List.nodup_append];refine⟨h.nd,by simp,λa ha b hb e=>?_⟩;simp only[Z3]at hb;subst hb e;exact c ha
 ·rw[List.filter_append];rcases(Zmn h.nd).1 hp with rfl|⟨hp,hne⟩
  ·simp only;rw[h.get];refine⟨by simp,by simp⟩
  refine⟨?_,(h.val p hp).2⟩;rw[←(h.val p hp).1];simp[Ne.symm hne]
 rcases List.mem_append.1 hy with hy|hy
 ·obtain⟨p,hp,e⟩:=h.key y hy;by_cases c:p.1=x.Port
  ·exact⟨_,(Zmn h.nd).2 (.inl rfl),by rw[←e,c]⟩
  exact⟨p,(Zmn h.nd).2 (.inr ⟨hp,c⟩),e⟩
 simp only[Z3]at hy;subst hy;exact⟨_,(Zmn h.nd).2 (.inl rfl),rfl⟩
theorem ZyV {f:List ZaH->Option Bool}{g:List ZaH->Bool}:∀{m:List (Int×List ZaH)},(∀p∈m,f p.2=some (g p.2))->rgF f m=some (m.any λp=>g p.2)
 |[],_=>rfl
 |p::m,h=>by
  unfold rgF;rw[h p (by simp),Zag,ZyV λq hq=>h q (by simp[hq]),Zag,List.any_cons]
theorem Zwv {P:List Int}{U:List ZaH}{b:Bool}(hU:U.length<=300)(hst:∀x∈U,0<=x.Stream/\x.Stream<(P.length:Int))(hN:2000<=N):
  ZaO (λx:Int=>Zb2 N ⟨⟨P,U⟩,b⟩ x) N 0=some (if ZiC P U=true then .inr 341 else .inl ()):=by
 rw[ZfB (l:=U) (p:=λx=>!decide (x.Long>perU P x)) (bad:=.inr 341) (fin:=.inl ()) (λk hk=>?_) (by simp[Zb2]) (by omega)]
 ·have e:(U.all λx=>!decide (x.Long>perU P x))=!ZiC P U:=by
   unfold ZiC;rw[List.not_any_eq_all_not]
  rw[e];cases ZiC P U<;>rfl
 obtain⟨a,c⟩:=hst _ (List.getElem_mem hk);simp only[Zb2];rw[Zar (by simpa using hk),ZbM hk,Zag,Zkq a c,Zag,ZaL (by omega)];by_cases d:U[k].Long>perU P U[k]
 ·rw[Zar (by simpa using d),Zaq (by simpa using d)]
 rw[Zaq (by simpa using d),Zar (by simpa using d)]
theorem W_eq {P:List Int}{U us:List ZaH}{b:Bool}{C:Int}(h0:0<=C)(h1:C<=960)(hl:us.length<=300)(hst:∀x∈us,0<=x.Stream/\x.Stream<(P.length:Int))(hp:∀x∈us,1<=perU P x)(e:Int)(hN:2000<=N):
  Zcv N ⟨⟨P,U⟩,b⟩ (C,e) us=some (decide (sumC P C us>63)):=by
 unfold Zcv;obtain⟨o,ho,eo⟩:=Zb6 (body:=λx:Int×Int=>Zcn N ⟨⟨P,U⟩,b⟩ (C,e) us x.1 x.2)
  (λx=>∃k:Nat,x.2=k/\k<=us.length/\x.1=sumC P C (us.take k)) (λx=>(us.length-x.2).toNat) (λr=>r=sumC P C us) (λx hx=>by
   obtain⟨c,i⟩:=x;obtain⟨k,k1,k2,k3⟩:=hx;simp only at k1 k3;subst k1 k3;simp only[Zcn];by_cases c:k<us.length
   ·left;have hm:=List.getElem_mem c;obtain⟨a1,a2⟩:=hst _ hm;have q:=hp _ hm;have s1:=ZmF (P:=P) h0 h1 (U:=us.take k) λx hx=>hp x (List.mem_of_mem_take hx)
    have hlen:(us.take k).length<=300:=by simp;omega
    have d:=ZdG (a:=C) (B:=C) q (by omega) (by omega) h0;have d0:0<=C/perU P us[k]:=Int.ediv_nonneg h0 (by omega);have et:C.tdiv (perU P us[k])=C/perU P us[k]:=Zp h0;refine⟨(sumC P C (us.take (k+1)),((k+1:Nat):Int)),?_,⟨k+1,rfl,by omega,rfl⟩,by simp;omega⟩;rw[Zar (by simpa using c),ZbM c,Zag,Zkq a1 a2,Zag,Zjc (by omega),Zag,et];have ew:IntKind.i64.wrap (C/perU P us[k])=C/perU P us[k]:=ZaG (by omega) (by omega);have es:sumC P C (us.take (k+1))=sumC P C (us.take k)+C/perU P us[k]:=by
     rw[ZcY c,ZuZ];simp[sumC,et]
    rw[ew,ZaG (by omega) (by omega),ZaL (by omega),es]
   right;obtain rfl:k=us.length:=by omega
   exact⟨sumC P C us,by rw[Zaq (by simp),Zaa],rfl⟩) N (0,0) ⟨0,rfl,by omega,by simp[sumC]⟩ (by simp;omega)
 rw[ho,Zag,eo]
theorem ZyA {P:List Int}{C:Int}{U:List ZaH}{m:List (Int×List ZaH)}(h:Grp U m):(m.any λp=>decide (sumC P C p.2>63))=ZqK P C U:=by
 unfold ZqK ZgI;rw[Zf,List.any_eq_true,List.any_eq_true];constructor
 ·rintro⟨p,hp,hs⟩;obtain⟨e,ne⟩:=h.val p hp;obtain⟨x,hx⟩:=List.exists_mem_of_ne_nil _ ne;rw[e]at hx;obtain⟨hx1,hx2⟩:=List.mem_filter.1 hx;have:x.Port=p.1:=by simpa using hx2
  refine⟨x,hx1,?_⟩;rw[this,←e];exact hs
 rintro⟨x,hx,hs⟩;obtain⟨p,hp,e⟩:=h.key x hx;refine⟨p,hp,?_⟩;rw[(h.val p hp).1,e];exact hs
theorem ZlL {a:Ac}{n:Nat}(h:AcOK t u n a)(hn:n<=12)(hN:2000<=N):ZdD N ⟨⟨a.P,a.U⟩,a.late⟩=some (errC a):=by
 obtain⟨h1,h2,h3,h4,h5,h6,h7⟩:=h;have hper:∀x∈a.U,1<=perU a.P x:=λx hx=>by
  obtain⟨c,d⟩:=h4 x hx;have:=Zjj.1 (List.all_eq_true.1 h3 _ (Zut c d));omega
 unfold ZdD errC;simp only;rw[Zhm hN (by omega) h3,Zag];by_cases hc:lcmL a.P<=960
 ·rw[Zar hc,Zar hc];simp only[Zam,Zg,Zap];obtain⟨m,hm,em⟩:=Zb6 (body:=λx:Int×(List (Int×(List ZaH)))=>Zco N ⟨⟨a.P,a.U⟩,a.late⟩ x.1 x.2)
   (λx=>∃k:Nat,x.1=k/\k<=a.U.length/\Grp (a.U.take k) x.2) (λx=>(a.U.length-x.1).toNat) (λr=>Grp a.U r) (λx hx=>by
    obtain⟨i,m⟩:=x;obtain⟨k,k1,k2,k3⟩:=hx;simp only at k1 k3;subst k1;simp only[Zco];by_cases c:k<a.U.length
    ·left;have hlen:(Zh8 m a.U[k].Port []).length<=192:=by
      rw[k3.get];have:=List.length_filter_le (λx=>x.Port==a.U[k].Port) (a.U.take k);have e:(a.U.take k).length<=192:=by simp;omega
      omega
     refine⟨(((k+1:Nat):Int),Zec m a.U[k].Port (Zh8 m a.U[k].Port []++[a.U[k]])),?_,⟨k+1,rfl,by omega,?_⟩,by simp;omega⟩
     ·rw[Zar (by simpa using c),ZbM c,Zag,Ziy (by omega) (by omega),Zag,ZaL (by omega)]
     simp only;rw[ZcY c];exact k3.add _
    right;obtain rfl:k=a.U.length:=by omega
    rw[Zaa]at k3;exact⟨m,by rw[Zaq (by simp)],k3⟩) N (0,[]) ⟨0,rfl,by omega,⟨by simp,by simp,by simp⟩⟩ (by simp;omega)
  rw[hm,Zag];rw[ZyV (g:=λus=>decide (sumC a.P (lcmL a.P) us>63)) (λp hp=>by
   have e:=(em.val p hp).1;have hsub:∀x∈p.2,x∈a.U:=λx hx=>by rw[e]at hx;exact(List.mem_filter.1 hx).1
   have hl:p.2.length<=192:=by
    rw[e];have:=List.length_filter_le (λx=>x.Port==p.1) a.U;omega
   exact W_eq (by omega) (by omega) (by omega) (λx hx=>h4 x (hsub x hx)) (λx hx=>hper x (hsub x hx)) 0 hN),Zag,ZyA em]
  cases hf:ZqK a.P (lcmL a.P) a.U with
  |true=>rfl
  |false=>
   simp only[Zg,Zap];rw[Zwv (by omega) h4 hN,Zag];cases ZiC a.P a.U with
   |true=>rfl
   |false=>cases a.late<;>rfl
 rw[Zaq hc,Zaq hc];rfl
def Ztw:Zax:=⟨[],[]⟩
def ofS (t:Zav)(u:Zay)(l:List Zat):Zax×Int:=
 if Zez t=true then(if Zd6 u=true then(if allR t l=0 then(if errC (accA t u l)=0 then(⟨(accA t u l).P,(accA t u l).U⟩,0)else(Ztw,errC (accA t u l)))else(Ztw,allR t l))else(Ztw,320))else(Ztw,260)
theorem ZyL:allR t []=if Zez t=true then 0 else 260:=by
 unfold allR;cases Zez t<;>simp[allB]
theorem Zp2 {l:List Zat}(h:allR t l=0):l.length<=12/\∀x∈l,Zbv t x=true:=by
 unfold allR at h;by_cases c:Zez t=true
 ·rw[Zar c]at h;by_cases d:l.length<=12
  ·rw[Zar d]at h;by_cases e:l.all (Zbv t)=true
   ·exact⟨d,List.all_eq_true.1 e⟩
   rw[Zaq e]at h;omega
  rw[Zaq d]at h;omega
 rw[Zaq c]at h;omega
theorem ZvQ (l:List Zat)(hN:2000<=N):Zpg N t u l=some (ofS t u l):=by
 unfold Zpg ofS;rw[ZhH _ (by omega),Zag,ZyL];cases hT:Zez t with
 |false=>rfl
 |true=>
  simp only[Zas,Zam,Zg,Zap];rw[Zgp,Zag];cases hU:Zd6 u with
  |false=>rfl
  |true=>
   simp only[Zas,Zam,Zg,Zap];rw[ZhH _ (by omega),Zag];by_cases hA:allR t l=0
   ·obtain⟨h12,hl⟩:=Zp2 hA;rw[Zar hA,hA,Zaq (by simp),Zto hT hU hl h12 hN,Zag];simp only;rw[ZlL (Zjv (Zbo.1 hT) (Zbx hU) hl) h12 hN,Zag];by_cases e:errC (accA t u l)=0
    ·rw[Zar e,e];rfl
    rw[Zaq e,Zar (by simpa using e)];rfl
   rw[Zaq hA,Zar (by simpa using hA)];rfl
end
end Go.Sh

namespace Go.Sh
open Go Go.Eng
section
variable {N:Nat} {t:Zav} {u:Zay} {s:Zat}
theorem Ztf (g:Good t)(hu:ZfE u)(hs:Zkx s){r:List Int}(e2:ZbN t r=true)(hN:30000000<=N):Zl9 N t u s r=some (Zbt t u (ZaY t u s r (r.length-1))):=by
 obtain⟨h1,h8,hp⟩:=Zca e2;have hL:t.Links.length<=1000:=by have:=g.l24;omega
 unfold Zl9;rw[Zny g hu hs e2 hN,Zag];have hj:r.length-1<r.length:=by omega
 have hb:=ZgR g hu hs hp _ hj;obtain⟨b1,b2,b3,b4⟩:=ZgY g hu hs hp h8 hj;obtain⟨_,_,d1,d2⟩:=ZgW g hb.port;have lo1:=hb.long1;have lo2:=hb.long2;have p1:=hu.p1;have p2:=hu.p2;have x3:idx ((List.range r.length).map (ZaY t u s r)) (w64 (((List.length ((List.range r.length).map (ZaY t u s r)):Nat):Int)-1))=some (ZaY t u s r (r.length-1)):=by
  rw[ZU,ZW,ZaG (by omega) (by omega),show((r.length:Nat):Int)-1=((r.length-1:Nat):Int)by omega,ZhP _ hj]
 rw[x3,Zag,Zlp hL hb.port,Zag];have htold:(ZaY t u s r (r.length-1)).Open+(ZaY t u s r (r.length-1)).Long+(plk t (ZaY t u s r (r.length-1)).Port).Delay+u.Proc=Zbt t u (ZaY t u s r (r.length-1)):=rfl;rw[ZaG (x:=(ZaY t u s r (r.length-1)).Open+(ZaY t u s r (r.length-1)).Long) (by omega) (by omega),ZaG (x:=(ZaY t u s r (r.length-1)).Open+(ZaY t u s r (r.length-1)).Long+_) (by omega) (by omega),htold,ZaG (by omega) (by omega)]
theorem Zn8 (hT:Zez t=true)(hU:Zd6 u=true){l:List Zat}{i:Nat}(hi:i<l.length)(h:SS t l[i]){b:Bool}{P:List Int}{U:List ZaH}(hP:P.length<=100)(hUl:U.length<=900)(hN:30000000<=N):
  ZaO (λx:Bool×Int×(List ZaH)=>Zi0 N t u l (i:Int) P x.1 x.2.1 x.2.2) N (b,0,U)=some ((Zfa t u ⟨b,P,U⟩ l[i]).late,(Zfa t u ⟨b,P,U⟩ l[i]).U):=by
 have g:=Zbo.1 hT;have hu:=Zbx hU;obtain⟨s,es⟩:∃s,s=l[i]:=⟨_,rfl⟩;have ei:idx l (i:Int)=some s:=by rw[ZbM hi,es]
 rw[←es]at h⊢;have hs:=Zd4 h.str;have p1:=h.per1;have p2:=h.per2;have r1:=h.r1;have r2:=h.r2;unfold Zfa;rw[Zar h.cls];simp only;obtain⟨o,ho,eo⟩:=Zb6 (body:=λx:Bool×Int×(List ZaH)=>Zi0 N t u l (i:Int) P x.1 x.2.1 x.2.2)
  (λx=>∃k:Nat,x.2.1=k/\k<=s.Routes.length/\x.1=(b||(s.Routes.take k).any (Znb t u s))/\x.2.2=U++(s.Routes.take k).flatMap (Zc5 t u (P.length:Int) s)) (λx=>(s.Routes.length-x.2.1).toNat)
  (λr=>r=(b||s.Routes.any (Znb t u s),U++s.Routes.flatMap (Zc5 t u (P.length:Int) s))) (λx hx=>by
   obtain⟨b',i',U'⟩:=x;obtain⟨k,k1,k2,k3,k4⟩:=hx;simp only at k1 k3 k4;subst k1 k3 k4;simp only[Zi0];rw[ei];simp only[Zag];by_cases c:k<s.Routes.length
   ·left;have hv:=h.rt _ (List.getElem_mem c);obtain⟨v1,v8,vp⟩:=Zca hv;refine⟨(b||(s.Routes.take (k+1)).any (Znb t u s),((k+1:Nat):Int),U++(s.Routes.take (k+1)).flatMap (Zc5 t u (P.length:Int) s)),?_,⟨k+1,rfl,by omega,rfl,rfl⟩,by simp;omega⟩;rw[Zar (by simpa using c),ZbM c];simp only[Zag];rw[Zny g hu hs hv hN,Zag,Ztf g hu hs hv hN];have hfl:((s.Routes.take k).flatMap (Zc5 t u (P.length:Int) s)).length<=8*(s.Routes.take k).length:=Zmp _ _ λr hr=>Zow g (h.rt r (List.mem_of_mem_take hr)) _
    have htl:(s.Routes.take k).length<=2:=by simp;omega
    obtain⟨q,hq,eq⟩:=Zb6 (body:=λx:Int×(List ZaH)=>ZlE N u l (i:Int) P ((List.range s.Routes[k].length).map (ZaY t u s s.Routes[k])) x.1 x.2)
     (λx=>∃j:Nat,x.1=j/\j<=s.Routes[k].length/\x.2=U++(s.Routes.take k).flatMap (Zc5 t u (P.length:Int) s)++(Zc5 t u (P.length:Int) s s.Routes[k]).take j) (λx=>(s.Routes[k].length-x.1).toNat)
     (λr=>r=U++(s.Routes.take k).flatMap (Zc5 t u (P.length:Int) s)++Zc5 t u (P.length:Int) s s.Routes[k]) (λx hx=>by
      obtain⟨i',U'⟩:=x;obtain⟨j,j1,j2,j3⟩:=hx;simp only at j1 j3;subst j1 j3;simp only[ZlE];have hlen:(Zc5 t u (P.length:Int) s s.Routes[k]).length=s.Routes[k].length:=by simp[Zc5,ZjO]
      by_cases d:j<s.Routes[k].length
      ·left;refine⟨(((j+1:Nat):Int),U++(s.Routes.take k).flatMap (Zc5 t u (P.length:Int) s)++(Zc5 t u (P.length:Int) s s.Routes[k]).take (j+1)),?_,⟨j+1,rfl,by omega,rfl⟩,by simp;omega⟩;have hmem:ZaY t u s s.Routes[k] j∈ZjO t u s s.Routes[k]:=List.mem_map.2 ⟨j,List.mem_range.2 d,rfl⟩;have eh:(Zc5 t u (P.length:Int) s s.Routes[k])[j]'(by omega)=useH u (P.length:Int) s.Period (ZaY t u s s.Routes[k] j):=by simp[Zc5,ZjO]
       rw[Zar (by simpa using d),ei,Zag,ZhP _ d,Zag,Zta hu (Zsi g hu hs hv hmem).1 p1 (by omega),Zag,Ziy (by simp only[ZS,ZY];omega) (by omega),Zag,ZaL (by omega),ZcY (by omega),eh];simp only[Zu]
      right;obtain rfl:j=s.Routes[k].length:=by omega
      refine⟨U++(s.Routes.take k).flatMap (Zc5 t u (P.length:Int) s)++Zc5 t u (P.length:Int) s s.Routes[k],?_,rfl⟩;rw[Zaq (by simp),Zab (Nat.le_of_eq hlen)]) N (0,U++(s.Routes.take k).flatMap (Zc5 t u (P.length:Int) s)) ⟨0,rfl,by omega,by simp⟩ (by simp;omega)
    rw[hq,Zag,eq];have hj:s.Routes[k].length-1<s.Routes[k].length:=by omega
    obtain⟨b1,b2,b3,b4⟩:=ZgY g hu hs vp v8 hj;have s1:=hu.s1;have s2:=hu.s2;rw[Zag,ZaG (x:=2*u.Slack) (by omega) (by omega),ZaG (x:=Zbt t u (ZaY t u s s.Routes[k] (s.Routes[k].length-1))+2*u.Slack) (by omega) (by omega),ZaL (by omega),ZcY c,List.any_append,List.flatMap_append];have el:decide (Zbt t u (ZaY t u s s.Routes[k] (s.Routes[k].length-1))+2*u.Slack>s.Deadline)=Znb t u s s.Routes[k]:=rfl;rw[el];simp only[List.any_cons,List.any_nil,Bool.or_false,List.flatMap_cons,List.flatMap_nil,List.append_nil,Zu];cases b<;>cases (s.Routes.take k).any (Znb t u s)<;>cases Znb t u s s.Routes[k]<;>simp
   right;obtain rfl:k=s.Routes.length:=by omega
   exact⟨(b||s.Routes.any (Znb t u s),U++s.Routes.flatMap (Zc5 t u (P.length:Int) s)),by rw[Zaq (by simp),Zaa],rfl⟩) N (b,0,U) ⟨0,rfl,by omega,by simp,by simp⟩ (by simp;omega)
 rw[ho,eo]
theorem ZrS (hT:Zez t=true)(hU:Zd6 u=true){l:List Zat}(hl:∀x∈l,Zbv t x=true)(h12:l.length<=12)(hN:30000000<=N):
  ZaO (λx:Bool×Int×(List Int)×(List ZaH)=>Zi1 N t u l x.1 x.2.1 x.2.2.1 x.2.2.2) N (false,0,[],[])=some ((accA t u l).late,(accA t u l).P,(accA t u l).U):=by
 have g:=Zbo.1 hT;have hu:=Zbx hU;obtain⟨o,ho,eo⟩:=Zb6 (body:=λx:Bool×Int×(List Int)×(List ZaH)=>Zi1 N t u l x.1 x.2.1 x.2.2.1 x.2.2.2)
  (λx=>∃k:Nat,x.2.1=k/\k<=l.length/\x.1=(accA t u (l.take k)).late/\x.2.2=((accA t u (l.take k)).P,(accA t u (l.take k)).U)) (λx=>(l.length-x.2.1).toNat)
  (λr=>r=((accA t u l).late,(accA t u l).P,(accA t u l).U)) (λx hx=>by
   obtain⟨b,i,y⟩:=x;obtain⟨k,k1,k2,k3,k4⟩:=hx;simp only at k1 k3 k4;subst k1 k3 k4;simp only[Zi1];by_cases c:k<l.length
   ·left;have hs:=hl _ (List.getElem_mem c);have ha:=Zjv (t:=t) (u:=u) g hu (l:=l.take k) λx hx=>hl x (List.mem_of_mem_take hx)
    have a1:=ha.pl;have a2:=ha.ul;have htl:(l.take k).length<=12:=by simp;omega
    refine⟨((accA t u (l.take (k+1))).late,((k+1:Nat):Int),(accA t u (l.take (k+1))).P,(accA t u (l.take (k+1))).U),?_,⟨k+1,rfl,by omega,rfl,rfl⟩,by simp;omega⟩;rw[Zar (by simpa using c),ZbM c];simp only[Zag];rw[ZaL (by omega),Zkw l k c];by_cases hc:l[k].Class=7
    ·have e:=Zn8 (N:=N) hT hU c (SS.of hs hc) (b:=(accA t u (l.take k)).late) (P:=(accA t u (l.take k)).P) (U:=(accA t u (l.take k)).U) (by omega) (by omega) hN;rw[Zaq (by simpa using hc),e,Zag,Ziy (by omega) (by omega),Zag];simp only[Zag];unfold Zfa;rw[Zar hc]
    rw[Zar (by simpa using hc)];unfold Zfa;rw[Zaq hc];rfl
   right;obtain rfl:k=l.length:=by omega
   exact⟨((accA t u l).late,(accA t u l).P,(accA t u l).U),by rw[Zaq (by simp),Zaa],rfl⟩) N (false,0,[],[]) ⟨0,rfl,by omega,by simp[accA],by simp[accA]⟩ (by simp;omega)
 rw[ho,eo]
theorem Zyd {P:List Int}{U:List ZaH}{b:Bool}{C:Int}(h0:0<=C)(h1:C<=960)(hl:U.length<=300)(hst:∀x∈U,0<=x.Stream/\x.Stream<(P.length:Int))(hp:∀x∈U,1<=perU P x)(q:Int)(hN:2000<=N):
  ZaO (λx:Int×Int=>ZiZ N (b,P,U) C q x.1 x.2) N (0,0)=some (ZgI P C U q):=by
 obtain⟨o,ho,eo⟩:=Zb6 (body:=λx:Int×Int=>ZiZ N (b,P,U) C q x.1 x.2)
  (λx=>∃k:Nat,x.2=k/\k<=U.length/\x.1=ZgI P C (U.take k) q) (λx=>(U.length-x.2).toNat) (λr=>r=ZgI P C U q) (λx hx=>by
   obtain⟨c,i⟩:=x;obtain⟨k,k1,k2,k3⟩:=hx;simp only at k1 k3;subst k1 k3;simp only[ZiZ];by_cases c:k<U.length
   ·left;have hm:=List.getElem_mem c;obtain⟨a1,a2⟩:=hst _ hm;have hq:=hp _ hm;have s1:=ZmF (P:=P) h0 h1 (U:=(U.take k).filter λx=>x.Port==q) λx hx=>hp x (List.mem_of_mem_take (List.mem_filter.1 hx).1)
    have hlen:((U.take k).filter λx=>x.Port==q).length<=300:=by
     have:=List.length_filter_le (λx:ZaH=>x.Port==q) (U.take k);have e:(U.take k).length<=300:=by simp;omega
     omega
    have d:=ZdG (a:=C) (B:=C) hq (by omega) (by omega) h0;have d0:0<=C/perU P U[k]:=Int.ediv_nonneg h0 (by omega);have et:C.tdiv (perU P U[k])=C/perU P U[k]:=Zp h0;have ew:IntKind.i64.wrap (C/perU P U[k])=C/perU P U[k]:=ZaG (by omega) (by omega);refine⟨(ZgI P C (U.take (k+1)) q,((k+1:Nat):Int)),?_,⟨k+1,rfl,by omega,rfl⟩,by simp;omega⟩;have es:ZgI P C (U.take (k+1)) q=ZgI P C (U.take k) q+(if U[k].Port==q then C/perU P U[k]else 0):=by
     unfold ZgI;rw[ZcY c,List.filter_append,ZuZ]
     congr 1
     cases hh:U[k].Port==q with
     |false=>simp[List.filter,hh,sumC]
     |true=>simp[List.filter,hh,sumC,et]
    have s2:0<=ZgI P C (U.take k) q/\ZgI P C (U.take k) q<=960*300:=by
     unfold ZgI;omega
    rw[Zar (by simpa using c),ZbM c];simp only[Zag];rw[Zkq a1 a2,Zag,Zjc (by omega),Zag,et,ew,ZaL (by omega),es];cases hh:U[k].Port==q with
    |false=>simp
    |true=>
     simp only[Zas];rw[Zag,ZaG (by omega) (by omega)]
   right;obtain rfl:k=U.length:=by omega
   exact⟨ZgI P C U q,by rw[Zaq (by simp),Zaa],rfl⟩) N (0,0) ⟨0,rfl,by omega,by simp[ZgI,sumC]⟩ (by simp;omega)
 rw[ho,eo]
theorem Zwd {P:List Int}{C:Int}{U:List ZaH}{n:Nat}(hp:∀x∈U,0<=x.Port/\x.Port<(n:Int)):allB n (λq=>!decide (ZgI P C U (q:Int)>63))=!ZqK P C U:=by
 rw[Zf,Zbq];unfold ZqK;simp only[Zh,decide_eq_false_iff_not,List.any_eq_false,Zao];constructor
 ·intro h x hx hs;have:=hp x hx;refine h x.Port.toNat (by omega) ?_;rw[Zs this.1];exact hs
 intro h q hq hs;have hne:U.filter (λx=>x.Port==(q:Int))≠[]:=by
  intro e;unfold ZgI at hs;rw[e]at hs;simp[sumC]at hs
 obtain⟨x,hx⟩:=List.exists_mem_of_ne_nil _ hne;obtain⟨hx1,hx2⟩:=List.mem_filter.1 hx;have e:x.Port=(q:Int):=by simpa using hx2
 exact h x hx1 (by rw[e];exact hs)
theorem Zuo (l:List Zat)(hN:30000000<=N):Zl3 N t u l=some (ofS t u l):=by
 unfold Zl3 ofS;rw[Zll (by omega),Zag];cases hT:Zez t with
 |false=>rfl
 |true=>
  simp only[Zi,Zg,Zap,Zas];rw[Zqu,Zag];cases hU:Zd6 u with
  |false=>rfl
  |true=>
   simp only[Zi,Zg,Zap,Zas];rw[Zm0 _ (by omega),Zag];by_cases hA:allR t l=0
   ·obtain⟨h12,hl⟩:=Zp2 hA;have g:=Zbo.1 hT;rw[Zar hA,hA,Zaq (by simp),ZrS hT hU hl h12 hN,Zag];obtain⟨h1,h2,h3,h4,h5,h6,h7⟩:=Zjv (t:=t) (u:=u) g (Zbx hU) hl;obtain⟨a,ea⟩:∃a,a=accA t u l:=⟨_,rfl⟩;rw[←ea]at h1 h2 h3 h4 h5 h6 h7⊢;have hper:∀x∈a.U,1<=perU a.P x:=λx hx=>by
     obtain⟨c,d⟩:=h4 x hx;have:=Zjj.1 (List.all_eq_true.1 h3 _ (Zut c d));omega
    have hlp:=Zom h3;simp only;rw[Znw (by omega) (by omega) h3,Zag];unfold errC;by_cases hc:lcmL a.P<=960
    ·rw[Zar hc,Zar hc,Zaq (by simp;omega)];have hl24:=g.l24;rw[Zbh (n:=2*t.Links.length) (p:=λq=>!decide (ZgI a.P (lcmL a.P) a.U (q:Int)>63)) (bad:=.inr (Ztw,7)) (fin:=.inl ()) (λq hq=>by
       simp only[ZlD];rw[ZaG (x:=2*((List.length t.Links:Nat):Int)) (by omega) (by omega),Zar (by simp;omega),Zyd (by omega) (by omega) (by omega) h4 hper (q:Int) (by omega),Zag,ZaL (by omega)];by_cases d:ZgI a.P (lcmL a.P) a.U (q:Int)>63
       ·rw[Zar (by simpa using d),Zaq (by simpa using d)];rfl
       ·rw[Zaq (by simpa using d),Zar (by simpa using d)]) (by
       simp only[ZlD];rw[ZaG (x:=2*((List.length t.Links:Nat):Int)) (by omega) (by omega),Zaq (by simp)]) (by omega),Zwd (λx hx=>by
       have:=h5 x hx;simp only[Zcy,Ze,Zao]at this;omega)]
     cases hf:ZqK a.P (lcmL a.P) a.U with
     |true=>rfl
     |false=>
      simp only[Bool.not_false,Zas,Zg,Zap,Zag];obtain⟨o,ho,eo⟩:=Zb6 (body:=λx:Bool×Int=>ZlC N (a.late,a.P,a.U) x.1 x.2)
       (λx=>∃k:Nat,x.2=k/\k<=a.U.length/\x.1=ZiC a.P (a.U.take k)) (λx=>(a.U.length-x.2).toNat) (λr=>r=ZiC a.P a.U) (λx hx=>by
        obtain⟨c,i⟩:=x;obtain⟨k,k1,k2,k3⟩:=hx;simp only at k1 k3;subst k1 k3;simp only[ZlC];by_cases c:k<a.U.length
        ·left;obtain⟨a1,a2⟩:=h4 _ (List.getElem_mem c);refine⟨(ZiC a.P (a.U.take (k+1)),((k+1:Nat):Int)),?_,⟨k+1,rfl,by omega,rfl⟩,by simp;omega⟩;have es:ZiC a.P (a.U.take (k+1))=(ZiC a.P (a.U.take k)||decide (a.U[k].Long>perU a.P a.U[k])):=by
          unfold ZiC;rw[ZcY c,List.any_append];simp
         rw[Zar (by simpa using c),ZbM c];simp only[Zag];rw[Zkq a1 a2,Zag,ZaL (by omega),es];cases ZiC a.P (a.U.take k)with
         |true=>rfl
         |false=>cases decide (a.U[k].Long>perU a.P a.U[k])<;>rfl
        right;obtain rfl:k=a.U.length:=by omega
        exact⟨ZiC a.P a.U,by rw[Zaq (by simp),Zaa],rfl⟩) N (false,0) ⟨0,rfl,by omega,by simp[ZiC]⟩ (by simp;omega)
      rw[ho,Zag,eo];cases ZiC a.P a.U with
      |true=>rfl
      |false=>cases a.late<;>rfl
    rw[Zaq hc,Zaq hc];rfl
   rw[Zaq hA,Zar (by simpa using hA)];rfl
end
end Go.Sh
namespace Go.Sh
open Go Go.Eng
section
variable {N:Nat} {t:Zav} {u:Zay} {s:Zat}
theorem ZxU (a:Ac)(x:Zat):∃P' U',(Zfa t u a x).P=a.P++P'/\(Zfa t u a x).U=a.U++U':=by
 unfold Zfa;by_cases c:x.Class=7
 ·rw[Zar c];exact⟨_,_,rfl,rfl⟩
 rw[Zaq c];exact⟨[],[],by simp,by simp⟩
theorem Zvh:∀(l:List Zat) (a:Ac),∃P' U',(l.foldl (Zfa t u) a).P=a.P++P'/\(l.foldl (Zfa t u) a).U=a.U++U'
 |[],a=>⟨[],[],by simp,by simp⟩
 |x::l,a=>by
  obtain⟨P1,U1,h1,h2⟩:=ZxU (t:=t) (u:=u) a x;obtain⟨P2,U2,h3,h4⟩:=Zvh l (Zfa t u a x);exact⟨P1++P2,U1++U2,by rw[ZB,h3,h1,Zu],by rw[ZB,h4,h2,Zu]⟩
theorem ZuP (l:List Zat)(k:Nat):∃P' U',(accA t u l).P=(accA t u (l.take k)).P++P'/\(accA t u l).U=(accA t u (l.take k)).U++U':=by
 unfold accA;have:=Zvh (t:=t) (u:=u) (l.drop k) ((l.take k).foldl (Zfa t u) ⟨false,[],[]⟩)
 rwa [←ZA,List.take_append_drop]at this
theorem Zxl {a:Ac}(h:errC a=0):lcmL a.P<=960/\ZiC a.P a.U=false/\a.late=false:=by
 unfold errC at h;by_cases c:lcmL a.P<=960
 ·rw[Zar c]at h;by_cases d:ZqK a.P (lcmL a.P) a.U=true
  ·rw[Zar d]at h;omega
  rw[Zaq d]at h;by_cases e:ZiC a.P a.U=true
  ·rw[Zar e]at h;omega
  rw[Zaq e]at h;by_cases f:a.late=true
  ·rw[Zar f]at h;omega
  exact⟨c,by simpa using e,by simpa using f⟩
 rw[Zaq c]at h;omega
theorem Zpe (g:Good t){a:Ac}{n:Nat}(h:AcOK t u n a)(hn:n<=12)(he:errC a=0):ZjM ⟨a.P,a.U⟩=true:=by
 obtain⟨h1,h2,h3,h4,h5,h6,h7⟩:=h;obtain⟨e1,e2,e3⟩:=Zxl he;refine Zpd.2 ⟨by simp only;omega,by simp only;omega,h3,?_,e1⟩;rw[Zt];intro x hx;have p:=h5 x hx;have hl:=g.l24;simp only[Zcy,Ze,Zao]at p;have w:x.Long<=perU a.P x:=by
  unfold ZiC at e2;rw[List.any_eq_false]at e2;have:=e2 x hx;simp only[Zao]at this;omega
 obtain⟨s1,s2⟩:=h4 x hx;obtain⟨f1,f2⟩:=h6 x hx;obtain⟨l1,_⟩:=h7 x hx;exact ZhA.2 ⟨s1,s2,by omega,by omega,f1,f2,l1,w⟩
end
end Go.Sh
namespace Go.Sh
open Go Go.Eng
section
variable {N:Nat} {p:Zax}
theorem ZAs (hN:2000<=N)(h:VP p){given:List Int}(hg:∀y∈given,0<=y/\y<=1000){x:Int}(h0:0<=x)(h1:x<=1000)(hl:given.length<=12):∃r,Zok N p given x=some r:=by
 obtain⟨r,hr,_⟩:=Zb6 (body:=λy:Int=>ZlB N p given x y) (λy=>∃k:Nat,y=k/\k<=given.length) (λy=>((given.length:Int)-y).toNat) (λ_=>True) (λy hy=>by
   obtain⟨k,rfl,k1⟩:=hy;simp only[ZlB];by_cases c:k<given.length
   ·have q:=hg _ (List.getElem_mem c);rw[Zar (by simpa using c),ZbM c,Zag,Zlf hN h h0 h1 q.1 q.2,Zag];split
    ·exact .inr ⟨_,rfl,trivial⟩
    exact .inl ⟨_,rfl,⟨k+1,by rw[ZaL (by omega)],by omega⟩,by rw[ZaL (by omega)];omega⟩
   exact .inr ⟨_,by rw[Zaq (by simp;omega)],trivial⟩) N 0 ⟨0,rfl,by omega⟩ (by omega)
 unfold Zok;rw[hr,Zag];cases r with
 |inl _=>
  simp only;rw[Zlf hN h h0 h1 h0 h1,Zag];split<;>exact⟨_,rfl⟩
 |inr q=>exact⟨_,rfl⟩
def Zvv (l:List Zcb)(r:Za1):Prop:=l.length<=r.Proof.length/\r.Proof.length<=41
theorem ZtX (hN:2000<=N)(h:VP p){R:Zax->Za1->List Int->Int->Option Za1}{s:Za1}{given:List Int}(hl:given.length<p.Periods.length)(hs:s.Proof.length<=41)(hg:∀y∈given,0<=y/\y<=1000)
  (hR:∀(s':Za1) (x:Int),s'.Proof.length<=41->0<=x->x<=1000->given.length+1<p.Periods.length->∃r,R p s' (given++[x]) 40=some r/\Zvv s'.Proof r):
  ∃r,ZgF N R p s given 40=some r/\Zvv s.Proof r:=by
 unfold ZgF;by_cases hc:40<(s.Proof.length:Int)
 ·rw[Zar (by simpa using hc)];exact⟨_,rfl,Nat.le_refl _,hs⟩
 have hP:=h.len;have hper:=h.per _ (List.getElem_mem hl);rw[Zaq (by simpa using hc),Zew (by simp;omega) (by omega),Zag];obtain⟨r,hr,e⟩:=Zb6 (body:=λx:Int×Int×(List Zdj)×(List Zcb)×(List Int)=>ZdM N R p given 40 x.1 x.2.1 x.2.2.1 x.2.2.2.1 x.2.2.2.2)
  (λy=>∃k:Nat,y.1=k/\k<=240/\y.2.2.1.length<=k/\s.Proof.length+1<=y.2.2.2.1.length/\y.2.2.2.1.length<=41)
  (λy=>((241:Int)-y.1).toNat)
  (λr=>(∃a b c d,r=.inl (a,b,c,d)/\s.Proof.length+1<=c.length/\c.length<=41)∨∃st,r=.inr st/\Zvv s.Proof st) (λy hy=>by
   obtain⟨i,wh,arms,pr,of⟩:=y;obtain⟨k,k0,k1,k2,k3,k4⟩:=hy;simp only at k0 k2 k3 k4;subst k0;simp only[ZdM];rw[ZbM hl,Zag];by_cases c:(k:Int)<p.Periods[given.length]
   ·rw[Zar (by simpa using c)];by_cases c1:(((List.length given:Nat):Int)==0&&(k:Int)==1)=true
    ·rw[Zar c1,ZbX 0 (by omega) (by omega),Zag,Zew (by simp;omega) (by omega),Zag];exact .inr ⟨_,rfl,.inl ⟨_,_,_,_,rfl,k3,k4⟩⟩
    rw[Zaq c1];obtain⟨b,hb⟩:=ZAs hN h hg (x:=(k:Int)) (by omega) (by omega) (by omega);have hw:w64 ((k:Int)+1)=((k+1:Nat):Int):=ZaL (by omega);rw[hb,Zag];by_cases c2:(b != -1)=true
    ·rw[Zar c2];have arm:∃l:List Zdj,((((if(decide (((List.length arms:Nat):Int)>0))then((idx arms (w64 (((List.length arms:Nat):Int)-1))).bind λe1038=>(some (e1038.By==b)))else(some false))).bind λ(j1042:Bool)=>(if j1042 then((idx arms (w64 (((List.length arms:Nat):Int)-1))).bind λe1045=>(some (List.set arms (Int.toNat (w64 (((List.length arms:Nat):Int)-1))) (Zdj.mk e1045.From (w64 ((k:Int)+1)) e1045.By e1045.Next))))else((appI 32 arms [(Zdj.mk (k:Int) (w64 ((k:Int)+1)) b 0)]).bind λl1051=>(some l1051)))))=some l/\l.length<=k+1:=by
      by_cases hn:arms.length=0
      ·obtain rfl:=List.eq_nil_of_length_eq_zero hn;exact⟨[⟨k,w64 ((k:Int)+1),b,0⟩],by simp[Zew],by simp⟩
      have e:w64 (((List.length arms:Nat):Int)-1)=((arms.length-1:Nat):Int):=by rw[ZaG (by omega) (by omega)];omega
      rw[Zar (by simp;omega),e,ZbM (by omega),Zag,Zag];split
      ·exact⟨_,rfl,by simp;omega⟩
      rw[Zew (by simp;omega) (by omega)];exact⟨_,rfl,by simp;omega⟩
     obtain⟨l,hl1,hl2⟩:=arm;rw[hl1,Zag,hw];exact .inl ⟨_,rfl,⟨k+1,rfl,by omega,hl2,k3,k4⟩,by simp only;omega⟩
    rw[Zaq c2,Zew (by simp;omega) (by omega),Zag,Z4,Zew (by simp;omega) (by omega),Zag];by_cases c3:(((List.length (given++[(k:Int)]):Nat):Int)==((List.length p.Periods:Nat):Int))=true
    ·rw[Zar c3];exact .inr ⟨_,rfl,.inr ⟨_,rfl,by simp only;omega,k4⟩⟩
    rw[Zaq c3,Zew (by simp;omega) (by omega),Zag];simp only[ZS,ZX,beq_iff_eq]at c3;obtain⟨st,hst,s1,s2⟩:=hR ⟨pr,of,wh⟩ (k:Int) k4 (by omega) (by omega) (by omega);rw[hst,Zag];simp only at s1;by_cases c4:(st.What !=0)=true
    ·rw[Zar c4];exact .inr ⟨_,rfl,.inr ⟨_,rfl,by omega,s2⟩⟩
    rw[Zaq c4,hw];exact .inl ⟨_,rfl,⟨k+1,rfl,by omega,by simp;omega,by simp only;omega,s2⟩,by simp only;omega⟩
   rw[Zaq (by simpa using c)];exact .inr ⟨_,rfl,.inl ⟨_,_,_,_,rfl,k3,k4⟩⟩) N (0,s.What,[],s.Proof++[⟨((List.length given:Nat):Int),[]⟩],s.Offsets) ⟨0,rfl,by omega,by simp,by simp,by simp;omega⟩ (by simp only;omega)
 rw[hr,Zag];rcases e with⟨a,b,c,d,rfl,e1,e2⟩|⟨st,rfl,e1⟩
 ·simp only;rw[ZbM (by omega),Zag];exact⟨_,rfl,by simp;omega,by simp;omega⟩
 exact⟨_,rfl,e1⟩
theorem Zrd (h:VP p):∀(n M:Nat) (s:Za1) (given:List Int),given.length+(n+1)=p.Periods.length->2000+n<M->s.Proof.length<=41->(∀y∈given,0<=y/\y<=1000)->∃r,Zhc M p s given 40=some r/\Zvv s.Proof r
 |n,0,s,given,_,hM,_,_=>by omega
 |n,M+1,s,given,hl,hM,hs,hg=>by
  refine ZtX (N:=M) (by omega) h (by omega) hs hg λs' x h1 h2 h3 h4=>?_
  cases n with
  |zero=>omega
  |succ n=>
   refine Zrd h n M s' (given++[x]) (by simp;omega) (by omega) h1 λy hy=>?_
   rcases List.mem_append.1 hy with hy|hy
   ·exact hg y hy
   rw[List.mem_singleton.1 hy];exact⟨h2,h3⟩
theorem Zwn (h:ZjM p=true)(hN:3000<=N):∃r,ZiW N p 40=some r:=by
 unfold ZiW;rw[Zqq (by omega),h,Zag,Zaq (by simp),Zaq (by decide)];have hv:=VP.of h;have hl:=hv.len;by_cases c:p.Periods.length=0
 ·rw[Zar (by simp[c])];exact⟨_,rfl⟩
 rw[Zaq (by simpa using c)];obtain⟨r,hr,_⟩:=Zrd hv (p.Periods.length-1) N ⟨[],[],0⟩ [] (by simp;omega) (by omega) (by simp) (by simp);rw[hr,Zag];split
 ·exact⟨_,rfl⟩
 split<;>exact⟨_,rfl⟩
end
end Go.Sh

namespace Go.Sh
open Go Go.Eng
theorem Zy0 {α β S ρ:Type}(l:List α)(f:β->α->β)(J:Nat->β->Prop)(e:Nat->β->S){body:S->Option (S⊕ρ)}{fin:β->ρ}
  (hstep:∀k (hk:k<l.length) b,J k b->body (e k b)=some (.inl (e (k+1) (f b l[k])))/\J (k+1) (f b l[k])) (hend:∀b,J l.length b->body (e l.length b)=some (.inr (fin b))):
  ∀(n k M:Nat) (b:β),l.length-k=n->k<=l.length->J k b->n<M->ZaO body M (e k b)=some (fin ((l.drop k).foldl f b))/\J l.length ((l.drop k).foldl f b)
 |n,k,0,b,_,_,_,h=>by omega
 |0,k,M+1,b,hn,hk,hJ,h=>by
  obtain rfl:k=l.length:=by omega
  rw[Za5 (hend b hJ),List.drop_length];exact⟨rfl,hJ⟩
 |n+1,k,M+1,b,hn,hk,hJ,h=>by
  obtain⟨h1,h2⟩:=hstep k (by omega) b hJ;rw[ZbL h1,Zix (show k<l.length by omega),ZB];exact Zy0 l f J e hstep hend n (k+1) M _ (by omega) (by omega) h2 (by omega)
theorem ZpB {α β S ρ:Type}(l:List α)(f:β->α->β)(J:Nat->β->Prop)(e:Nat->β->S){body:S->Option (S⊕ρ)}{fin:β->ρ}{N:Nat}{b:β}(hN:l.length<N)(h0:J 0 b)
  (hstep:∀k (hk:k<l.length) b,J k b->body (e k b)=some (.inl (e (k+1) (f b l[k])))/\J (k+1) (f b l[k])) (hend:∀b,J l.length b->body (e l.length b)=some (.inr (fin b))):
  ZaO body N (e 0 b)=some (fin (l.foldl f b))/\J l.length (l.foldl f b):=by
 have:=Zy0 l f J e hstep hend l.length 0 N b (by omega) (by omega) h0 hN
 rwa [Zy]at this
section
variable {N:Nat} {t:Zav} {u:Zay} {s:Zat}
structure Tw where
 n:Nat
 s:Zat
 x:Int
 h:ZaX
def ZwF (t:Zav)(u:Zay)(n:Nat)(s:Zat)(x:Int)(r:List Int):List Tw:=(ZjO t u s r).map (Tw.mk n s x)
def Zry (t:Zav)(u:Zay)(n:Nat)(s:Zat)(x:Int):List Tw:=s.Routes.flatMap (ZwF t u n s x)
def ZlU (t:Zav)(u:Zay)(o:List Int)(a:Nat×List Tw)(s:Zat):Nat×List Tw:=if s.Class=7 then(a.1+1,a.2++Zry t u a.1 s (o.getD a.1 0))else a
def Zbn (t:Zav)(u:Zay)(l:List Zat)(o:List Int):Nat×List Tw:=l.foldl (ZlU t u o) (0,[])
def synW (u:Zay)(w:Tw):Za9:=⟨w.h.Port,w.h.Open+w.x*u.Grid,w.h.Long,w.s.Period*u.Grid⟩
def Zdl (u:Zay)(w:Tw):Int:=(w.h.Long+u.Grid-1)/u.Grid
structure TwOK (t:Zav) (u:Zay) (w:Tw):Prop where
 s:SS t w.s
 h:HN u w.h
 port:Zcy t w.h.Port=true
 x1:0<=w.x
 x2:w.x<w.s.Period
 grid:w.h.Open%u.Grid=0
theorem ZwW (hu:ZfE u)(g:Good t)(hs:Zkx s){r:List Int}(hv:ZbN t r=true){h:ZaX}(hh:h∈ZjO t u s r):h.Open%u.Grid=0:=by
 obtain⟨h1,h8,hp⟩:=Zca hv;obtain⟨k,hk,rfl⟩:=List.mem_map.1 hh;rw[Z2]at hk;cases k with
 |zero=>show(0:Int)%u.Grid=0;simp
 |succ k=>show Znj u _%u.Grid=0;unfold Znj;exact Int.mul_emod_left _ _
theorem ZuX (g:Good t)(hu:ZfE u)(h:SS t s){n:Nat}{x:Int}(x1:0<=x)(x2:x<s.Period){w:Tw}(hw:w∈Zry t u n s x):TwOK t u w:=by
 obtain⟨r,hr,hw⟩:=List.mem_flatMap.1 hw;obtain⟨hh,hm,rfl⟩:=List.mem_map.1 hw;have hs:=Zd4 h.str;obtain⟨a,b⟩:=Zsi g hu hs (h.rt r hr) hm;exact⟨h,a,b,x1,x2,ZwW hu g hs (h.rt r hr) hm⟩
theorem mulG {x G:Int}(h0:0<=x)(h1:x<=100000000)(hG:1<=G)(hG2:G<=10000):0<=x*G/\x*G<=1000000000000:=by
 constructor
 ·exact Int.mul_nonneg h0 (by omega)
 calc x*G<=100000000*10000:=Int.mul_le_mul h1 hG2 (by omega) (by omega)
  _=_:=by decide
theorem TwOK.num {w:Tw}(h:TwOK t u w)(hu:ZfE u):(0<=w.x*u.Grid/\w.x*u.Grid<=1000000000000)/\(0<=w.s.Period*u.Grid/\w.s.Period*u.Grid<=2400000)/\(0<=Zdl u w/\Zdl u w<=1552000)/\(0<=Zdl u w*u.Grid/\Zdl u w*u.Grid<=1000000000000):=by
 have p2:=h.s.per2;have p1:=h.s.per1;have x1:=h.x1;have x2:=h.x2;obtain⟨_,_,_,_,l1,l2,_⟩:=h.h;have g1:=hu.g1;have g2:=hu.g2;have hu0:0<=Zdl u w/\Zdl u w<=1552000:=by
  have:=ZdG (a:=w.h.Long+u.Grid-1) (B:=1552000) g1 (by omega) (by omega) (by omega);exact⟨Int.ediv_nonneg (by omega) (by omega),this.2⟩
 refine⟨mulG x1 (by omega) g1 g2,⟨(mulG (by omega) (by omega) g1 g2).1,?_⟩,hu0,mulG hu0.1 (by omega) g1 g2⟩
 calc w.s.Period*u.Grid<=240*10000:=Int.mul_le_mul p2 g2 (by omega) (by omega)
  _=_:=by decide
theorem Ztn {a b:Int}(hb:1<=b)(ha:0<=a)(ha2:a<=1000000000000000):quoI .i64 a b=some (a/b):=by
 rw[Zjc (by omega),Zp ha];show some (w64 (a/b))=_;have h1:=Int.ediv_nonneg ha (show 0<=b by omega);have h2:=Int.ediv_le_self b ha;rw[ZaG (by omega) (by omega)]
theorem ZsN (o:List Int):∀(l:List Zat) (a:Nat×List Tw) (b:Ac),a.1=b.P.length->(l.foldl (ZlU t u o) a).1=(l.foldl (Zfa t u) b).P.length
 |[],a,b,h=>h
 |s::l,a,b,h=>by
  rw[ZB,ZB];refine ZsN o l _ _ ?_;unfold ZlU Zfa;by_cases c:s.Class=7
  ·rw[Zar c,Zar c];simp[h]
  rw[Zaq c,Zaq c];exact h
theorem ZlT (l:List Zat)(o:List Int):(Zbn t u l o).1=(accA t u l).P.length:=ZsN o l _ _ rfl
theorem ZgU (l:List Zat)(o:List Int)(k:Nat)(hk:k<l.length):Zbn t u (l.take (k+1)) o=ZlU t u o (Zbn t u (l.take k) o) l[k]:=by
 unfold Zbn;rw[ZcY hk,ZA];rfl
theorem ZwZ {l:List Zat}{k:Nat}(hk:k<l.length)(hc:l[k].Class=7){o:List Int}(ho:ZjN ⟨(accA t u l).P,(accA t u l).U⟩ o=true):
  (Zbn t u (l.take k) o).1<o.length/\0<=o.getD (Zbn t u (l.take k) o).1 0/\o.getD (Zbn t u (l.take k) o).1 0<l[k].Period:=by
 obtain⟨h1,h2⟩:=Zr4 ho;simp only at h1;obtain⟨P',U',p1,_⟩:=ZuP (t:=t) (u:=u) l (k+1);rw[Zkw l k hk]at p1;unfold Zfa at p1;rw[Zar hc]at p1;simp only at p1;rw[ZlT];obtain⟨A,eA⟩:∃A,A=(accA t u (l.take k)).P:=⟨_,rfl⟩;rw[←eA]at p1⊢;have hlt:A.length<o.length:=by rw[h1,p1];simp
 have h3:=Zmm.1 (h2 _ hlt);obtain⟨_,_,a,b⟩:=h3;refine⟨hlt,a,?_⟩;simp only[Zr]at b;rw[p1]at b;have e:(A++[l[k].Period]++P').getD A.length 0=l[k].Period:=by
  rw[Zu,ZC,ZE (Nat.le_refl _)];simp
 rwa [e]at b
theorem Zrw (g:Good t)(hu:ZfE u){l:List Zat}(hl:∀x∈l,Zbv t x=true){o:List Int}(ho:ZjN ⟨(accA t u l).P,(accA t u l).U⟩ o=true):∀k,k<=l.length->(∀w∈(Zbn t u (l.take k) o).2,TwOK t u w)/\(Zbn t u (l.take k) o).2.length<=16*k
 |0,_=>by simp[Zbn]
 |k+1,hk=>by
  obtain⟨ih,ih2⟩:=Zrw g hu hl ho k (by omega);rw[ZgU l o k (by omega)];unfold ZlU;by_cases c:l[k].Class=7
  ·rw[Zar c];obtain⟨h1,h2,h3⟩:=ZwZ (by omega) c ho;have hs:=SS.of (hl _ (List.getElem_mem (show k<l.length by omega))) c;have r2:=hs.r2;refine⟨λw hw=>?_,?_⟩
   ·rcases List.mem_append.1 hw with hw|hw
    ·exact ih w hw
    exact ZuX g hu hs h2 h3 hw
   have:=Zmp (ZwF t u (Zbn t u (l.take k) o).1 l[k] (o.getD (Zbn t u (l.take k) o).1 0)) (B:=8) l[k].Routes λr hr=>by
    have:=(Zca (hs.rt r hr)).2.1;simp[ZwF,ZjO];omega
   rw[ZS];unfold Zry;omega
  rw[Zaq c];exact⟨ih,by omega⟩
variable {σ:Type} {y:σ->Za9->Option (σ×Bool)} {F:σ->Tw->σ} {J:σ->Prop} {W:List Tw}
theorem ZqO (o:List Int):∀(l:List Zat) (a:Nat×List Tw) (w:Tw),w∈a.2->w∈(l.foldl (ZlU t u o) a).2
 |[],a,w,h=>h
 |s::l,a,w,h=>by
  rw[ZB];refine ZqO o l _ w ?_;unfold ZlU;split
  ·exact List.mem_append_left _ h
  exact h
theorem ZsM (l:List Zat)(o:List Int)(k:Nat){w:Tw}(h:w∈(Zbn t u (l.take k) o).2):w∈(Zbn t u l o).2:=by
 have:=ZqO (t:=t) (u:=u) o (l.drop k) _ w h;unfold Zbn at this⊢
 rwa [←ZA,List.take_append_drop]at this
theorem ZAi (hu:ZfE u){n:Nat}{x:Int}{hs:List ZaX}{e:Int}(h8:hs.length<=8)(hok:∀h∈hs,TwOK t u ⟨n,s,x,h⟩)(hW:∀h∈hs,(⟨n,s,x,h⟩:Tw)∈W)(hy:∀w∈W,∀z,J z->y z (synW u w)=some (F z w,true)/\J (F z w)){z:σ}(hz:J z)(hN:2000<=N):
  ZaO (λq:Int×σ=>ZbT N y u s x (hs,e) q.1 q.2) N (0,z)=some (.inl ((hs.map (Tw.mk n s x)).foldl F z))/\J ((hs.map (Tw.mk n s x)).foldl F z):=by
 have:=ZpB (body:=λq:Int×σ=>ZbT N y u s x (hs,e) q.1 q.2) (N:=N) hs (λb h=>F b ⟨n,s,x,h⟩) (λ_ b=>J b) (λk b=>((k:Int),b)) (fin:=.inl) (b:=z) (by omega) hz (λk hk b hb=>by
   have ok:=hok _ (List.getElem_mem hk);obtain⟨⟨a1,a2⟩,⟨b1,b2⟩,⟨c1,c2⟩,d1,d2⟩:=ok.num hu;obtain⟨_,_,o1,o2,l1,l2,_⟩:=ok.h;simp only at a1 a2 b1 b2 o1 o2;obtain⟨y1,y2⟩:=hy _ (hW _ (List.getElem_mem hk)) b hb;refine⟨?_,y2⟩;simp only[ZbT];rw[Zar (by simpa using hk),ZbM hk,Zag,ZaG (x:=x*u.Grid) (by omega) (by omega),ZaG (x:=hs[k].Open+x*u.Grid) (by omega) (by omega),ZaG (x:=s.Period*u.Grid) (by omega) (by omega)];have e:Za9.mk hs[k].Port (hs[k].Open+x*u.Grid) hs[k].Long (s.Period*u.Grid)=synW u ⟨n,s,x,hs[k]⟩:=rfl;rw[e,y1,Zag,Zaq (by simp),ZaL (by omega)]) (λb hb=>by simp[ZbT])
 rw[List.foldl_map];exact this
theorem ZAj (hT:Zez t=true)(hU:Zd6 u=true)(h:SS t s){n:Nat}{x:Int}(x1:0<=x)(x2:x<s.Period)(hW:∀w∈Zry t u n s x,w∈W)(hy:∀w∈W,∀z,J z->y z (synW u w)=some (F z w,true)/\J (F z w)){z:σ}(hz:J z)(hN:2000<=N):
  ZaO (λq:Int×σ=>ZbU N y t u s x q.1 q.2) N (0,z)=some (.inl ((Zry t u n s x).foldl F z))/\J ((Zry t u n s x).foldl F z):=by
 have g:=Zbo.1 hT;have hu:=Zbx hU;have r2:=h.r2;have:=ZpB (body:=λq:Int×σ=>ZbU N y t u s x q.1 q.2) (N:=N) s.Routes (λb r=>(ZwF t u n s x r).foldl F b) (λ_ b=>J b) (λk b=>((k:Int),b)) (fin:=.inl) (b:=z) (by omega) hz (λk hk b hb=>by
   have hv:=h.rt _ (List.getElem_mem hk);have h8:=(Zca hv).2.1;obtain⟨e1,e2⟩:=ZAi (N:=N) (t:=t) (s:=s) (n:=n) (x:=x) (e:=0) hu (hs:=ZjO t u s s.Routes[k]) (by simp[ZjO];omega) (λh' hh=>ZuX g hu h x1 x2 (List.mem_flatMap.2 ⟨_,List.getElem_mem hk,List.mem_map.2 ⟨h',hh,rfl⟩⟩)) (λh' hh=>hW _ (List.mem_flatMap.2 ⟨_,List.getElem_mem hk,List.mem_map.2 ⟨h',hh,rfl⟩⟩)) hy hb hN;refine⟨?_,e2⟩;simp only[ZbU];rw[Zar (by simpa using hk),Zge hT hU h.str h.cls (by omega) (by omega) (by omega),Zag,ZkD k hk];unfold ZjO at e1;rw[e1,Zag,ZaL (by omega)];rfl) (λb hb=>by simp[ZbU])
 unfold Zry;rw[List.foldl_flatMap];exact this
theorem ZnR (hT:Zez t=true)(hU:Zd6 u=true){l:List Zat}(hl:∀x∈l,Zbv t x=true)(h12:l.length<=12){o:List Int}(ho:ZjN ⟨(accA t u l).P,(accA t u l).U⟩ o=true)(hy:∀w∈(Zbn t u l o).2,∀z,J z->y z (synW u w)=some (F z w,true)/\J (F z w)){z:σ}(hz:J z)(hN:2000<=N):
  Zd1 N y l o t u z=some ((Zbn t u l o).2.foldl F z)/\J ((Zbn t u l o).2.foldl F z):=by
 have g:=Zbo.1 hT;have hu:=Zbx hU;unfold Zd1;obtain⟨r,hr,er,ej⟩:=Zb6 (body:=λq:Int×Int×σ=>Zcs N y l o t u q.1 q.2.1 q.2.2)
  (λq=>∃k:Nat,q=(((Zbn t u (l.take k) o).1:Int),(k:Int),(Zbn t u (l.take k) o).2.foldl F z)/\k<=l.length/\J ((Zbn t u (l.take k) o).2.foldl F z)) (λq=>(l.length-q.2.1).toNat)
  (λr=>r=.inl ((Zbn t u l o).2.foldl F z)/\J ((Zbn t u l o).2.foldl F z)) (λq hq=>by
   obtain⟨k,rfl,hk,hj⟩:=hq;simp only[Zcs];by_cases c:k<l.length
   ·left;rw[Zar (by simpa using c),ZbM c,Zag,ZaL (n:=k) (by omega)];have ex:=ZgU (t:=t) (u:=u) l o k c;unfold ZlU at ex;by_cases hc:l[k].Class=7
    ·obtain⟨h1,h2,h3⟩:=ZwZ c hc ho;have hs:=SS.of (hl _ (List.getElem_mem c)) hc;rw[Zar hc]at ex;obtain⟨e1,e2⟩:=ZAj (N:=N) hT hU hs h2 h3 (W:=(Zbn t u l o).2) (λw hw=>ZsM l o (k+1) (by rw[ex];exact List.mem_append_right _ hw)) hy hj hN;have h7:=ZlT (t:=t) (u:=u) (l.take k) o;have h8:=(Zjv (t:=t) (u:=u) g hu (l:=l.take k) λx hx=>hl x (List.mem_of_mem_take hx)).pl;rw[ZY]at h8;refine⟨(((Zbn t u (l.take (k+1)) o).1:Int),((k+1:Nat):Int),(Zbn t u (l.take (k+1)) o).2.foldl F z),?_,⟨k+1,rfl,by omega,?_⟩,by simp only;omega⟩
     ·rw[Zaq (by simpa using hc),ZbX 0 (by omega) (by omega),Zag,Zr,e1,Zag,ex,ZA,ZaL (n:=(Zbn t u (l.take k) o).1) (by omega)]
     rw[ex,ZA];exact e2
    rw[Zaq hc]at ex;refine⟨(((Zbn t u (l.take (k+1)) o).1:Int),((k+1:Nat):Int),(Zbn t u (l.take (k+1)) o).2.foldl F z),?_,⟨k+1,rfl,by omega,?_⟩,by simp only;omega⟩
    ·rw[Zar (by simpa using hc),ex]
    rw[ex];exact hj
   right;obtain rfl:k=l.length:=by omega
   rw[Zaa]at hj;rw[Zaq (by simp),Zaa];exact⟨_,rfl,rfl,hj⟩) N (0,0,z) ⟨0,by simp[Zbn],by omega,by simpa[Zbn]using hz⟩ (by simp only;omega)
 rw[hr,er];exact⟨rfl,ej⟩
end
end Go.Sh

namespace Go.Sh
open Go Go.Eng
def tabB (n C:Nat)(F:Nat->Nat->Bool):List (List Bool):=(List.range n).map λp=>(List.range C).map (F p)
theorem ZqP {n C:Nat}{F F':Nat->Nat->Bool}(h:∀p,p<n->∀i,i<C->F p i=F' p i):tabB n C F=tabB n C F':=by
 unfold tabB;refine List.map_congr_left λp hp=>List.map_congr_left λi hi=>h p (List.mem_range.1 hp) i (List.mem_range.1 hi)
theorem ZxT {n C q i:Nat}{F:Nat->Nat->Bool}(hq:q<n)(hi:i<C):(tabB n C F).set q (((List.range C).map (F q)).set i true)=tabB n C (λp k=>F p k||(decide (p=q)&&decide (i=k))):=by
 unfold tabB;refine List.ext_getElem (by simp) λp h1 h2=>?_
 simp only[ZU,ZW]at h2;rw[List.getElem_set];by_cases c:q=p
 ·subst c;rw[Zar rfl];simp only[ZQ,ZR];refine List.ext_getElem (by simp) λk h3 h4=>?_
  simp only[ZU,ZW]at h4;rw[List.getElem_set];simp only[ZQ,ZR];by_cases d:i=k
  ·simp[d]
  simp[d]
 rw[Zaq c];simp only[ZQ,ZR];refine List.map_congr_left λk _=>?_
 simp[Ne.symm c]
def ZuA (q C f U:Nat)(F:Nat->Nat->Bool):Nat->Nat->Bool:=λp i=>F p i||(decide (p=q)&&(List.range U).any λj=>decide ((f+j)%C=i))
theorem ZtF (q C f:Nat)(F:Nat->Nat->Bool):∀U,(List.range U).foldl (λG j=>λp i=>G p i||(decide (p=q)&&decide ((f+j)%C=i))) F=ZuA q C f U F
 |0=>by funext p i;simp[ZuA]
 |U+1=>by
  rw[Z7,ZA,ZtF q C f F U];funext p i;simp only[ZB,List.foldl_nil,ZuA,Z7,List.any_append,List.any_cons,List.any_nil,Bool.or_false];cases F p i<;>cases decide (p=q)<;>simp
section
variable {N:Nat} {t:Zav} {u:Zay} {s:Zat}
theorem ZYj {n C q f U:Nat}{F:Nat->Nat->Bool}(hq:q<n)(hC:0<C)(hC2:C<=960)(hf:f<=100000000)(hU:U<=2000000)(hN:30000000<=N):
  ZdI N ((C:Int),0) (tabB n C F) (q:Int) (f:Int) (U:Int)=some (tabB n C (ZuA q C f U F)):=by
 unfold ZdI;have:=(ZpB (body:=λx:Int×(List (List Bool))=>Zc0 N ((C:Int),0) (q:Int) (f:Int) (U:Int) x.1 x.2) (N:=N) (List.range U) (λG j=>λp i=>G p i||(decide (p=q)&&decide ((f+j)%C=i))) (λ_ _=>True) (λk G=>((k:Int),tabB n C G)) (fin:=tabB n C) (b:=F) (by rw[ZW];omega) trivial (λk hk G _=>by
   rw[ZW]at hk;refine⟨?_,trivial⟩;simp only[Zc0,ZR];have e:w64 ((f:Int)+(k:Int))=((f+k:Nat):Int):=by rw[ZaG (by omega) (by omega)];omega
   have hm:(f+k)%C<C:=Nat.mod_lt _ hC;have e2:(((f+k:Nat):Int)).tmod (C:Int)=(((f+k)%C:Nat):Int):=(Int.ofNat_tmod _ _).symm;rw[Zar (by simpa using hk)];unfold tabB;rw[ZhP _ hq,Zag,e,ZcR (by omega),Zag,e2,ZhP _ hm,Zag,Zr,Zr,ZaG (x:=(k:Int)+1) (by omega) (by omega)];have:=ZxT (F:=G) hq hm;unfold tabB at this;rw[this];rfl) (λG _=>by simp[Zc0])).1
 rw[ZtF]at this;rw[show((0:Nat):Int)=0 from rfl]at this;rw[this];rfl
def hitW (u:Zay)(w:Tw)(i:Nat):Bool:=decide (((i:Int)-(w.h.Open/u.Grid+w.x))%w.s.Period<Zdl u w)
theorem ZAm {b P C U i:Nat}(hP:0<P)(hd:P∣C)(hC:0<C)(hi:i<C):((List.range (C/P)).any λm=>(List.range U).any λj=>decide ((b+m*P+j)%C=i))=decide (((i:Int)-b)%P<U):=by
 obtain⟨c,rfl⟩:=hd;have hc:0<c:=Nat.pos_of_ne_zero λh=>by simp[h]at hC
 rw[Nat.mul_div_cancel_left c hP,Zf];simp only[List.any_eq_true,Z2,Zao];have hPi:(0:Int)<P:=by omega
 constructor
 ·rintro⟨m,hm,j,hj,e⟩;have h1:=Nat.div_add_mod (b+m*P+j) (P*c);rw[e]at h1;have h2:(i:Int)-b=j+P*(m-c*((b+m*P+j)/(P*c):Nat)):=by
   rw[Int.mul_sub,←Int.mul_assoc];have h3:((P*c*((b+m*P+j)/(P*c))+i:Nat):Int)=((b+m*P+j:Nat):Int):=by rw[h1]
   push_cast at h3⊢
   rw[Zo (P:Int) m];omega
  rw[h2,Zl];have:(j:Int)%P<=j:=by
   have:=Int.emod_add_mul_ediv (j:Int) P;have h4:0<=(P:Int)*((j:Int)/P):=Int.mul_nonneg (by omega) (Int.ediv_nonneg (by omega) (by omega));omega
  omega
 intro h;have r0:=Int.emod_nonneg ((i:Int)-b) (show(P:Int)≠0 by omega);have h1:=Int.emod_add_mul_ediv ((i:Int)-b) P;obtain⟨r,hr⟩:∃r:Nat,(r:Int)=((i:Int)-b)%P:=⟨_,Zs r0⟩;obtain⟨k,hk⟩:∃k,k=((i:Int)-b)/P:=⟨_,rfl⟩;rw[←hr,←hk]at h1;rw[←hr]at h;have hci:(0:Int)<c:=by omega
 have m0:=Int.emod_nonneg k (show(c:Int)≠0 by omega);have m1:=Int.emod_lt_of_pos k hci;have h2:=Int.emod_add_mul_ediv k c;obtain⟨m,hm⟩:∃m:Nat,(m:Int)=k%c:=⟨_,Zs m0⟩;rw[←hm]at h2 m1;refine⟨m,by omega,r,by omega,?_⟩;have h3:((b+m*P+r:Nat):Int)=i+(P*c:Nat)*(-(k/c)):=by
  have:(m:Int)*P=P*k-P*(c*(k/c)):=by
   rw[←Int.mul_sub,Zo]
   congr 1
   omega
  push_cast
  rw[this,Int.mul_neg,Int.mul_assoc];omega
 have h4:(((b+m*P+r)%(P*c):Nat):Int)=(i:Int):=by
  rw[Int.natCast_emod,h3,Zl,Zn (by omega) (by omega)]
 omega
theorem ZqN (q C P b U:Nat)(F:Nat->Nat->Bool):∀M,(List.range M).foldl (λG m=>ZuA q C (b+m*P) U G) F=λp i=>F p i||(decide (p=q)&&(List.range M).any λm=>(List.range U).any λj=>decide ((b+m*P+j)%C=i))
 |0=>by funext p i;simp
 |M+1=>by
  rw[Z7,ZA,ZqN q C P b U F M];funext p i;simp only[ZB,List.foldl_nil,ZuA,List.any_append,List.any_cons,List.any_nil,Bool.or_false];cases F p i<;>cases decide (p=q)<;>simp
def putW (u:Zay)(F:Nat->Nat->Bool)(w:Tw):Nat->Nat->Bool:=λp i=>F p i||(decide ((p:Int)=w.h.Port)&&hitW u w i)
theorem ZYi (g:Good t)(hu:ZfE u){w:Tw}(ok:TwOK t u w){C:Nat}(hC:0<C)(hC2:C<=960)(hd:w.s.Period.toNat∣C){F:Nat->Nat->Bool}(hN:30000000<=N):
  ZcD N u ((C:Int),0) (tabB (2*t.Links.length) C F) (synW u w)=some (tabB (2*t.Links.length) C (putW u F w)):=by
 obtain⟨⟨a1,a2⟩,⟨b1,b2⟩,⟨c1,c2⟩,d1,d2⟩:=ok.num hu;obtain⟨_,_,o1,o2,l1,l2,_⟩:=ok.h;have g1:=hu.g1;have g2:=hu.g2;have p1:=ok.s.per1;have p2:=ok.s.per2;have x1:=ok.x1;have x2:=ok.x2;have hport:=ok.port;simp only[Zcy,Ze,Zao]at hport;obtain⟨q,hq⟩:∃q:Nat,w.h.Port=q:=⟨w.h.Port.toNat,by omega⟩;obtain⟨P,hP⟩:∃P:Nat,w.s.Period=P:=⟨w.s.Period.toNat,by omega⟩;obtain⟨U,hU⟩:∃U:Nat,Zdl u w=U:=⟨(Zdl u w).toNat,by omega⟩;have hop:=Int.mul_ediv_add_emod w.h.Open u.Grid;rw[ok.grid]at hop;obtain⟨hd1,hd2⟩:=ZdG (a:=w.h.Open) (B:=20000000) g1 (by omega) o2 (by omega);have ho0:=Int.ediv_nonneg o1 (show 0<=u.Grid by omega);obtain⟨b,hb⟩:∃b:Nat,w.h.Open/u.Grid+w.x=b:=⟨(w.h.Open/u.Grid+w.x).toNat,by omega⟩;have hP0:0<P:=by omega
 rw[hP,Zr]at hd;have hfrom:w.h.Open+w.x*u.Grid=(b:Int)*u.Grid:=by rw[←hb,Int.add_mul,Zo (w.h.Open/u.Grid)];omega
 have hbig:∀k:Nat,k<=30000000->0<=(k:Int)*u.Grid/\(k:Int)*u.Grid<=1000000000000:=λk hk=>mulG (by omega) (by omega) g1 g2
 unfold ZcD synW;simp only;rw[ZaG (x:=w.h.Long+u.Grid) (by omega) (by omega),ZaG (x:=w.h.Long+u.Grid-1) (by omega) (by omega),Ztn g1 (by omega) (by omega),Zag];have hUe:(w.h.Long+u.Grid-1)/u.Grid=(U:Int):=hU;rw[hUe,hfrom];obtain⟨M,hM⟩:∃M,M=C/P:=⟨_,rfl⟩;have hMP:M*P=C:=by rw[hM];exact Nat.div_mul_cancel hd
 have:=(ZpB (body:=λx:Int×(List (List Bool))=>Zc1 N u ((C:Int),0) ⟨w.h.Port,(b:Int)*u.Grid,w.h.Long,w.s.Period*u.Grid⟩ (U:Int) x.1 x.2) (N:=N) (List.range M) (λG m=>ZuA q C (b+m*P) U G) (λ_ _=>True) (λk G=>(((b+k*P:Nat):Int)*u.Grid,tabB (2*t.Links.length) C G)) (fin:=tabB (2*t.Links.length) C) (b:=F) (by
   rw[ZW];have:M*1<=M*P:=Nat.mul_le_mul_left M hP0;omega) trivial (λk hk G _=>by
   rw[ZW]at hk;refine⟨?_,trivial⟩;simp only[Zc1,ZR];have hk2:k*P+P<=C:=by
    have:(k+1)*P<=M*P:=Nat.mul_le_mul_right P hk;rw[Nat.succ_mul]at this;omega
   have q1:=hbig (b+k*P) (by omega);have q2:=hbig (b+C) (by omega);have q3:=hbig C (by omega);have q4:=hbig b (by omega);have eC:(b:Int)*u.Grid+(C:Int)*u.Grid=((b+C:Nat):Int)*u.Grid:=by rw[←Int.add_mul];rfl
   have lt:((b+k*P:Nat):Int)*u.Grid<((b+C:Nat):Int)*u.Grid:=Int.mul_lt_mul_of_pos_right (by omega) (by omega);have dv:((b+k*P:Nat):Int)*u.Grid/u.Grid=((b+k*P:Nat):Int):=Int.mul_ediv_cancel _ (by omega);rw[ZaG (x:=(C:Int)*u.Grid) (by omega) (by omega),ZaG (x:=(b:Int)*u.Grid+(C:Int)*u.Grid) (by omega) (by omega),eC,Zar (by simpa using lt),Ztn g1 (by omega) (by omega),dv,Zag,hq,ZYj (by omega) hC hC2 (by omega) (by omega) hN,Zag];have nx:((b+k*P:Nat):Int)*u.Grid+w.s.Period*u.Grid=((b+(k+1)*P:Nat):Int)*u.Grid:=by
    rw[←Int.add_mul,hP,Nat.succ_mul]
    congr 1
    omega
   rw[nx,ZaG (by have:=hbig (b+(k+1)*P) (by rw[Nat.succ_mul];omega);omega) (by have:=hbig (b+(k+1)*P) (by rw[Nat.succ_mul];omega);omega)]) (λG _=>by
   simp only[Zc1,ZW];have q2:=hbig (b+C) (by omega);have q3:=hbig C (by omega);have q4:=hbig b (by omega);have eC:(b:Int)*u.Grid+(C:Int)*u.Grid=((b+C:Nat):Int)*u.Grid:=by rw[←Int.add_mul];rfl
   rw[ZaG (x:=(C:Int)*u.Grid) (by omega) (by omega),ZaG (x:=(b:Int)*u.Grid+(C:Int)*u.Grid) (by omega) (by omega),eC,hMP,Zaq (by simp)])).1
 rw[ZqN,Nat.zero_mul,Zae]at this;rw[this,Zag]
 congr 1
 refine ZqP λp hp i hi=>?_
 unfold putW;rw[hM,ZAm hP0 hd hC hi];unfold hitW;rw[hb,hP,hU,hq]
 congr 2
 exact decide_eq_decide.2 (by omega)
theorem ZwU (u:Zay):∀(ws:List Tw) (F:Nat->Nat->Bool),ws.foldl (putW u) F=λp i=>F p i||ws.any λw=>decide ((p:Int)=w.h.Port)&&hitW u w i
 |[],F=>by funext p i;simp
 |w::ws,F=>by
  rw[ZB,ZwU u ws];funext p i;simp only[putW,List.any_cons,Bool.or_assoc]
def e00:ZaF:=⟨0,0⟩
def ZfA (l:List ZaF):ZaF:=l.getD (l.length-1) e00
def addE (G:Int)(l:List ZaF)(m:Int):List ZaF:=if l≠[]/\(ZfA l).Mask=m then l.set (l.length-1) ⟨(ZfA l).Mask,(ZfA l).Long+G⟩else l++[⟨m,G⟩]
def ZgM (b:Bool):Int:=if b=true then 128 else 127
def Zqb (G:Int)(row:List Bool):List ZaF:=row.foldl (λl b=>addE G l (ZgM b)) []
theorem ZxC {G:Int}(l:List ZaF)(m:Int):addE G l m≠[]/\(ZfA (addE G l m)).Mask=m/\(addE G l m).length<=l.length+1/\(0<=(ZfA l).Long->0<=G->0<=(ZfA (addE G l m)).Long/\(ZfA (addE G l m)).Long<=(ZfA l).Long+G):=by
 unfold addE;split
 ·rename_i h;have hl:l.length-1<l.length:=by have:=List.length_pos_iff.2 h.1;omega
  have e:ZfA (l.set (l.length-1) ⟨(ZfA l).Mask,(ZfA l).Long+G⟩)=⟨(ZfA l).Mask,(ZfA l).Long+G⟩:=by
   unfold ZfA;rw[List.length_set,ZbC (by simpa using hl),List.getElem_set_self]
  rw[e];refine⟨λh'=>h.1 (by simpa using h'),h.2,by simp,λa b=>?_⟩;simp only;omega
 have e:ZfA (l++[⟨m,G⟩])=⟨m,G⟩:=by simp[ZfA]
 rw[e];refine⟨by simp,rfl,by simp,λa b=>?_⟩;simp only;omega
theorem ZyN {G m:Int}{l:List ZaF}(hl:l.length<=1000)(h1:0<=(ZfA l).Long)(h2:(ZfA l).Long<=100000000)(g1:0<=G)(g2:G<=10000){c:Bool}(hc:c=true↔l≠[]/\(ZfA l).Mask=m):
  (if c=true then((idx l (w64 (((List.length l:Nat):Int)-1))).bind λe1=>((idx l (w64 (((List.length l:Nat):Int)-1))).bind λe2=>(some (List.set l (Int.toNat (w64 (((List.length l:Nat):Int)-1))) (ZaF.mk e2.Mask (w64 (e1.Long+G)))))))else((appI 16 l [(ZaF.mk m G)]).bind λl1=>(some l1)))=some (addE G l m):=by
 unfold addE;by_cases d:l≠[]/\(ZfA l).Mask=m
 ·rw[Zar (hc.2 d),Zar d];have h0:0<l.length:=List.length_pos_iff.2 d.1;have e:w64 (((List.length l:Nat):Int)-1)=((l.length-1:Nat):Int):=by rw[ZaG (by omega) (by omega)];omega
  have e2:l[l.length-1]'(by omega)=ZfA l:=(ZbC (by omega) e00).symm;rw[e,ZbM (by omega),Zag,Zag,Zr,e2,ZaG (by omega) (by omega)]
 rw[Zaq (λh=>d (hc.1 h)),Zaq d,Zew (by simp;omega) (by omega),Zag]
theorem ZsY (G:Int):∀(row:List Bool) (a b:Int) (l:List ZaF),(row.foldl (λ(x:Int×Int×List ZaF) bit=>(ZgM bit,G,addE G x.2.2 (ZgM bit))) (a,b,l)).2.2=row.foldl (λl b=>addE G l (ZgM b)) l
 |[],a,b,l=>rfl
 |x::row,a,b,l=>by rw[ZB,ZB,ZsY G row]
theorem ZrE {row:List Bool}(hr:row.length<=960){G:Int}(g1:1<=G)(g2:G<=10000)(hN:2000<=N):ZkA N row G=some ⟨Zqb G row,(row.length:Int)*G⟩:=by
 unfold ZkA;have:=(ZpB (body:=λx:Int×Int×Int×(List ZaF)=>Zgz N row G x.1 x.2.1 x.2.2.1 x.2.2.2) (N:=N) row (λ(x:Int×Int×List ZaF) bit=>(ZgM bit,G,addE G x.2.2 (ZgM bit))) (λk x=>x.2.2.length<=k/\(x.2.2=[]->x.1=0)/\(x.2.2≠[]->(ZfA x.2.2).Mask=x.1/\x.2.1=G)/\0<=(ZfA x.2.2).Long/\(ZfA x.2.2).Long<=k*10000) (λk x=>((k:Int),x.1,x.2.1,x.2.2)) (fin:=λx=>x.2.2) (b:=(0,0,[])) (by omega) (by simp[ZfA,e00]) (λk hk x hx=>by
   obtain⟨a,b,l⟩:=x;obtain⟨j1,j2,j3,j4,j5⟩:=hx;simp only at j1 j2 j3 j4 j5⊢;obtain⟨n1,n2,n3,n4⟩:=ZxC (G:=G) l (ZgM row[k]);obtain⟨n5,n6⟩:=n4 j4 (by omega);refine⟨?_,by omega,λh=>absurd h n1,λ_=>⟨n2,trivial⟩,n5,by omega⟩;simp only[Zgz];have hm:(if row[k]=true then(some 128)else(some 127))=some (ZgM row[k]):=by unfold ZgM;cases row[k]<;>rfl
   rw[Zar (by simpa using hk),ZbM hk,Zag,hm,Zag,ZyN (m:=ZgM row[k]) (by omega) j4 (by omega) (by omega) g2 (c:=(ZgM row[k]==a)&&((G==b)&&true)) ?_,Zag,ZaL (by omega)];simp only[Bool.and_true,Ze,beq_iff_eq];constructor
   ·rintro⟨e1,e2⟩;by_cases hn:l=[]
    ·have:=j2 hn;unfold ZgM at e1;split at e1<;>omega
    exact⟨hn,by rw[(j3 hn).1,e1]⟩
   rintro⟨hn,e1⟩;exact⟨by rw[←e1,(j3 hn).1],(j3 hn).2.symm⟩) (λx hx=>by simp[Zgz])).1
 rw[show((0:Nat):Int)=0 from rfl]at this;rw[this,Zag,ZsY];obtain⟨m1,m2⟩:=mulG (x:=(row.length:Int)) (by omega) (by omega) g1 g2;rw[ZaG (by omega) (by omega)];rfl
def Zg2 (u:Zay)(ws:List Tw)(p i:Nat):Bool:=ws.any λw=>decide ((p:Int)=w.h.Port)&&hitW u w i
end
end Go.Sh

namespace Go.Sh
open Go Go.Eng
theorem ZtW {α:Type}{n:Nat}{g:Nat->α}{body:Int×List α->Option ((Int×List α)⊕List α)}(hstep:∀k:Nat,k<n->∀b:List α,b.length=n->body ((k:Int),b)=some (.inl (((k+1:Nat):Int),b.set k (g k))))
  (hend:∀b:List α,b.length=n->body ((n:Int),b)=some (.inr b)) {N:Nat} (hN:n<N) {b:List α} (hb:b.length=n):ZaO body N (0,b)=some ((List.range n).map g):=by
 obtain⟨r,hr,e⟩:=Zb6 (body:=body) (λx=>∃(k:Nat) (b:List α),x=((k:Int),b)/\k<=n/\b.length=n/\∀j,j<k->b[j]?=some (g j)) (λx=>((n:Int)-x.1).toNat) (λr=>r=(List.range n).map g) (λx hx=>by
  obtain⟨k,b,rfl,k1,k2,k3⟩:=hx;by_cases c:k<n
  ·refine .inl ⟨_,hstep k c b k2,⟨k+1,_,rfl,by omega,by rw[List.length_set,k2],λj hj=>?_⟩,by simp only;omega⟩;by_cases e:k=j
   ·subst e;rw[ZO (by omega)]
   rw[ZN e];exact k3 j (by omega)
  obtain rfl:k=n:=by omega
  refine .inr ⟨_,hend b k2,List.ext_getElem (by simp[k2]) λj h1 h2=>?_⟩;have:=k3 j (by omega);rw[ZI h1]at this;simpa using this) N (0,b) ⟨0,b,rfl,by omega,hb,λj hj=>by omega⟩ (by simp only;omega)
 rw[hr,e]
section
variable {N:Nat} {t:Zav} {u:Zay} {s:Zat}
def Zlt (t:Zav)(u:Zay)(ws:List Tw)(C:Nat):List ZaI:=(List.range (2*t.Links.length)).map λp=>⟨Zqb u.Grid ((List.range C).map (Zg2 u ws p)),(C:Int)*u.Grid⟩
def Zlr (t:Zav)(u:Zay)(l:List Zat)(o:List Int):List ZaI×Int:=
 if(ofS t u l).2=0 then(if ZjN (ofS t u l).1 o=true then(if ZiQ (ofS t u l).1 o=true then(Zlt t u (Zbn t u l o).2 (lcmL (ofS t u l).1.Periods),0)else([],380))else([],2))else([],(ofS t u l).2)
theorem Zr5 {l:List Zat}(h:(ofS t u l).2=0):Zez t=true/\Zd6 u=true/\allR t l=0/\errC (accA t u l)=0/\ofS t u l=(⟨(accA t u l).P,(accA t u l).U⟩,0):=by
 unfold ofS at h⊢;split at h
 ·rename_i h1;split at h
  ·rename_i h2;split at h
   ·rename_i h3;split at h
    ·rename_i h4;exact⟨h1,h2,h3,h4,by rw[Zar h1,Zar h2,Zar h3,Zar h4]⟩
    rename_i h4;exact absurd h h4
   rename_i h3;exact absurd h h3
  simp at h
 simp at h
theorem Zr1 (g:Good t)(hu:ZfE u){l:List Zat}(hl:∀x∈l,Zbv t x=true){o:List Int}:∀k,k<=l.length->∀w∈(Zbn t u (l.take k) o).2,w.s.Period∈(accA t u l).P
 |0,_=>by simp[Zbn]
 |k+1,hk=>by
  intro w hw;rw[ZgU l o k (by omega)]at hw;unfold ZlU at hw;by_cases c:l[k].Class=7
  ·rw[Zar c]at hw;rcases List.mem_append.1 hw with hw|hw
   ·exact Zr1 g hu hl k (by omega) w hw
   obtain⟨P',U',p1,_⟩:=ZuP (t:=t) (u:=u) l (k+1);rw[Zkw l k (by omega)]at p1;unfold Zfa at p1;rw[Zar c]at p1;obtain⟨r,hr,hw⟩:=List.mem_flatMap.1 hw;obtain⟨hh,hm,rfl⟩:=List.mem_map.1 hw;rw[p1];simp
  rw[Zaq c]at hw;exact Zr1 g hu hl k (by omega) w hw
def Zyq (u:Zay)(n C:Nat)(z:List (List Bool))(w:Tw):List (List Bool):=tabB n C (putW u (λp i=>(z.getD p []).getD i false) w)
theorem ZtG (n C:Nat)(F:Nat->Nat->Bool)(w:Tw):Zyq u n C (tabB n C F) w=tabB n C (putW u F w):=by
 unfold Zyq;refine ZqP λp hp i hi=>?_
 have e:(tabB n C F).getD p []=(List.range C).map (F p):=by
  unfold tabB;rw[ZbC (by simpa using hp),ZQ,ZR]
 have e2:((List.range C).map (F p)).getD i false=F p i:=by rw[ZbC (by simpa using hi),ZQ,ZR]
 unfold putW;simp only[e,e2]
theorem ZtU (n C:Nat):∀(ws:List Tw) (F:Nat->Nat->Bool),ws.foldl (Zyq u n C) (tabB n C F)=tabB n C (ws.foldl (putW u) F)
 |[],F=>rfl
 |w::ws,F=>by rw[ZB,ZB,ZtG,ZtU n C ws]
theorem Zp5 (l:List Zat)(o:List Int)(hN:30000000<=N):ZeS N t u l o=some (Zlr t u l o):=by
 have hN2:2000<=N:=by omega
 unfold ZeS Zlr;rw[ZvQ _ hN2,Zag];by_cases h0:(ofS t u l).2=0
 ·obtain⟨hT,hU,hA,he,hof⟩:=Zr5 h0;obtain⟨h12,hl⟩:=Zp2 hA;have g:=Zbo.1 hT;have hu:=Zbx hU;have hp:ZjM (ofS t u l).1=true:=by rw[hof];exact Zpe g (Zjv g hu hl) h12 he
  have hv:=VP.of hp;rw[Zaq (by simp[h0]),Zar h0,Ztp hN2,Zag];unfold ZAq;rw[Zar hp];cases ho:ZjN (ofS t u l).1 o with
  |false=>rfl
  |true=>
   rw[Zar rfl,Zar rfl];cases hs:ZiQ (ofS t u l).1 o with
   |false=>rfl
   |true=>
    simp only[Zam,Zg,Zap,Zi,Zas];rw[Zr0 hN2,Zar hp,Zag];simp only[Zam,Zg,Zap];have hC:=hv.lcm;have hC0:=hv.lpos;have h24:=g.l24;obtain⟨C,eC⟩:∃C,C=lcmL (ofS t u l).1.Periods:=⟨_,rfl⟩;rw[←eC]at hC hC0⊢;obtain⟨n,en⟩:∃n,n=2*t.Links.length:=⟨_,rfl⟩;have ew:w64 (2*((List.length t.Links:Nat):Int))=(n:Int):=by rw[ZaG (by omega) (by omega)];omega
    have ef:famI 24 (n:Int)=some (List.replicate n ([]:List Bool)):=by
     unfold famI;rw[Zar (by omega),Zr]
    have em:Zhr 1 (C:Int) (C:Int) false=some (List.replicate C false):=by
     unfold Zhr;rw[Zar (by omega),Zr]
    rw[ew,ef,Zag];have l1:=ZtW (n:=n) (g:=λ_=>List.replicate C false) (body:=λx:Int×(List (List Bool))=>Zc2 N ((C:Int),0) (List.replicate n []) x.1 x.2) (N:=N) (λk hk b hb=>by
     simp only[Zc2];rw[Zar (by simpa using hk),em,Zag,ZbM (by omega),Zag,ZaL (by omega),Zr]) (λb hb=>by simp[Zc2]) (by omega) (b:=List.replicate n []) (by simp)
    rw[l1,Zag];have e1:(List.range n).map (λ_=>List.replicate C false)=tabB n C (λ_ _=>false):=by
     unfold tabB;refine List.map_congr_left λp _=>?_
     rw[List.map_const',ZW]
    rw[e1];unfold Zfe;rw[Zag];have ho':ZjN ⟨(accA t u l).P,(accA t u l).U⟩ o=true:=by rw[hof]at ho;exact ho
    have hdv:∀w∈(Zbn t u l o).2,w.s.Period.toNat∣C:=λw hw=>by
     have:=Zr1 (t:=t) (u:=u) g hu hl (o:=o) l.length (Nat.le_refl _) w (by rw[Zaa];exact hw);rw[eC,hof];exact Zkm.1 (Nat.dvd_refl _) _ this
    have key:=(ZnR (N:=N) (t:=t) (u:=u) (y:=λ(s:(List (List Bool))) (x552:Za9)=>ZdS (λv:(List (List Bool))=>ZcD N u ((C:Int),0) v x552) s) (F:=Zyq u n C) (J:=λz=>∃F,z=tabB n C F) (o:=o) hT hU hl h12 ho' (λw hw z hz=>by
      obtain⟨F,rfl⟩:=hz;have ok:=(Zrw (t:=t) (u:=u) g hu hl ho' l.length (Nat.le_refl _)).1 w (by rw[Zaa];exact hw);rw[ZtG];refine⟨?_,_,rfl⟩;unfold ZdS;simp only;rw[en,ZYi g hu ok hC0 hC (hdv w hw) hN];rfl) (z:=tabB n C (λ_ _=>false)) ⟨_,rfl⟩ hN2).1
    rw[key,Zag,ZtU,ZwU];have ln:∀F,(tabB n C F).length=n:=λF=>by simp[tabB]
    have e2:Zhr 32 ((n:Nat):Int) ((n:Nat):Int) (ZaI.mk ([]) 0)=some (List.replicate n ⟨[],0⟩):=by
     unfold Zhr;rw[Zar (by omega),Zr]
    rw[ln,e2,Zag];have g1:=hu.g1;have g2:=hu.g2;have l6:=ZtW (n:=n) (g:=λp=>(⟨Zqb u.Grid ((List.range C).map (Zg2 u (Zbn t u l o).2 p)),(C:Int)*u.Grid⟩:ZaI)) (body:=λx:Int×(List ZaI)=>ZcZ N u (tabB n C (λp i=>false||(Zbn t u l o).2.any λw=>decide ((p:Int)=w.h.Port)&&hitW u w i)) (List.replicate n ⟨[],0⟩) x.1 x.2) (N:=N) (λk hk b hb=>by
     simp only[ZcZ];rw[Zar (by simpa using hk)];unfold tabB;rw[ZhP _ hk,Zag,ZrE (by simp;omega) g1 g2 hN2,Zag,ZbM (by omega),Zag,ZaL (by omega),Zr];simp only[Bool.false_or,ZU,ZW];rfl) (λb hb=>by simp[ZcZ]) (by omega) (b:=List.replicate n ⟨[],0⟩) (by simp)
    rw[l6,Zag];unfold Zlt;rw[←en]
 rw[Zar (by simpa using h0),Zaq h0]
theorem ZvB (n:Nat):Zjl (n+1000)=some true:=by kernel_rfl
theorem Zy7 (hN:2000<=N):Zjl N=some true:=by
 have:=ZvB (N-1000)
 rwa [show N-1000+1000=N by omega]at this
theorem Zw5 {c:Zfz}(hc:Zjx c)(hN:30000000+c.L.length<=N):∃t u l o,Zfq N c=some (t,u,l,o):=by
 obtain⟨hd,hl,hw,⟨_,hs⟩,_⟩:=hc;obtain⟨t,t1,t2,t3⟩:=Zwf (N:=N) (DOK.of hd) (by omega);obtain⟨u,u1,u2⟩:=Zl8 (N:=N) (Ze1 hw.1) (Ze1 hw.2.1) (Ze1 hw.2.2);obtain⟨l,s1,s2⟩:=Zl7 (N:=N) t2 t3 (λd hd=>SDOK.of (hl.2 d hd)) hl.1 (by omega);have hN2:2000<=N:=by omega
 unfold Zfq;rw[t1,Zag,u1,Zag,s1,Zag,Zuo _ (by omega),Zag];by_cases h0:(ofS t u l).2=0
 ·obtain⟨hT,hU,hA,he,hof⟩:=Zr5 h0;obtain⟨h12,hl'⟩:=Zp2 hA;have hp:ZjM (ofS t u l).1=true:=by rw[hof];exact Zpe t2 (Zjv t2 (Zbx hU) hl') h12 he
  obtain⟨q,hq,_⟩:=ZrQ hN2 (VP.of hp) hs;rw[Zaq (by simp[h0]),hq];obtain⟨r,hr⟩:=Zwn (N:=N) hp (by omega);rw[hr];cases c.Find with
  |false=>exact⟨_,_,_,_,rfl⟩
  |true=>
   rw[Zar rfl,Zag];split<;>exact⟨_,_,_,_,rfl⟩
 rw[Zar (by simpa using h0)];exact⟨_,_,_,_,rfl⟩
end
end Go.Sh

namespace Go.Sh
open Go Go.Eng
def Zxs (p:Zax)(l:List Int):Bool:=allB l.length λi=>allB l.length λj=>!(Zkl p i (l.getD i 0) j (l.getD j 0))
theorem ZrH {p:Zax}(h:VP p)(l:List Int):ZiQ p l=Zxs p l:=by
 unfold ZiQ Zxs;rw[Zf];simp only[Zbq];constructor
 ·intro q i hi j hj;rcases Nat.le_total j i with c|c
  ·exact q i hi j (by omega)
  have:=q j hj i (by omega)
  rwa [Zq0 h]at this
 intro q i hi j hj;exact q i hi j (by omega)
end Go.Sh
namespace Go.Sh
open Go Go.Eng
theorem Zhw (n:Nat)(q:Nat->Bool):(List.range (n+1)).countP q=(List.range n).countP q+(if q n=true then 1 else 0):=by
 rw[Z7,List.countP_append];simp[List.countP_cons]
theorem Zuw {n:Nat}{q:Nat->Bool}:0<(List.range n).countP q↔∃k,k<n/\q k=true:=by
 rw[List.countP_pos_iff];simp
theorem Zze {n:Nat}{q:Nat->Bool}:1<(List.range n).countP q↔∃k m,k<n/\m<n/\k≠m/\q k=true/\q m=true:=by
 induction n with
 |zero=>simp
 |succ n ih=>
  rw[Zhw];by_cases c:q n=true
  ·rw[Zar c];constructor
   ·intro h;obtain⟨k,h1,h2⟩:=Zuw.1 (show 0<(List.range n).countP q by omega);exact⟨k,n,by omega,by omega,by omega,h2,c⟩
   rintro⟨k,m,h1,h2,h3,h4,h5⟩;have:0<(List.range n).countP q:=by
    by_cases e:k=n
    ·exact Zuw.2 ⟨m,by omega,h5⟩
    exact Zuw.2 ⟨k,by omega,h4⟩
   omega
  rw[Zaq c,Zae,ih];constructor
  ·rintro⟨k,m,h1,h2,h3,h4,h5⟩;exact⟨k,m,by omega,by omega,h3,h4,h5⟩
  rintro⟨k,m,h1,h2,h3,h4,h5⟩;refine⟨k,m,?_,?_,h3,h4,h5⟩
  ·by_cases e:k=n
   ·subst e;exact absurd h4 c
   omega
  by_cases e:m=n
  ·subst e;exact absurd h5 c
  omega
end Go.Sh
namespace Go.Sh
open Go Go.Eng
section
variable {N:Nat} {t:Zav} {u:Zay} {s:Zat}
def useW (u:Zay)(w:Tw):ZaH:=useH u (w.n:Int) w.s.Period w.h
theorem ZsL (o:List Int):∀(l:List Zat) (a:Nat×List Tw) (b:Ac),a.1=b.P.length->b.U=a.2.map (useW u)->(l.foldl (Zfa t u) b).U=(l.foldl (ZlU t u o) a).2.map (useW u)
 |[],a,b,_,h=>h
 |s::l,a,b,h1,h2=>by
  rw[ZB,ZB];refine ZsL o l _ _ ?_ ?_
  ·unfold ZlU Zfa;by_cases c:s.Class=7
   ·rw[Zar c,Zar c];simp[h1]
   rw[Zaq c,Zaq c];exact h1
  unfold ZlU Zfa;by_cases c:s.Class=7
  ·rw[Zar c,Zar c];simp only[ZZ,h2,Zry,List.map_flatMap,←h1]
   congr 1
   refine congrArg (λf=>List.flatMap f s.Routes) (funext λr=>?_);simp only[Zc5,ZwF,List.map_map];rfl
  rw[Zaq c,Zaq c];exact h2
theorem ZmE (l:List Zat)(o:List Int):(accA t u l).U=(Zbn t u l o).2.map (useW u):=ZsL o l _ _ rfl rfl
theorem Zrx {l:List Zat}{o:List Int}:∀k,k<=l.length->∀w∈(Zbn t u (l.take k) o).2,w.x=o.getD w.n 0/\w.n<(accA t u l).P.length/\(accA t u l).P.getD w.n 0=w.s.Period
 |0,_=>by simp[Zbn]
 |k+1,hk=>by
  intro w hw;rw[ZgU l o k (by omega)]at hw;unfold ZlU at hw;by_cases c:l[k].Class=7
  ·rw[Zar c]at hw;rcases List.mem_append.1 hw with hw|hw
   ·exact Zrx k (by omega) w hw
   obtain⟨P',U',p1,_⟩:=ZuP (t:=t) (u:=u) l (k+1);rw[Zkw l k (by omega)]at p1;unfold Zfa at p1;rw[Zar c]at p1;simp only at p1;rw[ZlT]at hw;obtain⟨r,hr,hw⟩:=List.mem_flatMap.1 hw;obtain⟨hh,hm,rfl⟩:=List.mem_map.1 hw;obtain⟨A,eA⟩:∃A,A=(accA t u (l.take k)).P:=⟨_,rfl⟩;rw[←eA]at p1⊢;refine⟨rfl,by rw[p1];simp,?_⟩;show(accA t u l).P.getD A.length 0=l[k].Period;rw[p1,Zu,ZC,ZE (Nat.le_refl _)];simp
  rw[Zaq c]at hw;exact Zrx k (by omega) w hw
def covS (a:ZaM)(x:Int):Prop:=(x-a.From)%a.Period<a.Long
theorem Zxr {a:ZaM}(x:Int){m:Int}(h:a.Period∣m):covS a (x%m)↔covS a x:=by
 unfold covS;rw[Int.sub_emod,Zm _ h,←Int.sub_emod]
theorem ZvE {p:Zax}(hp:ZjM p=true){o:List Int}(ho:ZjN p o=true)(hs:ZiQ p o=true){k m:Nat}(hk:k<p.Uses.length)(hm:m<p.Uses.length)(hne:k≠m)(hpq:p.Uses[k].Port=p.Uses[m].Port)(x:Int):
  ¬(covS (ZeT p p.Uses[k] (o.getD p.Uses[k].Stream.toNat 0)) x/\covS (ZeT p p.Uses[m] (o.getD p.Uses[m].Stream.toNat 0)) x):=by
 have h:=VP.of hp;have hl:=(Zr4 ho).1;rw[ZrH h]at hs;unfold Zxs at hs;obtain⟨a1,a2,_⟩:=h.use _ (List.getElem_mem hk);obtain⟨b1,b2,_⟩:=h.use _ (List.getElem_mem hm);have h1:=Zbq.1 (Zbq.1 hs p.Uses[k].Stream.toNat (by omega)) p.Uses[m].Stream.toNat (by omega);unfold Zkl at h1;rw[Bool.not_not]at h1;have h2:=Zbq.1 (Zbq.1 h1 k hk) m hm;unfold hitB at h2;rw[ZbC hk,ZbC hm,Zs a1,Zs b1]at h2;simp only[hne,hpq,ne_eq,not_false_eq_true,decide_true,beq_self_eq_true,Zk,Bool.not_not,Zao]at h2;have v1:=h.vspan (List.getElem_mem hk) (o.getD p.Uses[k].Stream.toNat 0);have v2:=h.vspan (List.getElem_mem hm) (o.getD p.Uses[m].Stream.toNat 0);obtain⟨a,ea⟩:∃a,a=ZeT p p.Uses[k] (o.getD p.Uses[k].Stream.toNat 0):=⟨_,rfl⟩;obtain⟨b,eb⟩:∃b,b=ZeT p p.Uses[m] (o.getD p.Uses[m].Stream.toNat 0):=⟨_,rfl⟩;rw[←ea,←eb]at h2⊢;rw[←ea]at v1;rw[←eb]at v2;rintro⟨c1,c2⟩;have b1:=v1.bounds;have b2:=v2.bounds;have hpos:0<a.Period*b.Period:=Int.mul_pos (by omega) (by omega);have n0:=Int.emod_nonneg x (show a.Period*b.Period≠0 by omega);have n1:=Int.emod_lt_of_pos x hpos;have e0:(((x%(a.Period*b.Period)).toNat:Nat):Int)=x%(a.Period*b.Period):=Zs n0;exact(Zxy v1 v2).1 h2 (x%(a.Period*b.Period)).toNat (by rw[e0];exact n1) ⟨by rw[e0];exact(Zxr x (Int.dvd_mul_right _ _)).2 c1,by rw[e0];exact(Zxr x (Int.dvd_mul_left _ _)).2 c2⟩
def earW (u:Zay)(w:Tw):Int:=w.h.Early/u.Grid+w.x
def opW (u:Zay)(w:Tw):Int:=w.h.Open/u.Grid+w.x
theorem Zwu (hu:ZfE u){w:Tw}(ok:TwOK t u w):(useW u w).Long=opW u w-earW u w+Zdl u w/\earW u w<=opW u w/\(w.h.Early<w.h.Open->earW u w<opW u w):=by
 have g1:=hu.g1;obtain⟨_,_,o1,o2,l1,l2,eo⟩:=ok.h;have hop:=Int.mul_ediv_add_emod w.h.Open u.Grid;rw[ok.grid]at hop;unfold useW useH opW earW Zdl;simp only;have e:(w.h.Open+w.h.Long+u.Grid-1)/u.Grid=w.h.Open/u.Grid+(w.h.Long+u.Grid-1)/u.Grid:=by
  rw[show w.h.Open+w.h.Long+u.Grid-1=(w.h.Long+u.Grid-1)+u.Grid*(w.h.Open/u.Grid)by omega,Int.add_mul_ediv_left _ _ (by omega)];omega
 rw[e];refine⟨by omega,by have:=Int.ediv_le_ediv (show 0<u.Grid by omega) eo;omega,λh=>?_⟩;have:w.h.Early/u.Grid<w.h.Open/u.Grid:=by
  refine Int.ediv_lt_of_lt_mul (by omega) ?_;rw[Zo];omega
 omega
theorem ZwE {p:Zax}{w:Tw}(hP:perU p.Periods (useW u w)=w.s.Period)(y:Int):covS (ZeT p (useW u w) w.x) y↔(y-earW u w)%w.s.Period<(useW u w).Long:=by
 unfold covS ZeT;rw[hP];simp only;have e:(y-((useW u w).From+w.x)%w.s.Period)%w.s.Period=(y-earW u w)%w.s.Period:=by
  show(y-(w.h.Early/u.Grid%w.s.Period+w.x)%w.s.Period)%w.s.Period=_;unfold earW;simp only[Int.sub_emod_emod,Int.emod_add_emod]
 rw[e]
def hitI (u:Zay)(w:Tw)(y:Int):Prop:=(y-opW u w)%w.s.Period<Zdl u w
theorem ZAl (hu:ZfE u){w:Tw}(ok:TwOK t u w)(hw:(useW u w).Long<=w.s.Period){y:Int}(h:hitI u w y):(y-earW u w)%w.s.Period<(useW u w).Long:=by
 obtain⟨e1,e2,_⟩:=Zwu hu ok;have p1:=ok.s.per1;unfold hitI at h;have m0:=Int.emod_nonneg (y-opW u w) (show w.s.Period≠0 by omega);have:(y-earW u w)%w.s.Period=(y-opW u w)%w.s.Period+(opW u w-earW u w):=by
  rw[show y-earW u w=(y-opW u w)+(opW u w-earW u w)by omega,Int.add_emod,Zn (a:=opW u w-earW u w) (by omega) (by omega),Zn (by omega) (by omega)]
 omega
theorem Zxn (hu:ZfE u){w:Tw}(ok:TwOK t u w)(hw:(useW u w).Long<=w.s.Period){y:Int}(hy:w.s.Period∣y-earW u w):(y-earW u w)%w.s.Period<(useW u w).Long/\(w.h.Early<w.h.Open->¬hitI u w y):=by
 obtain⟨e1,e2,e3⟩:=Zwu hu ok;have p1:=ok.s.per1;obtain⟨⟨a1,a2⟩,⟨b1,b2⟩,⟨c1,c2⟩,d1,d2⟩:=ok.num hu;have hl:=ok.h.l1;have g1:=hu.g1;have g2:=hu.g2;have hU:1<=Zdl u w:=by
  unfold Zdl;exact Int.le_ediv_of_mul_le (by omega) (by omega)
 refine⟨by rw[Int.emod_eq_zero_of_dvd hy];omega,λh=>?_⟩;have:=e3 h;unfold hitI;have:(y-opW u w)%w.s.Period=w.s.Period-(opW u w-earW u w):=by
  obtain⟨z,hz⟩:=hy;rw[show y-opW u w=(w.s.Period-(opW u w-earW u w))+w.s.Period*(z-1)by rw[Int.mul_sub];omega,Zl,Zn (by omega) (by omega)]
 omega
structure Fit (t:Zav) (u:Zay) (l:List Zat) (o:List Int):Prop where
 topo:Zez t=true
 set:Zd6 u=true
 str:∀x∈l,Zbv t x=true
 l12:l.length<=12
 err:errC (accA t u l)=0
 of:ofS t u l=(⟨(accA t u l).P,(accA t u l).U⟩,0)
 prob:ZjM ⟨(accA t u l).P,(accA t u l).U⟩=true
 off:ZjN ⟨(accA t u l).P,(accA t u l).U⟩ o=true
 fits:ZiQ ⟨(accA t u l).P,(accA t u l).U⟩ o=true
theorem Zw6 {l:List Zat}{o:List Int}(h:(Zlr t u l o).2=0):Fit t u l o/\(Zlr t u l o).1=Zlt t u (Zbn t u l o).2 (lcmL (accA t u l).P):=by
 unfold Zlr at h⊢;by_cases h0:(ofS t u l).2=0
 ·obtain⟨hT,hU,hA,he,hof⟩:=Zr5 h0;obtain⟨h12,hl⟩:=Zp2 hA;have g:=Zbo.1 hT;have hp:ZjM ⟨(accA t u l).P,(accA t u l).U⟩=true:=Zpe g (Zjv g (Zbx hU) hl) h12 he;rw[Zar h0]at h⊢;rw[hof]at h⊢;by_cases h1:ZjN ⟨(accA t u l).P,(accA t u l).U⟩ o=true
  ·rw[Zar h1]at h⊢;by_cases h2:ZiQ ⟨(accA t u l).P,(accA t u l).U⟩ o=true
   ·rw[Zar h2];exact⟨⟨hT,hU,hl,h12,he,hof,hp,h1,h2⟩,rfl⟩
   rw[Zaq h2]at h;simp at h
  rw[Zaq h1]at h;simp at h
 rw[Zaq h0]at h;exact absurd h h0
theorem Fit.win {l:List Zat}{o:List Int}(h:Fit t u l o){w:Tw}(hw:w∈(Zbn t u l o).2):TwOK t u w/\w.x=o.getD w.n 0/\perU (accA t u l).P (useW u w)=w.s.Period/\(useW u w).Long<=w.s.Period/\w.s.Period∣((lcmL (accA t u l).P:Nat):Int):=by
 have g:=Zbo.1 h.topo;have hw':w∈(Zbn t u (l.take l.length) o).2:=by rw[Zaa];exact hw
 have ok:=(Zrw g (Zbx h.set) h.str h.off l.length (Nat.le_refl _)).1 w hw';obtain⟨x1,x2,x3⟩:=Zrx l.length (Nat.le_refl _) w hw';have hper:perU (accA t u l).P (useW u w)=w.s.Period:=x3;have hm:useW u w∈(accA t u l).U:=by rw[ZmE l o];exact List.mem_map.2 ⟨w,hw,rfl⟩
 obtain⟨_,_,_,_,_,_,_,u8⟩:=(VP.of h.prob).use _ hm;simp only at u8;refine⟨ok,x1,hper,by rw[←hper];exact u8,?_⟩;have hin:=Zr1 (t:=t) (u:=u) g (Zbx h.set) h.str (o:=o) l.length (Nat.le_refl _) w hw';have:=Int.natCast_dvd_natCast.2 (Zkm.1 (Nat.dvd_refl (lcmL (accA t u l).P)) _ hin)
 rwa [Zs (by have:=ok.s.per1;omega)]at this
theorem Fit.apart {l:List Zat}{o:List Int}(h:Fit t u l o){k m:Nat}(hk:k<(Zbn t u l o).2.length)(hm:m<(Zbn t u l o).2.length)(hne:k≠m)(hpq:(Zbn t u l o).2[k].h.Port=(Zbn t u l o).2[m].h.Port){y:Int}
  (h1:(y-earW u (Zbn t u l o).2[k])%(Zbn t u l o).2[k].s.Period<(useW u (Zbn t u l o).2[k]).Long):¬hitI u (Zbn t u l o).2[m] y:=by
 intro h2;obtain⟨ok1,x1,q1,l1,_⟩:=h.win (List.getElem_mem hk);obtain⟨ok2,x2,q2,l2,_⟩:=h.win (List.getElem_mem hm);have h3:=ZAl (Zbx h.set) ok2 l2 h2;have eU:=ZmE (t:=t) (u:=u) l o;have hk':k<(accA t u l).U.length:=by rw[eU];simpa using hk
 have hm':m<(accA t u l).U.length:=by rw[eU];simpa using hm
 have e1:(accA t u l).U[k]=useW u (Zbn t u l o).2[k]:=by simp only[eU,ZQ]
 have e2:(accA t u l).U[m]=useW u (Zbn t u l o).2[m]:=by simp only[eU,ZQ]
 refine ZvE h.prob h.off h.fits (k:=k) (m:=m) hk' hm' hne ?_ y ⟨?_,?_⟩
 ·simp only[e1,e2];exact hpq
 ·simp only[e1];have:o.getD (useW u (Zbn t u l o).2[k]).Stream.toNat 0=(Zbn t u l o).2[k].x:=x1.symm;rw[this];exact(ZwE q1 y).2 h1
 simp only[e2];have:o.getD (useW u (Zbn t u l o).2[m]).Stream.toNat 0=(Zbn t u l o).2[m].x:=x2.symm;rw[this];exact(ZwE q2 y).2 h3
end
end Go.Sh

namespace Go.Sh
open Go Go.Eng
def okE (e:ZaF):Bool:=!((decide (e.Mask<0))||((decide (e.Mask>255))||((decide (e.Long<1))||(decide (e.Long>9600000)))))
theorem Zhp {e:ZaF}:okE e=true↔0<=e.Mask/\e.Mask<=255/\1<=e.Long/\e.Long<=9600000:=by
 unfold okE;simp only[Zh,Bool.or_eq_false_iff,decide_eq_false_iff_not];omega
def sumL:List ZaF->Int
 |[]=>0
 |e::l=>e.Long+sumL l
theorem Zd2 (a b:List ZaF):sumL (a++b)=sumL a+sumL b:=by
 induction a with
 |nil=>simp[sumL]
 |cons e a ih=>simp only[Zw,sumL,ih];omega
theorem ZdJ {l:List ZaF}(h:∀e∈l,okE e=true):(l.length:Int)<=sumL l/\sumL l<=9600000*l.length:=by
 induction l with
 |nil=>simp[sumL]
 |cons e l ih=>
  have h1:=Zhp.1 (h e (by simp));have h2:=ih λx hx=>h x (by simp[hx])
  simp only[sumL,ZT];omega
def VG (g:ZaI):Prop:=1<=g.Entries.length/\g.Entries.length<=128/\(g.Entries.all okE=true)/\sumL g.Entries=g.Cycle/\g.Cycle<=9600000
instance (g:ZaI):Decidable (VG g):=by unfold VG;infer_instance
theorem VG.ok {g:ZaI}(h:VG g):∀e∈g.Entries,okE e=true:=List.all_eq_true.1 h.2.2.1
theorem Zwg (N:Nat)(g:ZaI)(hl:g.Entries.length<=128):∀(n M k:Nat) (s:Int),g.Entries.length-k=n->k<=g.Entries.length->n<M->0<=s->s<=9600000*k→
  ZaO (λx:Int×Int=>ZeL N g x.1 x.2) M (s,(k:Int))=some (if(g.Entries.drop k).all okE then .inl (s+sumL (g.Entries.drop k))else .inr 370):=by
 intro n;induction n with
 |zero=>
  intro M k s hn hk hM h0 h1;have:k=g.Entries.length:=by omega
  subst this;cases M with
  |zero=>omega
  |succ M=>rw[Za5 (r:=.inl s) (by simp[ZeL])];simp[sumL]
 |succ n ih=>
  intro M k s hn hk hM h0 h1;cases M with
  |zero=>omega
  |succ M=>
   have hlt:k<g.Entries.length:=by omega
   rw[Zix hlt,List.all_cons];have hbody:ZeL N g s (k:Int)=if okE g.Entries[k]=true then some (.inl (w64 (s+g.Entries[k].Long),((k+1:Nat):Int)))else some (.inr (.inr 370)):=by
    simp only[ZeL];rw[Zar (by simpa using hlt),Zia,ZI hlt,Zag,ZaG (x:=(k:Int)+1) (by omega) (by omega)];unfold okE;cases ((decide (g.Entries[k].Mask<0))||((decide (g.Entries[k].Mask>255))||((decide (g.Entries[k].Long<1))||(decide (g.Entries[k].Long>9600000)))))<;>simp
   by_cases ho:okE g.Entries[k]=true
   ·have hb:=Zhp.1 ho;rw[ZbL (by rw[hbody,Zar ho]),ZaG (by omega) (by omega),ih M (k+1) _ (by omega) (by omega) (by omega) (by omega) (by omega)];simp only[ho,Zk,sumL,Int.add_assoc]
   rw[Za5 (by rw[hbody,Zaq ho])];simp[ho]
theorem ZqJ {N:Nat}(hN:200<=N)(g:ZaI):Zhu N g=some (if VG g then 0 else 370):=by
 unfold Zhu;by_cases h:1<=g.Entries.length/\g.Entries.length<=128
 ·rw[Zaq (by simp only[Zj,Zao];omega)];have:=Zwg N g h.2 g.Entries.length N 0 0 (by omega) (by omega) (by omega) (by omega) (by omega);rw[show((0:Nat):Int)=0 from rfl,Zy,Int.zero_add]at this;rw[this,Zag];by_cases ha:g.Entries.all okE=true
  ·simp only[ha,Zas];by_cases hs:sumL g.Entries=g.Cycle/\g.Cycle<=9600000
   ·rw[Zar (show VG g from⟨h.1,h.2,ha,hs.1,hs.2⟩),Zaq (by simp only[Zj,bne_iff_ne,Zao];omega)]
   rw[Zaq (show ¬VG g from λhv=>hs ⟨hv.2.2.2.1,hv.2.2.2.2⟩),Zar (by simp only[Zj,bne_iff_ne,Zao];omega)]
  rw[Zaq (show ¬VG g from λhv=>ha hv.2.2.1)];simp only[ha,Zg,Zap]
 rw[Zar (by simp only[Zj,Zao];omega),Zaq (show ¬VG g from λhv=>h ⟨hv.1,hv.2.1⟩)]
def errS (g:ZaI)(c t l:Int):Int:=if VG g then(if 0<=c/\c<=7∧ -1099511627776<=t/\t<=1099511627776/\0<=l/\l<=1099511627776 then 0 else 2)else 370
theorem Zib {N:Nat}(hN:200<=N)(g:ZaI)(c t l:Int):Zeg N g c t l=some (errS g c t l):=by
 unfold Zeg errS;rw[ZqJ hN,Zag];by_cases h:VG g
 ·simp only[h,Zas,Zam,Zg,Zap];by_cases hc:0<=c/\c<=7∧ -1099511627776<=t/\t<=1099511627776/\0<=l/\l<=1099511627776
  ·rw[Zar hc,Zaq (by simp only[Zj,Zao];omega)]
  rw[Zaq hc,Zar (by simp only[Zj,Zao];omega)]
 simp[h]
def AtE (E:List ZaF)(t:Int)(i:Nat)(e:ZaF)(s:Int):Prop:=E[i]?=some e/\0<=s/\s<e.Long/\t%sumL E=sumL (E.take i)+s
theorem Zgy {E:List ZaF}{i:Nat}{e:ZaF}(h:E[i]?=some e):sumL (E.take (i+1))=sumL (E.take i)+e.Long:=by
 have hi:=(List.getElem?_eq_some_iff.1 h).1;rw[Zac hi,Zd2];have:E[i]=e:=by
  have:=ZI hi;rw[h]at this;exact(Option.some.inj this).symm
 simp[sumL,this]
theorem Zg3 {E:List ZaF}(h:∀e∈E,okE e=true){i j:Nat}(hij:i<=j):sumL (E.take i)<=sumL (E.take j):=by
 have e:E.take j=E.take i++(E.take j).drop i:=by
  conv=>lhs;rw[←List.take_append_drop i (E.take j),List.take_take,Nat.min_eq_left hij]
 rw[e,Zd2];have:=(ZdJ (l:=(E.take j).drop i) λx hx=>h x (List.mem_of_mem_take (List.mem_of_mem_drop hx))).1;omega
theorem Zwq {E:List ZaF}(h:∀e∈E,okE e=true){t:Int}{i j:Nat}{e f:ZaF}{s r:Int}(h1:AtE E t i e s)(h2:AtE E t j f r):i=j/\e=f/\s=r:=by
 obtain⟨a1,a2,a3,a4⟩:=h1;obtain⟨b1,b2,b3,b4⟩:=h2;have key:∀{i j:Nat} {e f:ZaF} {s r:Int},E[i]?=some e->E[j]?=some f->0<=s->s<e.Long->0<=r->r<f.Long->sumL (E.take i)+s=sumL (E.take j)+r->¬i<j:=by
  intro i j e f s r a1 b1 a2 a3 b2 b3 heq hlt;have:=Zg3 h (show i+1<=j by omega);rw[Zgy a1]at this;omega
 have hij:i=j:=by
  have n1:=key a1 b1 a2 a3 b2 b3 (by omega);have n2:=key b1 a1 b2 b3 a2 a3 (by omega);omega
 subst hij;rw[a1]at b1;cases b1;exact⟨rfl,rfl,by omega⟩
theorem Zws {E:List ZaF}(h:∀e∈E,okE e=true):∀(l:List ZaF) (k:Nat) (r:Int),E.drop k=l->0<=r->r<sumL l->∃i e s,E[i]?=some e/\0<=s/\s<e.Long/\sumL (E.take k)+r=sumL (E.take i)+s:=by
 intro l;induction l with
 |nil=>intro k r _ h0 h1;simp only[sumL]at h1;omega
 |cons e l ih=>
  intro k r hk h0 h1;have hlt:k<E.length:=by
   rcases Nat.lt_or_ge k E.length with h'|h'
   ·exact h'
   rw[List.drop_eq_nil_of_le h']at hk;cases hk
  rw[Zix hlt]at hk;simp only[Zv]at hk;have hE:E[k]?=some e:=by rw[ZI hlt,hk.1]
  by_cases hr:r<e.Long
  ·exact⟨k,e,r,hE,h0,hr,rfl⟩
  simp only[sumL]at h1;obtain⟨i,f,s,a1,a2,a3,a4⟩:=ih (k+1) (r-e.Long) hk.2 (by omega) (by omega);rw[Zgy hE]at a4;exact⟨i,f,s,a1,a2,a3,by omega⟩
theorem Znq {E:List ZaF}(h:∀e∈E,okE e=true)(hne:1<=E.length)(t:Int):∃i e s,AtE E t i e s:=by
 have hb:=(ZdJ h).1;have hpos:0<sumL E:=by omega
 obtain⟨i,e,s,a1,a2,a3,a4⟩:=Zws h E 0 (t%sumL E) (by simp) (Int.emod_nonneg _ (by omega)) (Int.emod_lt_of_pos _ hpos);exact⟨i,e,s,a1,a2,a3,by simpa[sumL]using a4⟩
theorem Zwr {E:List ZaF}{t:Int}{i:Nat}{e:ZaF}{s:Int}(h:AtE E t i e s)(k:Int):AtE E (t+k*sumL E) i e s:=by
 obtain⟨a1,a2,a3,a4⟩:=h;exact⟨a1,a2,a3,by rw[Int.add_mul_emod_self_right];exact a4⟩
theorem Zvz {E:List ZaF}(h:∀e∈E,okE e=true){t:Int}{i:Nat}{e:ZaF}{s:Int}(ha:AtE E t i e s):sumL (E.take i)+e.Long<=sumL E/\0<=sumL (E.take i)/\i<E.length:=by
 obtain⟨a1,a2,a3,a4⟩:=ha;have hi:=(List.getElem?_eq_some_iff.1 a1).1;have h1:=Zg3 h (show i+1<=E.length from hi);rw[Zgy a1,Zaa]at h1;have h2:=Zg3 h (show 0<=i by omega);simp only[List.take_zero,sumL]at h2;exact⟨h1,h2,hi⟩
theorem Zre {t k C:Int}(h0:0<=t%C+k)(h1:t%C+k<C):(t+k)%C=t%C+k:=by
 have:t+k=(t%C+k)+C*(t/C):=by have:=Int.mul_ediv_add_emod t C;omega
 rw[this,Zl];exact Zn h0 h1
theorem Zxm {t k C:Int}(h:t%C+k=C):(t+k)%C=0:=by
 have:t+k=C*(t/C+1):=by have:=Int.mul_ediv_add_emod t C;rw[Int.mul_add];omega
 rw[this];exact Int.mul_emod_right _ _
theorem ZL8 {E:List ZaF}(h:∀e∈E,okE e=true){t:Int}{i:Nat}{e:ZaF}{s k:Int}(ha:AtE E t i e s)(h0:0<=s+k)(h1:s+k<e.Long):AtE E (t+k) i e (s+k):=by
 have hl:=Zvz h ha;obtain⟨a1,a2,a3,a4⟩:=ha;refine⟨a1,h0,h1,?_⟩;rw[Zre (by omega) (by omega),a4];omega
theorem ZyS {E:List ZaF}(h:∀e∈E,okE e=true){t:Int}{i:Nat}{e:ZaF}{s:Int}(ha:AtE E t i e s):∃f,AtE E (t+(e.Long-s)) ((i+1)%E.length) f 0:=by
 have hl:=Zvz h ha;obtain⟨a1,a2,a3,a4⟩:=ha;have hlen:0<E.length:=by omega
 have hmod:=Nat.mod_lt (i+1) hlen;refine⟨E[(i+1)%E.length],ZI hmod,Int.le_refl _,?_,?_⟩
 ·have:=Zhp.1 (h _ (List.getElem_mem hmod));omega
 by_cases hi:i+1<E.length
 ·rw[Nat.mod_eq_of_lt hi,Zgy a1];have h1:=Zg3 h (show i+1+1<=E.length from hi);rw[Zgy (ZI hi),Zgy a1,Zaa]at h1;have h2:=Zhp.1 (h _ (List.getElem_mem hi));rw[Zre (by omega) (by omega),a4];omega
 have:i+1=E.length:=by omega
 rw[this,Nat.mod_self];have h1:=Zgy a1;rw[this,Zaa]at h1;rw[Zxm (by omega)];simp[sumL]
noncomputable def mAt (E:List ZaF)(t:Int):Int:=by
 classical exact if h:∃i e s,AtE E t i e s then(Classical.choose (Classical.choose_spec h)).Mask else 0
theorem Zq2 {E:List ZaF}(h:∀e∈E,okE e=true){t:Int}{i:Nat}{e:ZaF}{s:Int}(ha:AtE E t i e s):mAt E t=e.Mask:=by
 unfold mAt;have hex:∃i e s,AtE E t i e s:=⟨i,e,s,ha⟩;rw[dif_pos hex];obtain⟨s',hs'⟩:=Classical.choose_spec (Classical.choose_spec hex);have:=(Zwq h ha hs').2.1;rw[←this]
theorem Zq1 {E:List ZaF}(h:∀e∈E,okE e=true)(hne:1<=E.length)(t k:Int):mAt E (t+k*sumL E)=mAt E t:=by
 obtain⟨i,e,s,ha⟩:=Znq h hne t;rw[Zq2 h ha,Zq2 h (Zwr ha k)]
theorem ZlN {E:List ZaF}(h:∀e∈E,okE e=true)(hne:1<=E.length)(t:Int):∃e∈E,mAt E t=e.Mask:=by
 obtain⟨i,e,s,ha⟩:=Znq h hne t;exact⟨e,List.mem_of_getElem? ha.1,Zq2 h ha⟩
theorem ZgQ {α:Type}{l:List α}{k:Nat}{e:α}(h:l[k]?=some e):idx l (k:Int)=some e:=by rw[Zia,h]
theorem Zxj (N:Nat){g:ZaI}(hg:VG g){i:Nat}{e:ZaF}{s:Int}(h1:g.Entries[i]?=some e)(h2:0<=s)(h3:s<e.Long):∀(n M k:Nat),i-k=n->k<=i->n<M→
  ZaO (λx:Int×Int=>Zdz N g x.1 x.2) M (sumL (g.Entries.take i)+s-sumL (g.Entries.take k),(k:Int))=some ((i:Int),e.Long-s):=by
 have hi:=(List.getElem?_eq_some_iff.1 h1).1;have hE:=Zhp.1 (hg.ok e (List.mem_of_getElem? h1));have hlen:=hg.2.1;have hC:=(ZdJ hg.ok).2;intro n;induction n with
 |zero=>
  intro M k hn hk hM;have:k=i:=by omega
  subst this;cases M with
  |zero=>omega
  |succ M=>
   rw[Za5 (r:=((k:Int),e.Long-s))];simp only[Zdz];rw[ZgQ h1,Zag,Zaq (by simp only[Zao];omega),Zag,ZaG (by omega) (by omega)]
   congr 3
   omega
 |succ n ih=>
  intro M k hn hk hM;cases M with
  |zero=>omega
  |succ M=>
   have hlt:k<g.Entries.length:=by omega
   have hk1:g.Entries[k]?=some g.Entries[k]:=ZI hlt;have hb:=Zhp.1 (hg.ok _ (List.getElem_mem hlt));have hm:=Zg3 hg.ok (show k+1<=i by omega);rw[Zgy hk1]at hm;have hm2:=Zg3 hg.ok (show i<=g.Entries.length by omega);rw[Zaa]at hm2;have hm3:=Zg3 hg.ok (show 0<=k by omega);simp only[List.take_zero,sumL]at hm3;have hC1:=hg.2.2.2;rw[ZbL (y:=(sumL (g.Entries.take i)+s-sumL (g.Entries.take (k+1)),((k+1:Nat):Int))),ih M (k+1) (by omega) (by omega) (by omega)];simp only[Zdz];rw[ZgQ hk1,Zag,Zar (by simp only[Zao];omega),Zag,ZaG (by omega) (by omega),ZaG (by omega) (by omega),Zgy hk1]
   congr 3
   omega
theorem Zsj {N:Nat}(hN:200<=N){g:ZaI}(hg:VG g){t:Int}{i:Nat}{e:ZaF}{s:Int}(ha:AtE g.Entries t i e s):Zg0 N g t=some ((i:Int),e.Long-s):=by
 have hlt:=Zvz hg.ok ha;have hb:=ZdJ hg.ok;have hC:=hg.2.2.2;have hlen:=hg.1;have hlen2:=hg.2.1;have hpos:0<g.Cycle:=by omega
 have h1:=Int.lt_tmod_of_pos t hpos;have h2:=Int.tmod_lt_of_pos t hpos;unfold Zg0;rw[ZcR (by omega),Zag,ZaG (by omega) (by omega),ZcR (by omega),Zag,ZrC hpos,←hC.1,ha.2.2.2];have:=Zxj N hg ha.1 ha.2.1 ha.2.2.1 i N 0 (by omega) (by omega) (by omega);simp only[List.take_zero,sumL,Int.sub_zero]at this;rw[show((0:Nat):Int)=0 from rfl]at this;rw[this,Zag]
end Go.Sh
namespace Go.Sh
open Go Go.Eng
def IsSt (E:List ZaF)(p:Int->Bool)(t r:Int):Prop:=
 (r=sumL E/\∀e∈E,p e.Mask=true)∨(0<=r/\r<sumL E/\(∀k,0<=k->k<r->p (mAt E (t+k))=true)/\p (mAt E (t+r))=false)
theorem ZuR {E:List ZaF}(h:∀e∈E,okE e=true)(hne:1<=E.length){p:Int->Bool}{t r r':Int}(h1:IsSt E p t r)(h2:IsSt E p t r'):r=r':=by
 rcases h1 with⟨a1,a2⟩|⟨a1,a2,a3,a4⟩<;>rcases h2 with⟨b1,b2⟩|⟨b1,b2,b3,b4⟩
 ·omega
 ·obtain⟨e,he,hm⟩:=ZlN h hne (t+r');rw[hm,a2 e he]at b4;cases b4
 ·obtain⟨e,he,hm⟩:=ZlN h hne (t+r);rw[hm,b2 e he]at a4;cases a4
 rcases Int.lt_trichotomy r r' with hlt|heq|hgt
 ·rw[b3 r a1 hlt]at a4;cases a4
 ·exact heq
 rw[a3 r' b1 hgt]at b4;cases b4
theorem Zys {E:List ZaF}(h:∀e∈E,okE e=true)(hne:1<=E.length){p:Int->Bool}{t r:Int}(h0:0<=r)(h1:∀k,0<=k->k<r->p (mAt E (t+k))=true)(h2:p (mAt E (t+r))=false):r<sumL E:=by
 rcases Int.lt_or_le r (sumL E)with hlt|hle
 ·exact hlt
 exfalso;have hb:=(ZdJ h).1;have h3:=h1 (r-sumL E) (by omega) (by omega);have h4:=Zq1 h hne (t+(r-sumL E)) 1;rw[show t+(r-sumL E)+1*sumL E=t+r by omega]at h4;rw[h4,h3]at h2;cases h2
theorem ZxS {E:List ZaF}(h:∀e∈E,okE e=true){t:Int}{i:Nat}{e:ZaF}{s:Int}(ha:AtE E t i e s){k:Int}(h0:0<=s+k)(h1:s+k<e.Long):mAt E (t+k)=e.Mask:=Zq2 h (ZL8 h ha h0 h1)
theorem Zyo {len q i0:Nat}:((i0+q)%len+1)%len=(i0+(q+1))%len:=by
 rw[Nat.mod_add_mod];rfl
theorem ZAu {E:List ZaF}{P:ZaF->Prop}{i0:Nat}(h:∀j,j<E.length->∃f,E[(i0+j)%E.length]?=some f/\P f):∀e∈E,P e:=by
 intro e he;obtain⟨k,hk,rfl⟩:=List.getElem_of_mem he;have hlen:0<E.length:=by omega
 have hm:=Nat.mod_lt i0 hlen;obtain⟨f,hf,hP⟩:=h ((k+E.length-i0%E.length)%E.length) (Nat.mod_lt _ hlen);have e1:(i0+(k+E.length-i0%E.length)%E.length)%E.length=k:=by
  rw[Nat.add_mod_mod];have h1:=Nat.div_add_mod i0 E.length;have h2:i0+(k+E.length-i0%E.length)=k+E.length*(i0/E.length+1):=by rw[Nat.mul_add];omega
  rw[h2,Nat.add_mul_mod_self_left,Nat.mod_eq_of_lt hk]
 rw[e1,ZI hk]at hf;cases hf;exact hP
theorem ZsP (N:Nat){g:ZaI}(hg:VG g){has:Int->Option Bool}{p:Int->Bool}(hp:∀e∈g.Entries,has e.Mask=some (p e.Mask))(t:Int)(i0:Nat):∀(n M q:Nat) (e:ZaF) (s c:Int),
  g.Entries.length+1-q=n->q<=g.Entries.length+1->n<M->AtE g.Entries (t+c) ((i0+q)%g.Entries.length) e s->0<=c->c<=9600000*q->(∀k,0<=k->k<c->p (mAt g.Entries (t+k))=true)→
  (∀j,j<q->∃f,g.Entries[(i0+j)%g.Entries.length]?=some f/\p f.Mask=true)→
  ∃o,ZaO (λx:Int×Int×Int×Int=>Zcf N g has x.1 x.2.1 x.2.2.1 x.2.2.2) M ((((i0+q)%g.Entries.length:Nat):Int),e.Long-s,c,(q:Int))=some o∧
   ((∃x,o=.inl x/\∀e∈g.Entries,p e.Mask=true)∨(∃r,o=.inr r/\0<=r/\(∀k,0<=k->k<r->p (mAt g.Entries (t+k))=true)/\p (mAt g.Entries (t+r))=false)):=by
 have hlen1:=hg.1;have hlen2:=hg.2.1;intro n;induction n with
 |zero=>
  intro M q e s c hn hq hM ha h0 h1 h2 h3;cases M with
  |zero=>omega
  |succ M=>
   refine⟨.inl (),Za5 ?_,.inl ⟨_,rfl,ZAu λj hj=>h3 j (by omega)⟩⟩;simp only[Zcf];rw[ZaG (by omega) (by omega),Zaq (by simp only[Zao];omega)]
 |succ n ih=>
  intro M q e s c hn hq hM ha h0 h1 h2 h3;cases M with
  |zero=>omega
  |succ M=>
   have hE:=Zhp.1 (hg.ok e (List.mem_of_getElem? ha.1));have hs:=ha.2;have hmod:(i0+q)%g.Entries.length<g.Entries.length:=Nat.mod_lt _ (by omega);have hpe:=hp e (List.mem_of_getElem? ha.1);obtain⟨f,hf⟩:=ZyS hg.ok ha;have hfE:=Zhp.1 (hg.ok f (List.mem_of_getElem? hf.1));have hmod2:((i0+q)%g.Entries.length+1)%g.Entries.length<g.Entries.length:=Nat.mod_lt _ (by omega);have hbody:Zcf N g has (((i0+q)%g.Entries.length:Nat):Int) (e.Long-s) c (q:Int)=
     if p e.Mask=true then some (.inl ((((((i0+q)%g.Entries.length+1)%g.Entries.length:Nat):Int)),f.Long,c+(e.Long-s),((q+1:Nat):Int)))else some (.inr (.inr c)):=by
    simp only[Zcf];rw[ZaG (x:=((List.length g.Entries:Nat):Int)+1) (by omega) (by omega),Zar (by simp only[Zao];omega),ZgQ ha.1,Zag,hpe,Zag];cases p e.Mask with
    |false=>simp
    |true=>
     simp only[Zi,Zg,Zap,Zas];generalize hmm:(i0+q)%g.Entries.length=m at*;rw[ZaG (x:=(m:Int)+1) (by omega) (by omega),ZcR (by omega),Zag,Zq (by omega)];have e1:((m:Int)+1)%((List.length g.Entries:Nat):Int)=(((m+1)%g.Entries.length:Nat):Int):=by
      rw[Int.natCast_emod];rfl
     rw[e1,ZgQ hf.1,Zag,ZaG (by omega) (by omega),ZaG (by omega) (by omega)];rfl
   by_cases hpt:p e.Mask=true
   ·rw[ZbL (by rw[hbody,Zar hpt])];rw[Zyo]at hf⊢;have hnext:AtE g.Entries (t+(c+(e.Long-s))) ((i0+(q+1))%g.Entries.length) f 0:=by
     rw[show t+(c+(e.Long-s))=t+c+(e.Long-s)by omega];exact hf
    have:=ih M (q+1) f 0 (c+(e.Long-s)) (by omega) (by omega) (by omega) hnext (by omega) (by omega) (λk k0 k1=>by
     by_cases hk:k<c
     ·exact h2 k k0 hk
     ·have:=ZxS hg.ok ha (k:=k-c) (by omega) (by omega);rw[show t+c+(k-c)=t+k by omega]at this;rw[this,hpt]) (λj hj=>by
     by_cases hjq:j<q
     ·exact h3 j hjq
     have:j=q:=by omega
     subst this;exact⟨e,ha.1,hpt⟩)
    rw[Int.sub_zero]at this;exact this
   refine⟨.inr c,Za5 (by rw[hbody,Zaq hpt]),.inr ⟨c,rfl,h0,h2,?_⟩⟩;rw[Zq2 hg.ok ha];simpa using hpt
theorem ZjH {N:Nat}(hN:200<=N){g:ZaI}(hg:VG g){has:Int->Option Bool}{p:Int->Bool}(hp:∀e∈g.Entries,has e.Mask=some (p e.Mask))(t:Int):∃r,ZcX N g t has=some r/\IsSt g.Entries p t r:=by
 obtain⟨i,e,s,ha⟩:=Znq hg.ok hg.1 t;have hi:=(Zvz hg.ok ha).2.2;have hlen2:=hg.2.1;have hmi:(i+0)%g.Entries.length=i:=by rw[Zae,Nat.mod_eq_of_lt hi]
 obtain⟨o,h1,h2⟩:=ZsP N hg hp t i (g.Entries.length+1) N 0 e s 0 (by omega) (by omega) (by omega) (by rw[hmi,Int.add_zero];exact ha) (by omega) (by omega) (λk k0 k1=>by omega) (λj hj=>by omega);rw[hmi,show((0:Nat):Int)=0 from rfl]at h1;unfold ZcX;rw[Zsj hN hg ha,Zag];simp only;rw[h1,Zag];rcases h2 with⟨x,rfl,hall⟩|⟨r,rfl,r0,r1,r2⟩
 ·exact⟨g.Cycle,rfl,.inl ⟨hg.2.2.2.1.symm,hall⟩⟩
 exact⟨r,rfl,.inr ⟨r0,Zys hg.ok hg.1 r0 r1 r2,r1,r2⟩⟩
theorem Zjy {g:ZaI}(hg:VG g)(p:Int->Bool)(t:Int):∃r,IsSt g.Entries p t r:=
 let ⟨r,_,h⟩:=ZjH (N:=200) (Nat.le_refl _) hg (has:=λm=>some (p m)) (λ_ _=>rfl) t
 ⟨r,h⟩
theorem ZjI {N:Nat}(hN:200<=N){g:ZaI}(hg:VG g){has:Int->Option Bool}{p:Int->Bool}(hp:∀e∈g.Entries,has e.Mask=some (p e.Mask)){t r:Int}(hr:IsSt g.Entries p t r):ZcX N g t has=some r:=by
 obtain⟨r',h1,h2⟩:=ZjH hN hg hp t;rw[h1,ZuR hg.ok hg.1 h2 hr]
def bitB (c:Int)(m:Int):Bool:=(m/2 ^ c.toNat)%2==1
theorem Zsv:∀(m:Fin 256) (c:Fin 8),Ze7 0 (m.val:Int) (c.val:Int)=some (bitB (c.val:Int) (m.val:Int)):=by
 decide+kernel
theorem Zt3:∀(m:Fin 256) (c:Fin 8),ZfC 0 (m.val:Int) (c.val:Int)=some (!bitB (c.val:Int) (m.val:Int)):=by
 decide+kernel
theorem Zxw (N:Nat){m c:Int}(hm:0<=m/\m<=255)(hc:0<=c/\c<=7):Ze7 N m c=some (bitB c m):=by
 have:=Zsv ⟨m.toNat,by omega⟩ ⟨c.toNat,by omega⟩;simp only[Zs hm.1,Zs hc.1]at this;exact this
theorem ZyG (N:Nat){m c:Int}(hm:0<=m/\m<=255)(hc:0<=c/\c<=7):ZfC N m c=some (!bitB c m):=by
 have:=Zt3 ⟨m.toNat,by omega⟩ ⟨c.toNat,by omega⟩;simp only[Zs hm.1,Zs hc.1]at this;exact this
def opn (C r:Int):Int:=if r=C then 1099511627776 else r
theorem ZgS {N:Nat}(hN:200<=N){g:ZaI}(hg:VG g){c t r:Int}(hc:0<=c/\c<=7)(hr:IsSt g.Entries (bitB c) t r):ZgZ N g c t=some (opn g.Cycle r):=by
 unfold ZgZ;rw[ZjI hN hg (p:=bitB c) (λe he=>Zxw N (by have:=Zhp.1 (hg.ok e he);omega) hc) hr,Zag];unfold opn;by_cases h:r=g.Cycle<;>simp[h]
theorem Zxk {g:ZaI}{c t l:Int}(h:errS g c t l=0):VG g/\0<=c/\c<=7∧ -1099511627776<=t/\t<=1099511627776/\0<=l/\l<=1099511627776:=by
 unfold errS at h;by_cases hv:VG g
 ·rw[Zar hv]at h;by_cases hc:0<=c/\c<=7∧ -1099511627776<=t/\t<=1099511627776/\0<=l/\l<=1099511627776
  ·exact⟨hv,hc⟩
  rw[Zaq hc]at h;cases h
 rw[Zaq hv]at h;cases h
end Go.Sh
namespace Go.Sh
open Go Go.Eng
def ZjL (E:List ZaF)(c l x:Int):Prop:=l=0∨(∀e∈E,bitB c e.Mask=true)∨(∀k,0<=k->k<l->bitB c (mAt E (x+k))=true)
theorem ZyX {g:ZaI}(hg:VG g){c x r l:Int}(hr:IsSt g.Entries (bitB c) x r)(h0:0<=l)(h1:l<=1099511627776):(l=0∨opn g.Cycle r≥l)↔ZjL g.Entries c l x:=by
 have hC:=hg.2.2.2;have hb:=(ZdJ hg.ok).1;unfold ZjL opn;rcases hr with⟨a1,a2⟩|⟨a1,a2,a3,a4⟩
 ·rw[Zar (by omega)];constructor
  ·intro _;exact .inr (.inl a2)
  intro _;omega
 rw[Zaq (by omega)];constructor
 ·rintro(h|h)
  ·exact .inl h
  exact .inr (.inr λk k0 k1=>a3 k k0 (by omega))
 rintro(h|h|h)
 ·exact .inl h
 ·obtain⟨e,he,hm⟩:=ZlN hg.ok hg.1 (x+r);rw[hm,h e he]at a4;cases a4
 rcases Int.lt_or_le r l with hlt|hle
 ·rw[h r a1 hlt]at a4;cases a4
 right;omega
theorem ZuJ {E:List ZaF}(h:∀e∈E,okE e=true)(hne:1<=E.length){c l x:Int}:ZjL E c l (x+sumL E)↔ZjL E c l x:=by
 have hm:∀k,mAt E (x+sumL E+k)=mAt E (x+k):=λk=>by
  have:=Zq1 h hne (x+k) 1
  rwa [show x+k+1*sumL E=x+sumL E+k by omega]at this
 unfold ZjL;simp only[hm]
def ZxJ (E:List ZaF)(c l t:Int):Option Int->Prop
 |some x=>t<=x/\ZjL E c l x/\∀y,t<=y->y<x->¬ZjL E c l y
 |none=>∀y,t<=y->¬ZjL E c l y
theorem Ztv {E:List ZaF}(h:∀e∈E,okE e=true)(hne:1<=E.length){c l t:Int}(hn:∀y,t<=y->y<t+sumL E->¬ZjL E c l y):∀y,t<=y->¬ZjL E c l y:=by
 have hb:=(ZdJ h).1;have key:∀(n:Nat) (y:Int),t<=y->y<t+sumL E*(n+1)->¬ZjL E c l y:=by
  intro n;induction n with
  |zero=>intro y h1 h2;exact hn y h1 (by rw[show sumL E*((0:Nat)+1:Int)=sumL E by simp]at h2;exact h2)
  |succ n ih=>
   intro y h1 h2 hf;by_cases hy:y<t+sumL E
   ·exact hn y h1 hy hf
   refine ih (y-sumL E) (by omega) ?_ ?_
   ·have:sumL E*(((n+1:Nat):Int)+1)=sumL E*((n:Int)+1)+sumL E:=by rw[Int.natCast_add,Int.mul_add];simp
    omega
   have:=(ZuJ h hne (c:=c) (l:=l) (x:=y-sumL E)).1;rw[show y-sumL E+sumL E=y by omega]at this;exact this hf
 intro y hy;refine key (y-t).toNat y hy ?_;have h1:((y-t).toNat:Int)=y-t:=by omega
 have h2:(y-t)*1<=(y-t)*sumL E:=Int.mul_le_mul_of_nonneg_left (by omega) (by omega);rw[h1,Int.mul_add,Zo (sumL E) (y-t)];omega
theorem Zuy {E:List ZaF}{p:Int->Bool}{t r:Int}(h:IsSt E p t r)(hne:r≠sumL E):0<=r/\r<sumL E/\(∀k,0<=k->k<r->p (mAt E (t+k))=true)/\p (mAt E (t+r))=false:=by
 rcases h with⟨a,_⟩|h
 ·exact absurd a hne
 exact h
theorem ZyE {N:Nat}(hN:200<=N){g:ZaI}(hg:VG g){c l t:Int}(hc:0<=c/\c<=7)(hl:0<=l/\l<=1099511627776)(ht: -1099511627776<=t/\t<=1099511627776):∀(n M:Nat) (x:Int),
  (t+2*g.Cycle-x).toNat<=n->n<M->t<=x->x<=t+4*g.Cycle->(∀y,t<=y->y<x->¬ZjL g.Entries c l y)→
  ∃o,ZaO (λx:Int=>Ze8 N g c t l x) M x=some o/\∃z,ZxJ g.Entries c l t z/\(match o with|.inl _=>z=none|.inr p=>∃w,z=some w/\p=(w,0)):=by
 have hC:=hg.2.2.2;have hb:=(ZdJ hg.ok).1;have hlen1:=hg.1;intro n;induction n with
 |zero=>
  intro M x hn hM hx hx2 hno;cases M with
  |zero=>omega
  |succ M=>
   refine⟨.inl (),Za5 ?_,none,Ztv hg.ok hg.1 (λy h1 h2=>hno y h1 (by omega)),rfl⟩;simp only[Ze8];rw[ZaG (x:=2*g.Cycle) (by omega) (by omega),ZaG (by omega) (by omega),Zaq (by simp only[Zao];omega)]
 |succ n ih=>
  intro M x hn hM hx hx2 hno;cases M with
  |zero=>omega
  |succ M=>
   by_cases hlt:x<t+2*g.Cycle
   ·obtain⟨r,hr⟩:=Zjy hg (bitB c) x;have hfit:=ZyX hg (l:=l) hr hl.1 hl.2;by_cases hge:opn g.Cycle r≥l
    ·refine⟨.inr (x,0),Za5 ?_,some x,⟨hx,hfit.1 (.inr hge),hno⟩,x,rfl,rfl⟩;simp only[Ze8];rw[ZaG (x:=2*g.Cycle) (by omega) (by omega),ZaG (by omega) (by omega),Zar (by simpa using hlt),ZgS hN hg hc hr,Zag,Zar (by simpa using hge)]
    have hnC:r≠g.Cycle:=by
     intro e;unfold opn at hge;rw[Zar e]at hge;omega
    have hop:opn g.Cycle r=r:=by unfold opn;rw[Zaq hnC]
    obtain⟨r0,r1,r2,r3⟩:=Zuy hr (by omega);obtain⟨m,hm⟩:=Zjy hg (λb=>!bitB c b) (x+r);have hm1:1<=m/\m<=g.Cycle/\∀k,0<=k->k<m->bitB c (mAt g.Entries (x+r+k))=false:=by
     rcases hm with⟨a1,a2⟩|⟨a1,a2,a3,a4⟩
     ·refine⟨by omega,by omega,λk _ _=>?_⟩;obtain⟨e,he,hme⟩:=ZlN hg.ok hg.1 (x+r+k);rw[hme];simpa using a2 e he
     refine⟨?_,by omega,λk k0 k1=>by simpa using a3 k k0 k1⟩;rcases Int.lt_or_le 0 m with h'|h'
     ·omega
     have hz:m=0:=by omega
     subst hz;simp[r3]at a4
    rw[hop]at hge;rw[ZbL (y:=x+r+m)]
    ·refine ih M (x+r+m) (by omega) (by omega) (by omega) (by omega) λy y0 y1 hf=>?_
     by_cases hy:y<x
     ·exact hno y y0 hy hf
     have hbad:∀q,y<=q->q<y+l->bitB c (mAt g.Entries q)=false->False:=λq q0 q1 q2=>by
      rcases hf with hf|hf|hf
      ·omega
      ·obtain⟨e,he,hme⟩:=ZlN hg.ok hg.1 q;rw[hme,hf e he]at q2;cases q2
      have:=hf (q-y) (by omega) (by omega);rw[show y+(q-y)=q by omega,q2]at this;cases this
     by_cases hyr:y<x+r
     ·exact hbad (x+r) (by omega) (by omega) r3
     have:=hm1.2.2 (y-(x+r)) (by omega) (by omega);rw[show x+r+(y-(x+r))=y by omega]at this;exact hbad y (by omega) (by omega) this
    simp only[Ze8];rw[ZaG (x:=2*g.Cycle) (by omega) (by omega),ZaG (x:=t+2*g.Cycle) (by omega) (by omega),Zar (by simpa using hlt),ZgS hN hg hc hr,Zag,hop,Zaq (by simpa using hge),ZaG (x:=x+r) (by omega) (by omega)];rw[ZjI hN hg (p:=λb=>!bitB c b) (λe he=>ZyG N (by have:=Zhp.1 (hg.ok e he);omega) hc) hm,Zag,ZaG (by omega) (by omega)]
   refine⟨.inl (),Za5 ?_,none,Ztv hg.ok hg.1 (λy h1 h2=>hno y h1 (by omega)),rfl⟩;simp only[Ze8];rw[ZaG (x:=2*g.Cycle) (by omega) (by omega),ZaG (by omega) (by omega),Zaq (by simpa using hlt)]
def fitS:Option Int->Int×Int
 |some x=>(x,0)
 |none=>(0,4)
theorem ZtQ {N:Nat}(hN:20000000<=N){g:ZaI}{c l t:Int}(h:errS g c t l=0):∃z,ZxJ g.Entries c l t z/\Zkr N g c t l=some (fitS z):=by
 obtain⟨hg,c1,c2,t1,t2,l1,l2⟩:=Zxk h;have hC:=hg.2.2.2;have hb:=(ZdJ hg.ok).1;have hlen1:=hg.1;obtain⟨o,h1,z,h2,h3⟩:=ZyE (N:=N) (by omega) hg ⟨c1,c2⟩ ⟨l1,l2⟩ ⟨t1,t2⟩ (t+2*g.Cycle-t).toNat N t (Nat.le_refl _) (by omega) (Int.le_refl _) (by omega) (λy y0 y1=>by omega);refine⟨z,h2,?_⟩;unfold Zkr;rw[Zib (by omega),Zag,h,Zaq (by simp)];rw[h1,Zag];cases o with
 |inl _=>simp only at h3;subst h3;rfl
 |inr p=>obtain⟨w,rfl,rfl⟩:=h3;rfl
end Go.Sh
