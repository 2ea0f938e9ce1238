/-Part of the proof. -/
import Derived.Test.YtlajapegdomhfaaGreatSynthOpensStr1
import Derived.Test.YtlajapegdomhfaaGreatSynthOpensBase
import Derived.KernelRfl
set_option linter.all false
namespace Go.Sh
open Go Go.Eng
section
variable {N:Nat} {t:Zaz} {u:ZaC} {s:Zax}
structure AcOK (t:Zaz) (u:ZaC) (n:Nat) (a:Ac):Prop where
 pl:a.P.length<=n
 ul:a.U.length<=16*a.P.length
 per:a.P.all perB=true
 st:∀x∈a.U,0<=x.Stream/\x.Stream<(a.P.length:Int)
 port:∀x∈a.U,ZcD t x.Port=true
 fr:∀x∈a.U,0<=x.From/\x.From<perU a.P x
 lg:∀x∈a.U,1<=x.Long/\x.Long<=100000000
def Zyt {P Q:List Int}{x:ZaN}(h0:0<=x.Stream)(h1:x.Stream<(P.length:Int)):perU (P++Q) x=perU P x:=by
 unfold perU;rw[ZF,ZF,ZG (by omega)]
def Zys {P:List Int}{q:Int}{x:ZaN}(h:x.Stream=(P.length:Int)):perU (P++[q]) x=q:=by
 unfold perU;rw[h,Zs,ZF,ZH (Nat.le_refl _)];simp
def Zzv (g:Good t)(hu:ZeZ u)(h:SS t s){r:List Int}(hr:r∈s.Routes){n:Int}{x:ZaN}(hx:x∈Zdl t u n s r):
  x.Stream=n/\ZcD t x.Port=true/\0<=x.From/\x.From<s.Period/\1<=x.Long/\x.Long<=100000000:=by
 obtain⟨h',hh,rfl⟩:=List.mem_map.1 hx;obtain⟨⟨e1,e2,o1,o2,l1,l2,eo⟩,hp⟩:=Zss g hu (Zei h.str) (h.rt r hr) hh;have p1:=h.per1;have g1:=hu.g1;have g2:=hu.g2;have d1:=Zdd (a:=h'.Early) (B:=20000000) g1 (by omega) e2 (by omega);have d2:=Zdd (a:=h'.Open+h'.Long+u.Grid-1) (B:=22000000) g1 (by omega) (by omega) (by omega);refine⟨rfl,hp,Int.emod_nonneg _ (by omega),Int.emod_lt_of_pos _ (by omega),?_,?_⟩
 ·show 1<=(h'.Open+h'.Long+u.Grid-1)/u.Grid-h'.Early/u.Grid;obtain⟨a1,a2⟩:=Zk3 (a:=h'.Open+h'.Long+u.Grid-1) (G:=u.Grid) (by omega);obtain⟨b1,b2⟩:=Zk3 (a:=h'.Early) (G:=u.Grid) (by omega);generalize (h'.Open+h'.Long+u.Grid-1)/u.Grid=p at*;generalize h'.Early/u.Grid=q at*;rcases Int.lt_or_le q p with c|c
  ·omega
  have:p*u.Grid<=q*u.Grid:=Int.mul_le_mul_of_nonneg_right c (by omega);omega
 show(h'.Open+h'.Long+u.Grid-1)/u.Grid-h'.Early/u.Grid<=100000000;omega
def AcOK.step (g:Good t)(hu:ZeZ u){n:Nat}{a:Ac}(h:AcOK t u n a)(hs:Zbz t s=true):AcOK t u (n+1) (Zfo t u a s):=by
 obtain⟨h1,h2,h3,h4,h5,h6,h7⟩:=h;unfold Zfo;by_cases c:s.Class=7
 ·rw[Zav c];have q:=SS.of hs c;have p1:=q.per1;have p2:=q.per2;have r2:=q.r2;have h0:(s.Routes.flatMap (Zdl t u (a.P.length:Int) s)).length<=8*s.Routes.length:=ZmE _ _ λr hr=>ZoQ g (q.rt r hr) _
  have new:∀x∈s.Routes.flatMap (Zdl t u (a.P.length:Int) s),x.Stream=(a.P.length:Int)/\ZcD t x.Port=true/\0<=x.From/\x.From<s.Period/\1<=x.Long/\x.Long<=100000000:=λx hx=>by
   obtain⟨r,hr,hx⟩:=List.mem_flatMap.1 hx;exact Zzv g hu q hr hx
  refine⟨by simp;omega,by simp only[ZV,ZW,ZY];omega,?_,λx hx=>?_,λx hx=>?_,λx hx=>?_,λx hx=>?_⟩
  ·simp only[List.all_append,h3,Zk,List.all_cons,List.all_nil,Bool.and_true];exact ZjC.2 (by omega)
  ·simp only[ZV,ZW,ZY];rcases List.mem_append.1 hx with hx|hx
   ·have:=h4 x hx;omega
   have:=(new x hx).1;omega
  ·rcases List.mem_append.1 hx with hx|hx
   ·exact h5 x hx
   exact(new x hx).2.1
  ·rcases List.mem_append.1 hx with hx|hx
   ·have:=h4 x hx;simp only;rw[Zyt this.1 this.2];exact h6 x hx
   have:=new x hx;simp only;rw[Zys this.1];exact⟨this.2.2.1,this.2.2.2.1⟩
  rcases List.mem_append.1 hx with hx|hx
  ·exact h7 x hx
  exact(new x hx).2.2.2.2
 rw[Zau c];exact⟨by omega,h2,h3,h4,h5,h6,h7⟩
def Zzo (g:Good t)(hu:ZeZ u):∀(l:List Zax) (n:Nat) (a:Ac),AcOK t u n a->(∀x∈l,Zbz t x=true)->AcOK t u (n+l.length) (l.foldl (Zfo t u) a)
 |[],n,a,h,_=>h
 |x::l,n,a,h,hl=>by
  have:=Zzo g hu l (n+1) _ (h.step g hu (hl x (by simp))) λy hy=>hl y (by simp[hy])
  simp only[ZW,ZE]
  rwa [show n+(l.length+1)=n+1+l.length by omega]
def acc0:AcOK t u 0 ⟨false,[],[]⟩:=⟨by simp,by simp,rfl,by simp,by simp,by simp,by simp⟩
def ZhJ (g:Good t)(hu:ZeZ u){l:List Zax}(hl:∀x∈l,Zbz t x=true):AcOK t u l.length (accA t u l):=by
 have:=Zzo (t:=t) (u:=u) g hu l 0 _ acc0 hl
 rwa [Zaj]at this
def ZkK (l:List Zax)(k:Nat)(hk:k<l.length):accA t u (l.take (k+1))=Zfo t u (accA t u (l.take k)) l[k]:=by
 unfold accA;rw[ZcJ hk,ZD];rfl
def Ztt (hT:Zef t=true)(hU:ZdB u=true){l:List Zax}(hl:∀x∈l,Zbz t x=true)(h1:l.length<=12)(hN:2000<=N):
  ZaT (λx:Int×Bool×(List Int)×(List ZaN)=>ZkU N t u l x.1 x.2.1 x.2.2.1 x.2.2.2) N (0,false,[],[])=some (.inl ((accA t u l).late,(accA t u l).P,(accA t u l).U)):=by
 have g:=Zbg.1 hT;have hu:=Zbk hU;obtain⟨o,ho,eo⟩:=ZbK (body:=λx:Int×Bool×(List Int)×(List ZaN)=>ZkU N t u l x.1 x.2.1 x.2.2.1 x.2.2.2)
  (λx=>∃k:Nat,x.1=k/\k<=l.length/\x.2=((accA t u (l.take k)).late,(accA t u (l.take k)).P,(accA t u (l.take k)).U)) (λx=>(l.length-x.1).toNat)
  (λr=>r=.inl ((accA t u l).late,(accA t u l).P,(accA t u l).U)) (λx hx=>by
   obtain⟨i,y⟩:=x;obtain⟨k,k1,k2,k3⟩:=hx;simp only at k1 k3;subst k1 k3;simp only[ZkU];by_cases c:k<l.length
   ·left;have hs:=hl _ (List.getElem_mem c);have ha:=ZhJ (t:=t) (u:=u) g hu (l:=l.take k) λx hx=>hl x (List.mem_of_mem_take hx)
    have a1:=ha.pl;have a2:=ha.ul;have h0:(l.take k).length<=12:=by simp;omega
    refine⟨(((k+1:Nat):Int),(accA t u (l.take (k+1))).late,(accA t u (l.take (k+1))).P,(accA t u (l.take (k+1))).U),?_,⟨k+1,rfl,by omega,rfl⟩,by simp;omega⟩;rw[Zav (by simpa using c),ZbH c,Zak,ZaO (by omega),ZkK l k c];by_cases hc:l[k].Class=7
    ·rw[Zau (by simpa using hc),Znh hT hU (SS.of hs hc) (by omega) (by omega) hN,Zak];rfl
    rw[Zav (by simpa using hc)];unfold Zfo;rw[Zau hc]
   right;obtain rfl:k=l.length:=by omega
   exact⟨.inl ((accA t u l).late,(accA t u l).P,(accA t u l).U),by rw[Zau (by simp),Zad],rfl⟩) N (0,false,[],[]) ⟨0,rfl,by omega,by simp[accA]⟩ (by simp;omega)
 rw[ho,eo]
def sumC (P:List Int)(C:Int):List ZaN->Int
 |[]=>0
 |x::l=>C.tdiv (perU P x)+sumC P C l
def Zu2 (P:List Int)(C:Int)(a b:List ZaN):sumC P C (a++b)=sumC P C a+sumC P C b:=by
 induction a with
 |nil=>simp[sumC]
 |cons x a ih=>simp only[Zz,sumC,ih];omega
def ZgZ (P:List Int)(C:Int)(U:List ZaN)(q:Int):Int:=sumC P C (U.filter λx=>x.Port==q)
def ZqZ (P:List Int)(C:Int)(U:List ZaN):Bool:=U.any λx=>decide (ZgZ P C U x.Port>63)
def ZiX (P:List Int)(U:List ZaN):Bool:=U.any λx=>decide (x.Long>perU P x)
def errC (a:Ac):Int:=if lcmL a.P<=960 then(if ZqZ a.P (lcmL a.P) a.U=true then 7 else if ZiX a.P a.U=true then 341 else if a.late=true then 342 else 0)else 6
def ZmV {P:List Int}{C:Int}(h0:0<=C)(h1:C<=960):∀{U:List ZaN},(∀x∈U,1<=perU P x)->0<=sumC P C U/\sumC P C U<=960*U.length
 |[],_=>by simp[sumC]
 |x::U,h=>by
  have ih:=ZmV h0 h1 (U:=U) λy hy=>h y (by simp[hy])
  have hx:=h x (by simp);simp only[sumC,ZW];rw[Zq h0];have d:=Zdd (a:=C) (B:=C) hx (by omega) (by omega) h0;have e:0<=C/perU P x:=Int.ediv_nonneg h0 (by omega);omega
structure Grp (U:List ZaN) (m:List (Int×List ZaN)):Prop where
 nd:(m.map (·.1)).Nodup
 val:∀p∈m,p.2=U.filter (λx=>x.Port==p.1)/\p.2≠[]
 key:∀x∈U,∃p∈m,p.1=x.Port
def Zxa {κ υ:Type}[DecidableEq κ]{m:List (κ×υ)}{z:υ}:∀{p:κ×υ},(m.map (·.1)).Nodup->p∈m->Zio m p.1 z=p.2:=by
 intro p hn hp;induction m with
 |nil=>simp at hp
 |cons q m ih=>
  rw[Znm];simp only[Z3,List.nodup_cons]at hn;rcases List.mem_cons.1 hp with rfl|hp
  ·rw[Zav rfl]
  rw[Zau,ih hn.2 hp];intro e;exact hn.1 (List.mem_map.2 ⟨p,hp,e.symm⟩)
def Zv6 {κ υ:Type}[DecidableEq κ]{m:List (κ×υ)}{x:κ}{z:υ}(h:∀p∈m,p.1≠x):Zio m x z=z:=by
 induction m with
 |nil=>rfl
 |cons q m ih=>
  rw[Znm,Zau (h q (by simp)),ih λp hp=>h p (by simp[hp])]
def Zv3 {κ υ:Type}[DecidableEq κ](m:List (κ×υ))(x:κ)(v:υ):(Zeq m x v).map (·.1)=if x∈m.map (·.1)then m.map (·.1)else m.map (·.1)++[x]:=by
 induction m with
 |nil=>simp[Zeq]
 |cons q m ih=>
  unfold Zeq;by_cases e:q.1=x
  ·rw[Zav e];simp[e]
  rw[Zau e,Z3,ih];by_cases c:x∈m.map (·.1)
  ·rw[Zav c,Zav (by simp[c])];rfl
  have hx:¬x∈(q::m).map (·.1):=by
   rw[Z3,List.mem_cons];rintro(r|r)
   ·exact e r.symm
   exact c r
  rw[Zau c,Zau hx];rfl
def ZmA {κ υ:Type}[DecidableEq κ]{m:List (κ×υ)}{x:κ}{v:υ}(hn:(m.map (·.1)).Nodup){p:κ×υ}:p∈Zeq m x v↔p=(x,v)∨(p∈m/\p.1≠x):=by
 induction m with
 |nil=>simp[Zeq]
 |cons q m ih=>
  simp only[Z3,List.nodup_cons]at hn;unfold Zeq;by_cases e:q.1=x
  ·rw[Zav e,List.mem_cons,List.mem_cons];constructor
   ·rintro(r|r)
    ·exact .inl r
    refine .inr ⟨.inr r,λe2=>hn.1 (List.mem_map.2 ⟨p,r,by rw[e2,e]⟩)⟩
   rintro(r|⟨r|r,e2⟩)
   ·exact .inl r
   ·subst r;exact absurd e e2
   exact .inr r
  rw[Zau e,List.mem_cons,ih hn.2,List.mem_cons];constructor
  ·rintro(r|r|⟨r,e2⟩)
   ·subst r;exact .inr ⟨.inl rfl,e⟩
   ·exact .inl r
   exact .inr ⟨.inr r,e2⟩
  rintro(r|⟨r|r,e2⟩)
  ·exact .inr (.inl r)
  ·exact .inl r
  exact .inr (.inr ⟨r,e2⟩)
theorem Grp.get {U:List ZaN}{m:List (Int×List ZaN)}(h:Grp U m)(q:Int):Zio m q []=U.filter (λx=>x.Port==q):=by
 by_cases c:∃p∈m,p.1=q
 ·obtain⟨p,hp,rfl⟩:=c;rw[Zxa h.nd hp,(h.val p hp).1]
 rw[Zv6 λp hp e=>c ⟨p,hp,e⟩];symm;rw[List.filter_eq_nil_iff];intro x hx hq;obtain⟨p,hp,e⟩:=h.key x hx;exact c ⟨p,hp,by rw[e];simpa using hq⟩
def Grp.add {U:List ZaN}{m:List (Int×List ZaN)}(h:Grp U m)(x:ZaN):Grp (U++[x]) (Zeq m x.Port (Zio m x.Port []++[x])):=by
 refine⟨?_,λp hp=>?_,λy hy=>?_⟩
 ·rw[Zv3];by_cases c:x.Port∈m.map (·.1)
  ·rw[Zav c];exact h.nd
  rw[Zau c,List.nodup_append];refine⟨h.nd,by simp,λa ha b hb e=>?_⟩;simp only[Z6]at hb;subst hb e;exact c ha
 ·rw[List.filter_append];rcases(ZmA h.nd).1 hp with rfl|⟨hp,h0⟩
  ·simp only;rw[h.get];refine⟨by simp,by simp⟩
  refine⟨?_,(h.val p hp).2⟩;rw[←(h.val p hp).1];simp[Ne.symm h0]
 rcases List.mem_append.1 hy with hy|hy
 ·obtain⟨p,hp,e⟩:=h.key y hy;by_cases c:p.1=x.Port
  ·exact⟨_,(ZmA h.nd).2 (.inl rfl),by rw[←e,c]⟩
  exact⟨p,(ZmA h.nd).2 (.inr ⟨hp,c⟩),e⟩
 simp only[Z6]at hy;subst hy;exact⟨_,(ZmA h.nd).2 (.inl rfl),rfl⟩
def Zzh {f:List ZaN->Option Bool}{g:List ZaN->Bool}:∀{m:List (Int×List ZaN)},(∀p∈m,f p.2=some (g p.2))->rgF f m=some (m.any λp=>g p.2)
 |[],_=>rfl
 |p::m,h=>by
  unfold rgF;rw[h p (by simp),Zak,Zzh λq hq=>h q (by simp[hq]),Zak,Zv]
def ZwC {P:List Int}{U:List ZaN}{b:Bool}(hU:U.length<=300)(h0:∀x∈U,0<=x.Stream/\x.Stream<(P.length:Int))(hN:2000<=N):
  ZaT (λx:Int=>Zcb N ⟨⟨P,U⟩,b⟩ x) N 0=some (if ZiX P U=true then .inr 341 else .inl ()):=by
 rw[ZfU (l:=U) (p:=λx=>!decide (x.Long>perU P x)) (bad:=.inr 341) (fin:=.inl ()) (λk hk=>?_) (by simp[Zcb]) (by omega)]
 ·have e:(U.all λx=>!decide (x.Long>perU P x))=!ZiX P U:=by
   unfold ZiX;rw[List.not_any_eq_all_not]
  rw[e];cases ZiX P U<;>rfl
 obtain⟨a,c⟩:=h0 _ (List.getElem_mem hk);simp only[Zcb];rw[Zav (by simpa using hk),ZbH hk,Zak,ZkE a c,Zak,ZaO (by omega)];by_cases d:U[k].Long>perU P U[k]
 ·rw[Zav (by simpa using d),Zau (by simpa using d)]
 rw[Zau (by simpa using d),Zav (by simpa using d)]
def W_eq {P:List Int}{U us:List ZaN}{b:Bool}{C:Int}(h0:0<=C)(h1:C<=960)(hl:us.length<=300)(h2:∀x∈us,0<=x.Stream/\x.Stream<(P.length:Int))(hp:∀x∈us,1<=perU P x)(e:Int)(hN:2000<=N):
  ZcI N ⟨⟨P,U⟩,b⟩ (C,e) us=some (decide (sumC P C us>63)):=by
 unfold ZcI;obtain⟨o,ho,eo⟩:=ZbK (body:=λx:Int×Int=>Zcy N ⟨⟨P,U⟩,b⟩ (C,e) us x.1 x.2)
  (λx=>∃k:Nat,x.2=k/\k<=us.length/\x.1=sumC P C (us.take k)) (λx=>(us.length-x.2).toNat) (λr=>r=sumC P C us) (λx hx=>by
   obtain⟨c,i⟩:=x;obtain⟨k,k1,k2,k3⟩:=hx;simp only at k1 k3;subst k1 k3;simp only[Zcy];by_cases c:k<us.length
   ·left;have hm:=List.getElem_mem c;obtain⟨a1,a2⟩:=h2 _ hm;have q:=hp _ hm;have s1:=ZmV (P:=P) h0 h1 (U:=us.take k) λx hx=>hp x (List.mem_of_mem_take hx)
    have h3:(us.take k).length<=300:=by simp;omega
    have d:=Zdd (a:=C) (B:=C) q (by omega) (by omega) h0;have d0:0<=C/perU P us[k]:=Int.ediv_nonneg h0 (by omega);have et:C.tdiv (perU P us[k])=C/perU P us[k]:=Zq h0;refine⟨(sumC P C (us.take (k+1)),((k+1:Nat):Int)),?_,⟨k+1,rfl,by omega,rfl⟩,by simp;omega⟩;rw[Zav (by simpa using c),ZbH c,Zak,ZkE a1 a2,Zak,Zjv (by omega),Zak,et];have ew:IntKind.i64.wrap (C/perU P us[k])=C/perU P us[k]:=ZaK (by omega) (by omega);have es:sumC P C (us.take (k+1))=sumC P C (us.take k)+C/perU P us[k]:=by
     rw[ZcJ c,Zu2];simp[sumC,et]
    rw[ew,ZaK (by omega) (by omega),ZaO (by omega),es]
   right;obtain rfl:k=us.length:=by omega
   exact⟨sumC P C us,by rw[Zau (by simp),Zad],rfl⟩) N (0,0) ⟨0,rfl,by omega,by simp[sumC]⟩ (by simp;omega)
 rw[ho,Zak,eo]
def ZyV {P:List Int}{C:Int}{U:List ZaN}{m:List (Int×List ZaN)}(h:Grp U m):(m.any λp=>decide (sumC P C p.2>63))=ZqZ P C U:=by
 unfold ZqZ ZgZ;rw[Zf,Zw,Zw];constructor
 ·rintro⟨p,hp,hs⟩;obtain⟨e,ne⟩:=h.val p hp;obtain⟨x,hx⟩:=List.exists_mem_of_ne_nil _ ne;rw[e]at hx;obtain⟨h1,h0⟩:=List.mem_filter.1 hx;have:x.Port=p.1:=by simpa using h0
  refine⟨x,h1,?_⟩;rw[this,←e];exact hs
 rintro⟨x,hx,hs⟩;obtain⟨p,hp,e⟩:=h.key x hx;refine⟨p,hp,?_⟩;rw[(h.val p hp).1,e];exact hs
def ZlY {a:Ac}{n:Nat}(h:AcOK t u n a)(hn:n<=12)(hN:2000<=N):ZdV N ⟨⟨a.P,a.U⟩,a.late⟩=some (errC a):=by
 obtain⟨h1,h2,h3,h4,h5,h6,h7⟩:=h;have h8:∀x∈a.U,1<=perU a.P x:=λx hx=>by
  obtain⟨c,d⟩:=h4 x hx;have:=ZjC.1 (List.all_eq_true.1 h3 _ (Zuw c d));omega
 unfold ZdV errC;simp only;rw[Zhz hN (by omega) h3,Zak];by_cases hc:lcmL a.P<=960
 ·rw[Zav hc,Zav hc];simp only[Zaq,Zg,Zat];obtain⟨m,hm,em⟩:=ZbK (body:=λx:Int×(List (Int×(List ZaN)))=>Zcz N ⟨⟨a.P,a.U⟩,a.late⟩ x.1 x.2)
   (λx=>∃k:Nat,x.1=k/\k<=a.U.length/\Grp (a.U.take k) x.2) (λx=>(a.U.length-x.1).toNat) (λr=>Grp a.U r) (λx hx=>by
    obtain⟨i,m⟩:=x;obtain⟨k,k1,k2,k3⟩:=hx;simp only at k1 k3;subst k1;simp only[Zcz];by_cases c:k<a.U.length
    ·left;have h9:(Zio m a.U[k].Port []).length<=192:=by
      rw[k3.get];have:=List.length_filter_le (λx=>x.Port==a.U[k].Port) (a.U.take k);have e:(a.U.take k).length<=192:=by simp;omega
      omega
     refine⟨(((k+1:Nat):Int),Zeq m a.U[k].Port (Zio m a.U[k].Port []++[a.U[k]])),?_,⟨k+1,rfl,by omega,?_⟩,by simp;omega⟩
     ·rw[Zav (by simpa using c),ZbH c,Zak,ZiT (by omega) (by omega),Zak,ZaO (by omega)]
     simp only;rw[ZcJ c];exact k3.add _
    right;obtain rfl:k=a.U.length:=by omega
    rw[Zad]at k3;exact⟨m,by rw[Zau (by simp)],k3⟩) N (0,[]) ⟨0,rfl,by omega,⟨by simp,by simp,by simp⟩⟩ (by simp;omega)
  rw[hm,Zak];rw[Zzh (g:=λus=>decide (sumC a.P (lcmL a.P) us>63)) (λp hp=>by
   have e:=(em.val p hp).1;have h0:∀x∈p.2,x∈a.U:=λx hx=>by rw[e]at hx;exact(List.mem_filter.1 hx).1
   have hl:p.2.length<=192:=by
    rw[e];have:=List.length_filter_le (λx=>x.Port==p.1) a.U;omega
   exact W_eq (by omega) (by omega) (by omega) (λx hx=>h4 x (h0 x hx)) (λx hx=>h8 x (h0 x hx)) 0 hN),Zak,ZyV em]
  cases hf:ZqZ a.P (lcmL a.P) a.U with
  |true=>rfl
  |false=>
   simp only[Zg,Zat];rw[ZwC (by omega) h4 hN,Zak];cases ZiX a.P a.U with
   |true=>rfl
   |false=>cases a.late<;>rfl
 rw[Zau hc,Zau hc];rfl
def ZtA:ZaB:=⟨[],[]⟩
def ofS (t:Zaz)(u:ZaC)(l:List Zax):ZaB×Int:=
 if Zef t=true then(if ZdB u=true then(if allR t l=0 then(if errC (accA t u l)=0 then(⟨(accA t u l).P,(accA t u l).U⟩,0)else(ZtA,errC (accA t u l)))else(ZtA,allR t l))else(ZtA,320))else(ZtA,260)
def Zy6:allR t []=if Zef t=true then 0 else 260:=by
 unfold allR;cases Zef t<;>simp[allB]
def Znz {l:List Zax}(h:allR t l=0):l.length<=12/\∀x∈l,Zbz t x=true:=by
 unfold allR at h;by_cases c:Zef t=true
 ·rw[Zav c]at h;by_cases d:l.length<=12
  ·rw[Zav d]at h;by_cases e:l.all (Zbz t)=true
   ·exact⟨d,List.all_eq_true.1 e⟩
   rw[Zau e]at h;omega
  rw[Zau d]at h;omega
 rw[Zau c]at h;omega
def Zrc (l:List Zax)(hN:2000<=N):ZpB N t u l=some (ofS t u l):=by
 unfold ZpB ofS;rw[ZhU _ (by omega),Zak,Zy6];cases hT:Zef t with
 |false=>rfl
 |true=>
  simp only[Zaw,Zaq,Zg,Zat];rw[ZgH,Zak];cases hU:ZdB u with
  |false=>rfl
  |true=>
   simp only[Zaw,Zaq,Zg,Zat];rw[ZhU _ (by omega),Zak];by_cases hA:allR t l=0
   ·obtain⟨h0,hl⟩:=Znz hA;rw[Zav hA,hA,Zau (by simp),Ztt hT hU hl h0 hN,Zak];simp only;rw[ZlY (ZhJ (Zbg.1 hT) (Zbk hU) hl) h0 hN,Zak];by_cases e:errC (accA t u l)=0
    ·rw[Zav e,e];rfl
    rw[Zau e,Zav (by simpa using e)];rfl
   rw[Zau hA,Zav (by simpa using hA)];rfl
end
end Go.Sh

namespace Go.Sh
open Go Go.Eng
section
variable {N:Nat} {t:Zaz} {u:ZaC} {s:Zax}
def Ztl (g:Good t)(hu:ZeZ u)(hs:ZkL s){r:List Int}(e2:ZbS t r=true)(hN:30000000<=N):Zml N t u s r=some (ZbC t u (Za2 t u s r (r.length-1))):=by
 obtain⟨h1,h8,hp⟩:=Zch e2;have hL:t.Links.length<=1000:=by have:=g.l24;omega
 unfold Zml;rw[ZnL g hu hs e2 hN,Zak];have hj:r.length-1<r.length:=by omega
 have hb:=Zg6 g hu hs hp _ hj;obtain⟨b1,b2,b3,b4⟩:=Zhe g hu hs hp h8 hj;obtain⟨_,_,d1,d2⟩:=Zhc g hb.port;have lo1:=hb.long1;have lo2:=hb.long2;have p1:=hu.p1;have p2:=hu.p2;have x3:idx ((List.range r.length).map (Za2 t u s r)) (w64 (((List.length ((List.range r.length).map (Za2 t u s r)):Nat):Int)-1))=some (Za2 t u s r (r.length-1)):=by
  rw[ZX,ZZ,ZaK (by omega) (by omega),show((r.length:Nat):Int)-1=((r.length-1:Nat):Int)by omega,Ze6 _ hj]
 rw[x3,Zak,ZlC hL hb.port,Zak];have h0:(Za2 t u s r (r.length-1)).Open+(Za2 t u s r (r.length-1)).Long+(plk t (Za2 t u s r (r.length-1)).Port).Delay+u.Proc=ZbC t u (Za2 t u s r (r.length-1)):=rfl;rw[ZaK (x:=(Za2 t u s r (r.length-1)).Open+(Za2 t u s r (r.length-1)).Long) (by omega) (by omega),ZaK (x:=(Za2 t u s r (r.length-1)).Open+(Za2 t u s r (r.length-1)).Long+_) (by omega) (by omega),h0,ZaK (by omega) (by omega)]
def Zoo (hT:Zef t=true)(hU:ZdB u=true){l:List Zax}{i:Nat}(hi:i<l.length)(h:SS t l[i]){b:Bool}{P:List Int}{U:List ZaN}(hP:P.length<=100)(h4:U.length<=900)(hN:30000000<=N):
  ZaT (λx:Bool×Int×(List ZaN)=>Zjj N t u l (i:Int) P x.1 x.2.1 x.2.2) N (b,0,U)=some ((Zfo t u ⟨b,P,U⟩ l[i]).late,(Zfo t u ⟨b,P,U⟩ l[i]).U):=by
 have g:=Zbg.1 hT;have hu:=Zbk hU;obtain⟨s,es⟩:∃s,s=l[i]:=⟨_,rfl⟩;have ei:idx l (i:Int)=some s:=by rw[ZbH hi,es]
 rw[←es]at h⊢;have hs:=Zei h.str;have p1:=h.per1;have p2:=h.per2;have r1:=h.r1;have r2:=h.r2;unfold Zfo;rw[Zav h.cls];simp only;obtain⟨o,ho,eo⟩:=ZbK (body:=λx:Bool×Int×(List ZaN)=>Zjj N t u l (i:Int) P x.1 x.2.1 x.2.2)
  (λx=>∃k:Nat,x.2.1=k/\k<=s.Routes.length/\x.1=(b||(s.Routes.take k).any (Znq t u s))/\x.2.2=U++(s.Routes.take k).flatMap (Zdl t u (P.length:Int) s)) (λx=>(s.Routes.length-x.2.1).toNat)
  (λr=>r=(b||s.Routes.any (Znq t u s),U++s.Routes.flatMap (Zdl t u (P.length:Int) s))) (λx hx=>by
   obtain⟨b',i',U'⟩:=x;obtain⟨k,k1,k2,k3,k4⟩:=hx;simp only at k1 k3 k4;subst k1 k3 k4;simp only[Zjj];rw[ei];simp only[Zak];by_cases c:k<s.Routes.length
   ·left;have hv:=h.rt _ (List.getElem_mem c);obtain⟨v1,v8,vp⟩:=Zch hv;refine⟨(b||(s.Routes.take (k+1)).any (Znq t u s),((k+1:Nat):Int),U++(s.Routes.take (k+1)).flatMap (Zdl t u (P.length:Int) s)),?_,⟨k+1,rfl,by omega,rfl,rfl⟩,by simp;omega⟩;rw[Zav (by simpa using c),ZbH c];simp only[Zak];rw[ZnL g hu hs hv hN,Zak,Ztl g hu hs hv hN];have h3:((s.Routes.take k).flatMap (Zdl t u (P.length:Int) s)).length<=8*(s.Routes.take k).length:=ZmE _ _ λr hr=>ZoQ g (h.rt r (List.mem_of_mem_take hr)) _
    have h2:(s.Routes.take k).length<=2:=by simp;omega
    obtain⟨q,hq,eq⟩:=ZbK (body:=λx:Int×(List ZaN)=>ZlR N u l (i:Int) P ((List.range s.Routes[k].length).map (Za2 t u s s.Routes[k])) x.1 x.2)
     (λx=>∃j:Nat,x.1=j/\j<=s.Routes[k].length/\x.2=U++(s.Routes.take k).flatMap (Zdl t u (P.length:Int) s)++(Zdl t u (P.length:Int) s s.Routes[k]).take j) (λx=>(s.Routes[k].length-x.1).toNat)
     (λr=>r=U++(s.Routes.take k).flatMap (Zdl t u (P.length:Int) s)++Zdl t u (P.length:Int) s s.Routes[k]) (λx hx=>by
      obtain⟨i',U'⟩:=x;obtain⟨j,j1,j2,j3⟩:=hx;simp only at j1 j3;subst j1 j3;simp only[ZlR];have h1:(Zdl t u (P.length:Int) s s.Routes[k]).length=s.Routes[k].length:=by simp[Zdl,Zgt]
      by_cases d:j<s.Routes[k].length
      ·left;refine⟨(((j+1:Nat):Int),U++(s.Routes.take k).flatMap (Zdl t u (P.length:Int) s)++(Zdl t u (P.length:Int) s s.Routes[k]).take (j+1)),?_,⟨j+1,rfl,by omega,rfl⟩,by simp;omega⟩;have h0:Za2 t u s s.Routes[k] j∈Zgt t u s s.Routes[k]:=List.mem_map.2 ⟨j,List.mem_range.2 d,rfl⟩;have eh:(Zdl t u (P.length:Int) s s.Routes[k])[j]'(by omega)=useH u (P.length:Int) s.Period (Za2 t u s s.Routes[k] j):=by simp[Zdl,Zgt]
       rw[Zav (by simpa using d),ei,Zak,Ze6 _ d,Zak,Ztg hu (Zss g hu hs hv h0).1 p1 (by omega),Zak,ZiT (by simp only[ZV,Z1];omega) (by omega),Zak,ZaO (by omega),ZcJ (by omega),eh];simp only[Zx]
      right;obtain rfl:j=s.Routes[k].length:=by omega
      refine⟨U++(s.Routes.take k).flatMap (Zdl t u (P.length:Int) s)++Zdl t u (P.length:Int) s s.Routes[k],?_,rfl⟩;rw[Zau (by simp),Zae (Nat.le_of_eq h1)]) N (0,U++(s.Routes.take k).flatMap (Zdl t u (P.length:Int) s)) ⟨0,rfl,by omega,by simp⟩ (by simp;omega)
    rw[hq,Zak,eq];have hj:s.Routes[k].length-1<s.Routes[k].length:=by omega
    obtain⟨b1,b2,b3,b4⟩:=Zhe g hu hs vp v8 hj;have s1:=hu.s1;have s2:=hu.s2;rw[Zak,ZaK (x:=2*u.Slack) (by omega) (by omega),ZaK (x:=ZbC t u (Za2 t u s s.Routes[k] (s.Routes[k].length-1))+2*u.Slack) (by omega) (by omega),ZaO (by omega),ZcJ c,List.any_append,List.flatMap_append];have el:decide (ZbC t u (Za2 t u s s.Routes[k] (s.Routes[k].length-1))+2*u.Slack>s.Deadline)=Znq t u s s.Routes[k]:=rfl;rw[el];simp only[Zv,List.any_nil,Bool.or_false,List.flatMap_cons,List.flatMap_nil,List.append_nil,Zx];cases b<;>cases (s.Routes.take k).any (Znq t u s)<;>cases Znq t u s s.Routes[k]<;>simp
   right;obtain rfl:k=s.Routes.length:=by omega
   exact⟨(b||s.Routes.any (Znq t u s),U++s.Routes.flatMap (Zdl t u (P.length:Int) s)),by rw[Zau (by simp),Zad],rfl⟩) N (b,0,U) ⟨0,rfl,by omega,by simp,by simp⟩ (by simp;omega)
 rw[ho,eo]
def Zr6 (hT:Zef t=true)(hU:ZdB u=true){l:List Zax}(hl:∀x∈l,Zbz t x=true)(h1:l.length<=12)(hN:30000000<=N):
  ZaT (λx:Bool×Int×(List Int)×(List ZaN)=>Zjk N t u l x.1 x.2.1 x.2.2.1 x.2.2.2) N (false,0,[],[])=some ((accA t u l).late,(accA t u l).P,(accA t u l).U):=by
 have g:=Zbg.1 hT;have hu:=Zbk hU;obtain⟨o,ho,eo⟩:=ZbK (body:=λx:Bool×Int×(List Int)×(List ZaN)=>Zjk N t u l x.1 x.2.1 x.2.2.1 x.2.2.2)
  (λx=>∃k:Nat,x.2.1=k/\k<=l.length/\x.1=(accA t u (l.take k)).late/\x.2.2=((accA t u (l.take k)).P,(accA t u (l.take k)).U)) (λx=>(l.length-x.2.1).toNat)
  (λr=>r=((accA t u l).late,(accA t u l).P,(accA t u l).U)) (λx hx=>by
   obtain⟨b,i,y⟩:=x;obtain⟨k,k1,k2,k3,k4⟩:=hx;simp only at k1 k3 k4;subst k1 k3 k4;simp only[Zjk];by_cases c:k<l.length
   ·left;have hs:=hl _ (List.getElem_mem c);have ha:=ZhJ (t:=t) (u:=u) g hu (l:=l.take k) λx hx=>hl x (List.mem_of_mem_take hx)
    have a1:=ha.pl;have a2:=ha.ul;have h0:(l.take k).length<=12:=by simp;omega
    refine⟨((accA t u (l.take (k+1))).late,((k+1:Nat):Int),(accA t u (l.take (k+1))).P,(accA t u (l.take (k+1))).U),?_,⟨k+1,rfl,by omega,rfl,rfl⟩,by simp;omega⟩;rw[Zav (by simpa using c),ZbH c];simp only[Zak];rw[ZaO (by omega),ZkK l k c];by_cases hc:l[k].Class=7
    ·have e:=Zoo (N:=N) hT hU c (SS.of hs hc) (b:=(accA t u (l.take k)).late) (P:=(accA t u (l.take k)).P) (U:=(accA t u (l.take k)).U) (by omega) (by omega) hN;rw[Zau (by simpa using hc),e,Zak,ZiT (by omega) (by omega),Zak];simp only[Zak];unfold Zfo;rw[Zav hc]
    rw[Zav (by simpa using hc)];unfold Zfo;rw[Zau hc];rfl
   right;obtain rfl:k=l.length:=by omega
   exact⟨((accA t u l).late,(accA t u l).P,(accA t u l).U),by rw[Zau (by simp),Zad],rfl⟩) N (false,0,[],[]) ⟨0,rfl,by omega,by simp[accA],by simp[accA]⟩ (by simp;omega)
 rw[ho,eo]
def Zyq {P:List Int}{U:List ZaN}{b:Bool}{C:Int}(h0:0<=C)(h1:C<=960)(hl:U.length<=300)(h2:∀x∈U,0<=x.Stream/\x.Stream<(P.length:Int))(hp:∀x∈U,1<=perU P x)(q:Int)(hN:2000<=N):
  ZaT (λx:Int×Int=>Zji N (b,P,U) C q x.1 x.2) N (0,0)=some (ZgZ P C U q):=by
 obtain⟨o,ho,eo⟩:=ZbK (body:=λx:Int×Int=>Zji N (b,P,U) C q x.1 x.2)
  (λx=>∃k:Nat,x.2=k/\k<=U.length/\x.1=ZgZ P C (U.take k) q) (λx=>(U.length-x.2).toNat) (λr=>r=ZgZ P C U q) (λx hx=>by
   obtain⟨c,i⟩:=x;obtain⟨k,k1,k2,k3⟩:=hx;simp only at k1 k3;subst k1 k3;simp only[Zji];by_cases c:k<U.length
   ·left;have hm:=List.getElem_mem c;obtain⟨a1,a2⟩:=h2 _ hm;have hq:=hp _ hm;have s1:=ZmV (P:=P) h0 h1 (U:=(U.take k).filter λx=>x.Port==q) λx hx=>hp x (List.mem_of_mem_take (List.mem_filter.1 hx).1)
    have h3:((U.take k).filter λx=>x.Port==q).length<=300:=by
     have:=List.length_filter_le (λx:ZaN=>x.Port==q) (U.take k);have e:(U.take k).length<=300:=by simp;omega
     omega
    have d:=Zdd (a:=C) (B:=C) hq (by omega) (by omega) h0;have d0:0<=C/perU P U[k]:=Int.ediv_nonneg h0 (by omega);have et:C.tdiv (perU P U[k])=C/perU P U[k]:=Zq h0;have ew:IntKind.i64.wrap (C/perU P U[k])=C/perU P U[k]:=ZaK (by omega) (by omega);refine⟨(ZgZ P C (U.take (k+1)) q,((k+1:Nat):Int)),?_,⟨k+1,rfl,by omega,rfl⟩,by simp;omega⟩;have es:ZgZ P C (U.take (k+1)) q=ZgZ P C (U.take k) q+(if U[k].Port==q then C/perU P U[k]else 0):=by
     unfold ZgZ;rw[ZcJ c,List.filter_append,Zu2]
     congr 1
     cases hh:U[k].Port==q with
     |false=>simp[List.filter,hh,sumC]
     |true=>simp[List.filter,hh,sumC,et]
    have s2:0<=ZgZ P C (U.take k) q/\ZgZ P C (U.take k) q<=960*300:=by
     unfold ZgZ;omega
    rw[Zav (by simpa using c),ZbH c];simp only[Zak];rw[ZkE a1 a2,Zak,Zjv (by omega),Zak,et,ew,ZaO (by omega),es];cases hh:U[k].Port==q with
    |false=>simp
    |true=>
     simp only[Zaw];rw[Zak,ZaK (by omega) (by omega)]
   right;obtain rfl:k=U.length:=by omega
   exact⟨ZgZ P C U q,by rw[Zau (by simp),Zad],rfl⟩) N (0,0) ⟨0,rfl,by omega,by simp[ZgZ,sumC]⟩ (by simp;omega)
 rw[ho,eo]
def Zwk {P:List Int}{C:Int}{U:List ZaN}{n:Nat}(hp:∀x∈U,0<=x.Port/\x.Port<(n:Int)):allB n (λq=>!decide (ZgZ P C U (q:Int)>63))=!ZqZ P C U:=by
 rw[Zf,Zbr];unfold ZqZ;simp only[Zh,decide_eq_false_iff_not,List.any_eq_false,Zas];constructor
 ·intro h x hx hs;have:=hp x hx;refine h x.Port.toNat (by omega) ?_;rw[Zt this.1];exact hs
 intro h q hq hs;have h2:U.filter (λx=>x.Port==(q:Int))≠[]:=by
  intro e;unfold ZgZ at hs;rw[e]at hs;simp[sumC]at hs
 obtain⟨x,hx⟩:=List.exists_mem_of_ne_nil _ h2;obtain⟨h1,h0⟩:=List.mem_filter.1 hx;have e:x.Port=(q:Int):=by simpa using h0
 exact h x h1 (by rw[e];exact hs)
def Zur (l:List Zax)(hN:30000000<=N):Zmf N t u l=some (ofS t u l):=by
 unfold Zmf ofS;rw[Zly (by omega),Zak];cases hT:Zef t with
 |false=>rfl
 |true=>
  simp only[Zi,Zg,Zat,Zaw];rw[ZqK,Zak];cases hU:ZdB u with
  |false=>rfl
  |true=>
   simp only[Zi,Zg,Zat,Zaw];rw[Znf _ (by omega),Zak];by_cases hA:allR t l=0
   ·obtain⟨h9,hl⟩:=Znz hA;have g:=Zbg.1 hT;rw[Zav hA,hA,Zau (by simp),Zr6 hT hU hl h9 hN,Zak];obtain⟨h1,h2,h3,h4,h5,h6,h7⟩:=ZhJ (t:=t) (u:=u) g (Zbk hU) hl;obtain⟨a,ea⟩:∃a,a=accA t u l:=⟨_,rfl⟩;rw[←ea]at h1 h2 h3 h4 h5 h6 h7⊢;have h0:∀x∈a.U,1<=perU a.P x:=λx hx=>by
     obtain⟨c,d⟩:=h4 x hx;have:=ZjC.1 (List.all_eq_true.1 h3 _ (Zuw c d));omega
    have ha:=ZoG h3;simp only;rw[ZnJ (by omega) (by omega) h3,Zak];unfold errC;by_cases hc:lcmL a.P<=960
    ·rw[Zav hc,Zav hc,Zau (by simp;omega)];have h8:=g.l24;rw[Zbm (n:=2*t.Links.length) (p:=λq=>!decide (ZgZ a.P (lcmL a.P) a.U (q:Int)>63)) (bad:=.inr (ZtA,7)) (fin:=.inl ()) (λq hq=>by
       simp only[ZlQ];rw[ZaK (x:=2*(t.Links.length:Int)) (by omega) (by omega),Zav (by simp;omega),Zyq (by omega) (by omega) (by omega) h4 h0 (q:Int) (by omega),Zak,ZaO (by omega)];by_cases d:ZgZ a.P (lcmL a.P) a.U (q:Int)>63
       ·rw[Zav (by simpa using d),Zau (by simpa using d)];rfl
       ·rw[Zau (by simpa using d),Zav (by simpa using d)]) (by
       simp only[ZlQ];rw[ZaK (x:=2*(t.Links.length:Int)) (by omega) (by omega),Zau (by simp)]) (by omega),Zwk (λx hx=>by
       have:=h5 x hx;simp only[ZcD,Ze,Zas]at this;omega)]
     cases hf:ZqZ a.P (lcmL a.P) a.U with
     |true=>rfl
     |false=>
      simp only[Bool.not_false,Zaw,Zg,Zat,Zak];obtain⟨o,ho,eo⟩:=ZbK (body:=λx:Bool×Int=>ZlP N (a.late,a.P,a.U) x.1 x.2)
       (λx=>∃k:Nat,x.2=k/\k<=a.U.length/\x.1=ZiX a.P (a.U.take k)) (λx=>(a.U.length-x.2).toNat) (λr=>r=ZiX a.P a.U) (λx hx=>by
        obtain⟨c,i⟩:=x;obtain⟨k,k1,k2,k3⟩:=hx;simp only at k1 k3;subst k1 k3;simp only[ZlP];by_cases c:k<a.U.length
        ·left;obtain⟨a1,a2⟩:=h4 _ (List.getElem_mem c);refine⟨(ZiX a.P (a.U.take (k+1)),((k+1:Nat):Int)),?_,⟨k+1,rfl,by omega,rfl⟩,by simp;omega⟩;have es:ZiX a.P (a.U.take (k+1))=(ZiX a.P (a.U.take k)||decide (a.U[k].Long>perU a.P a.U[k])):=by
          unfold ZiX;rw[ZcJ c,List.any_append];simp
         rw[Zav (by simpa using c),ZbH c];simp only[Zak];rw[ZkE a1 a2,Zak,ZaO (by omega),es];cases ZiX a.P (a.U.take k)with
         |true=>rfl
         |false=>cases decide (a.U[k].Long>perU a.P a.U[k])<;>rfl
        right;obtain rfl:k=a.U.length:=by omega
        exact⟨ZiX a.P a.U,by rw[Zau (by simp),Zad],rfl⟩) N (false,0) ⟨0,rfl,by omega,by simp[ZiX]⟩ (by simp;omega)
      rw[ho,Zak,eo];cases ZiX a.P a.U with
      |true=>rfl
      |false=>cases a.late<;>rfl
    rw[Zau hc,Zau hc];rfl
   rw[Zau hA,Zav (by simpa using hA)];rfl
end
end Go.Sh
namespace Go.Sh
open Go Go.Eng
section
variable {N:Nat} {t:Zaz} {u:ZaC} {s:Zax}
def Zx6 (a:Ac)(x:Zax):∃P' U',(Zfo t u a x).P=a.P++P'/\(Zfo t u a x).U=a.U++U':=by
 unfold Zfo;by_cases c:x.Class=7
 ·rw[Zav c];exact⟨_,_,rfl,rfl⟩
 rw[Zau c];exact⟨[],[],by simp,by simp⟩
def Zvo:∀(l:List Zax) (a:Ac),∃P' U',(l.foldl (Zfo t u) a).P=a.P++P'/\(l.foldl (Zfo t u) a).U=a.U++U'
 |[],a=>⟨[],[],by simp,by simp⟩
 |x::l,a=>by
  obtain⟨P1,U1,h1,h2⟩:=Zx6 (t:=t) (u:=u) a x;obtain⟨P2,U2,h3,h4⟩:=Zvo l (Zfo t u a x);exact⟨P1++P2,U1++U2,by rw[ZE,h3,h1,Zx],by rw[ZE,h4,h2,Zx]⟩
def ZuR (l:List Zax)(k:Nat):∃P' U',(accA t u l).P=(accA t u (l.take k)).P++P'/\(accA t u l).U=(accA t u (l.take k)).U++U':=by
 unfold accA;have:=Zvo (t:=t) (u:=u) (l.drop k) ((l.take k).foldl (Zfo t u) ⟨false,[],[]⟩)
 rwa [←ZD,List.take_append_drop]at this
def Zxx {a:Ac}(h:errC a=0):lcmL a.P<=960/\ZiX a.P a.U=false/\a.late=false:=by
 unfold errC at h;by_cases c:lcmL a.P<=960
 ·rw[Zav c]at h;by_cases d:ZqZ a.P (lcmL a.P) a.U=true
  ·rw[Zav d]at h;omega
  rw[Zau d]at h;by_cases e:ZiX a.P a.U=true
  ·rw[Zav e]at h;omega
  rw[Zau e]at h;by_cases f:a.late=true
  ·rw[Zav f]at h;omega
  exact⟨c,by simpa using e,by simpa using f⟩
 rw[Zau c]at h;omega
def Zms (g:Good t){a:Ac}{n:Nat}(h:AcOK t u n a)(hn:n<=12)(he:errC a=0):ZiL ⟨a.P,a.U⟩=true:=by
 obtain⟨h1,h2,h3,h4,h5,h6,h7⟩:=h;obtain⟨e1,e2,e3⟩:=Zxx he;refine Zpz.2 ⟨by simp only;omega,by simp only;omega,h3,?_,e1⟩;rw[Zu];intro x hx;have p:=h5 x hx;have hl:=g.l24;simp only[ZcD,Ze,Zas]at p;have w:x.Long<=perU a.P x:=by
  unfold ZiX at e2;rw[List.any_eq_false]at e2;have:=e2 x hx;simp only[Zas]at this;omega
 obtain⟨s1,s2⟩:=h4 x hx;obtain⟨f1,f2⟩:=h6 x hx;obtain⟨l1,_⟩:=h7 x hx;exact ZhM.2 ⟨s1,s2,by omega,by omega,f1,f2,l1,w⟩
end
end Go.Sh
namespace Go.Sh
open Go Go.Eng
section
variable {N:Nat} {p:ZaB}
def ZAK (hN:2000<=N)(h:VP p){given:List Int}(hg:∀y∈given,0<=y/\y<=1000){x:Int}(h0:0<=x)(h1:x<=1000)(hl:given.length<=12):∃r,ZoD N p given x=some r:=by
 obtain⟨r,hr,_⟩:=ZbK (body:=λy:Int=>ZlO N p given x y) (λy=>∃k:Nat,y=k/\k<=given.length) (λy=>((given.length:Int)-y).toNat) (λ_=>True) (λy hy=>by
   obtain⟨k,rfl,k1⟩:=hy;simp only[ZlO];by_cases c:k<given.length
   ·have q:=hg _ (List.getElem_mem c);rw[Zav (by simpa using c),ZbH c,Zak,Zls hN h h0 h1 q.1 q.2,Zak];split
    ·exact .inr ⟨_,rfl,trivial⟩
    exact .inl ⟨_,rfl,⟨k+1,by rw[ZaO (by omega)],by omega⟩,by rw[ZaO (by omega)];omega⟩
   exact .inr ⟨_,by rw[Zau (by simp;omega)],trivial⟩) N 0 ⟨0,rfl,by omega⟩ (by omega)
 unfold ZoD;rw[hr,Zak];cases r with
 |inl _=>
  simp only;rw[Zls hN h h0 h1 h0 h1,Zak];split<;>exact⟨_,rfl⟩
 |inr q=>exact⟨_,rfl⟩
def ZvC (p:ZaB)(l:List Zcl)(r:Za9):Prop:=(l.length<=r.Proof.length/\r.Proof.length<=41)/\(r.What=1->ZfQ p r.Offsets=true)
def Zud (p:ZaB)(given:List Int):Prop:=∀k,k<given.length->offB p k (given.getD k 0)=true
def Zud.le {p:ZaB}(h:VP p){given:List Int}(hg:Zud p given):∀y∈given,0<=y/\y<=1000:=λy hy=>by
 obtain⟨k,hk,rfl⟩:=List.getElem_of_mem hy;have:=Zw6 h (hg k hk);rw[ZbE hk]at this;omega
def Zud.snoc {p:ZaB}{given:List Int}(hg:Zud p given){x:Int}(h0:0<=x)(hl:given.length<p.Periods.length)(h1:x<p.Periods[given.length]):Zud p (given++[x]):=λk hk=>by
 rw[ZV,Z0]at hk;rw[ZF];by_cases c:k<given.length
 ·rw[ZG c,←ZF];exact hg k c
 obtain rfl:k=given.length:=by omega
 rw[ZH (Nat.le_refl _)];refine ZkX.2 ⟨by omega,by omega,by simpa using h0,?_⟩;rw[Zs,ZbE hl];simpa using h1
def ZtZ (hN:2000<=N)(h:VP p){R:ZaB->Za9->List Int->Int->Option Za9}{s:Za9}{given:List Int}(hl:given.length<p.Periods.length)(hs:s.Proof.length<=41)(h0:s.What=0)(hg:Zud p given)
  (hR:∀(s':Za9) (x:Int),s'.Proof.length<=41->s'.What=0->Zud p (given++[x])->given.length+1<p.Periods.length->∃r,R p s' (given++[x]) 40=some r/\ZvC p s'.Proof r):
  ∃r,ZgW N R p s given 40=some r/\ZvC p s.Proof r:=by
 unfold ZgW;by_cases hc:40<(s.Proof.length:Int)
 ·rw[Zav (by simpa using hc)];exact⟨_,rfl,⟨Nat.le_refl _,hs⟩,λhh=>by simp at hh⟩
 have hP:=h.len;have h2:=h.per _ (List.getElem_mem hl);rw[Zau (by simpa using hc),Zd9 (by simp;omega) (by omega),Zak];obtain⟨r,hr,e⟩:=ZbK (body:=λx:Int×Int×(List Zdy)×(List Zcl)×(List Int)=>Zd3 N R p given 40 x.1 x.2.1 x.2.2.1 x.2.2.2.1 x.2.2.2.2)
  (λy=>∃k:Nat,y.1=k/\y.2.1=0/\k<=240/\y.2.2.1.length<=k/\s.Proof.length+1<=y.2.2.2.1.length/\y.2.2.2.1.length<=41)
  (λy=>((241:Int)-y.1).toNat)
  (λr=>(∃b c d,r=.inl (0,b,c,d)/\s.Proof.length+1<=c.length/\c.length<=41)∨∃st,r=.inr st/\ZvC p s.Proof st) (λy hy=>by
   obtain⟨i,wh,arms,pr,of⟩:=y;obtain⟨k,k0,kw,k1,k2,k3,k4⟩:=hy;simp only at k0 kw k2 k3 k4;subst k0 kw;simp only[Zd3];rw[ZbH hl,Zak];by_cases c:(k:Int)<p.Periods[given.length]
   ·rw[Zav (by simpa using c)];by_cases c1:((given.length:Int)==0&&(k:Int)==1)=true
    ·rw[Zav c1,Zb0 0 (by omega) (by omega),Zak,Zd9 (by simp;omega) (by omega),Zak];exact .inr ⟨_,rfl,.inl ⟨_,_,_,rfl,k3,k4⟩⟩
    rw[Zau c1];obtain⟨b,hb⟩:=ZAK hN h (hg.le h) (x:=(k:Int)) (by omega) (by omega) (by omega);have hw:w64 ((k:Int)+1)=((k+1:Nat):Int):=ZaO (by omega);rw[hb,Zak];by_cases c2:(b != -1)=true
    ·rw[Zav c2];have arm:∃l:List Zdy,((((if(decide ((arms.length:Int)>0))then((idx arms (w64 ((arms.length:Int)-1))).bind λe1038=>(some (e1038.By==b)))else(some false))).bind λ(j1042:Bool)=>(if j1042 then((idx arms (w64 ((arms.length:Int)-1))).bind λe1045=>(some (List.set arms (Int.toNat (w64 ((arms.length:Int)-1))) (Zdy.mk e1045.From (w64 ((k:Int)+1)) e1045.By e1045.Next))))else((appI 32 arms [(Zdy.mk (k:Int) (w64 ((k:Int)+1)) b 0)]).bind λl1051=>(some l1051)))))=some l/\l.length<=k+1:=by
      by_cases hn:arms.length=0
      ·obtain rfl:=List.eq_nil_of_length_eq_zero hn;exact⟨[⟨k,w64 ((k:Int)+1),b,0⟩],by simp[Zd9],by simp⟩
      have e:w64 ((arms.length:Int)-1)=((arms.length-1:Nat):Int):=by rw[ZaK (by omega) (by omega)];omega
      rw[Zav (by simp;omega),e,ZbH (by omega),Zak,Zak];split
      ·exact⟨_,rfl,by simp;omega⟩
      rw[Zd9 (by simp;omega) (by omega)];exact⟨_,rfl,by simp;omega⟩
     obtain⟨l,h4,h3⟩:=arm;rw[h4,Zak,hw];exact .inl ⟨_,rfl,⟨k+1,rfl,rfl,by omega,h3,k3,k4⟩,by simp only;omega⟩
    rw[Zau c2,Zd9 (by simp;omega) (by omega),Zak,Z7,Zd9 (by simp;omega) (by omega),Zak];by_cases c3:(((List.length (given++[(k:Int)]):Nat):Int)==(p.Periods.length:Int))=true
    ·rw[Zav c3];have gv:=hg.snoc (x:=(k:Int)) (by omega) hl c;refine .inr ⟨_,rfl,.inr ⟨_,rfl,⟨by simp only;omega,k4⟩,λ_=>?_⟩⟩;unfold ZfQ;rw[Zar (show(given++[(k:Int)]).length=p.Periods.length by simp only[beq_iff_eq]at c3;omega),Zk];exact Zbr.2 gv
    rw[Zau c3,Zd9 (by simp;omega) (by omega),Zak];simp only[ZV,Z0,beq_iff_eq]at c3;obtain⟨st,h1,⟨s1,s2⟩,s3⟩:=hR ⟨pr,of,0⟩ (k:Int) k4 rfl (hg.snoc (by omega) hl c) (by omega);rw[h1,Zak];simp only at s1;by_cases c4:(st.What !=0)=true
    ·rw[Zav c4];exact .inr ⟨_,rfl,.inr ⟨_,rfl,⟨by omega,s2⟩,s3⟩⟩
    rw[Zau c4,hw];exact .inl ⟨_,rfl,⟨k+1,rfl,by simpa using c4,by omega,by simp;omega,by simp only;omega,s2⟩,by simp only;omega⟩
   rw[Zau (by simpa using c)];exact .inr ⟨_,rfl,.inl ⟨_,_,_,rfl,k3,k4⟩⟩) N (0,s.What,[],s.Proof++[⟨(given.length:Int),[]⟩],s.Offsets) ⟨0,rfl,h0,by omega,by simp,by simp,by simp;omega⟩ (by simp only;omega)
 rw[hr,Zak];rcases e with⟨b,c,d,rfl,e1,e2⟩|⟨st,rfl,e1⟩
 ·simp only;rw[ZbH (by omega),Zak];exact⟨_,rfl,⟨by simp;omega,by simp;omega⟩,λhh=>by simp at hh⟩
 exact⟨_,rfl,e1⟩
def Zrs (h:VP p):∀(n M:Nat) (s:Za9) (given:List Int),given.length+(n+1)=p.Periods.length->2000+n<M->s.Proof.length<=41->s.What=0->Zud p given->∃r,Zhp M p s given 40=some r/\ZvC p s.Proof r
 |n,0,s,given,_,hM,_,_,_=>by omega
 |n,M+1,s,given,hl,hM,hs,hw,hg=>by
  refine ZtZ (N:=M) (by omega) h (by omega) hs hw hg λs' x h1 h2 h3 h4=>?_
  cases n with
  |zero=>omega
  |succ n=>
   refine Zrs h n M s' (given++[x]) (by simp;omega) (by omega) h1 h2 h3
def Zwu (h:ZiL p=true)(hN:3000<=N):∃r,Zjf N p 40=some r/\(r.2.2=0->ZfQ p r.1=true):=by
 unfold Zjf;rw[ZqG (by omega),h,Zak,Zau (by simp),Zau (by decide)];have hv:=VP.of h;have hl:=hv.len;by_cases c:p.Periods.length=0
 ·rw[Zav (by simp[c])];exact⟨_,rfl,λ_=>by simp[ZfQ,c,allB]⟩
 rw[Zau (by simpa using c)];obtain⟨r,hr,_,h3⟩:=Zrs hv (p.Periods.length-1) N ⟨[],[],0⟩ [] (by simp;omega) (by omega) (by simp) rfl (λk hk=>by simp at hk);rw[hr,Zak];split
 ·rename_i h4;exact⟨_,rfl,λ_=>h3 (by simpa using h4)⟩
 split<;>exact⟨_,rfl,λhh=>by simp at hh⟩
end
end Go.Sh

namespace Go.Sh
open Go Go.Eng
def Zzk {α β S ρ:Type}(l:List α)(f:β->α->β)(J:Nat->β->Prop)(e:Nat->β->S){body:S->Option (S⊕ρ)}{fin:β->ρ}
  (h0:∀k (hk:k<l.length) b,J k b->body (e k b)=some (.inl (e (k+1) (f b l[k])))/\J (k+1) (f b l[k])) (h3:∀b,J l.length b->body (e l.length b)=some (.inr (fin b))):
  ∀(n k M:Nat) (b:β),l.length-k=n->k<=l.length->J k b->n<M->ZaT body M (e k b)=some (fin ((l.drop k).foldl f b))/\J l.length ((l.drop k).foldl f b)
 |n,k,0,b,_,_,_,h=>by omega
 |0,k,M+1,b,hn,hk,hJ,h=>by
  obtain rfl:k=l.length:=by omega
  rw[Zbh (h3 b hJ),List.drop_length];exact⟨rfl,hJ⟩
 |n+1,k,M+1,b,hn,hk,hJ,h=>by
  obtain⟨h1,h2⟩:=h0 k (by omega) b hJ;rw[ZbX h1,Zgu (show k<l.length by omega),ZE];exact Zzk l f J e h0 h3 n (k+1) M _ (by omega) (by omega) h2 (by omega)
def Zl0 {α β S ρ:Type}(l:List α)(f:β->α->β)(J:Nat->β->Prop)(e:Nat->β->S){body:S->Option (S⊕ρ)}{fin:β->ρ}{N:Nat}{b:β}(hN:l.length<N)(h0:J 0 b)
  (h1:∀k (hk:k<l.length) b,J k b->body (e k b)=some (.inl (e (k+1) (f b l[k])))/\J (k+1) (f b l[k])) (h2:∀b,J l.length b->body (e l.length b)=some (.inr (fin b))):
  ZaT body N (e 0 b)=some (fin (l.foldl f b))/\J l.length (l.foldl f b):=by
 have:=Zzk l f J e h1 h2 l.length 0 N b (by omega) (by omega) h0 hN
 rwa [ZB]at this
section
variable {N:Nat} {t:Zaz} {u:ZaC} {s:Zax}
structure Tw where
 n:Nat
 s:Zax
 x:Int
 h:ZaZ
def ZmU (t:Zaz)(u:ZaC)(n:Nat)(s:Zax)(x:Int)(r:List Int):List Tw:=(Zgt t u s r).map (Tw.mk n s x)
def ZhK (t:Zaz)(u:ZaC)(n:Nat)(s:Zax)(x:Int):List Tw:=s.Routes.flatMap (ZmU t u n s x)
def Zj3 (t:Zaz)(u:ZaC)(o:List Int)(a:Nat×List Tw)(s:Zax):Nat×List Tw:=if s.Class=7 then(a.1+1,a.2++ZhK t u a.1 s (o.getD a.1 0))else a
def Za3 (t:Zaz)(u:ZaC)(l:List Zax)(o:List Int):Nat×List Tw:=l.foldl (Zj3 t u o) (0,[])
def synW (u:ZaC)(w:Tw):Za6:=⟨w.h.Port,w.h.Open+w.x*u.Grid,w.h.Long,w.s.Period*u.Grid⟩
def Zdk (u:ZaC)(w:Tw):Int:=(w.h.Long+u.Grid-1)/u.Grid
structure TwOK (t:Zaz) (u:ZaC) (w:Tw):Prop where
 s:SS t w.s
 h:HN u w.h
 port:ZcD t w.h.Port=true
 x1:0<=w.x
 x2:w.x<w.s.Period
 grid:w.h.Open%u.Grid=0
def Zw3 (hu:ZeZ u)(g:Good t)(hs:ZkL s){r:List Int}(hv:ZbS t r=true){h:ZaZ}(hh:h∈Zgt t u s r):h.Open%u.Grid=0:=by
 obtain⟨h1,h8,hp⟩:=Zch hv;obtain⟨k,hk,rfl⟩:=List.mem_map.1 hh;rw[Z5]at hk;cases k with
 |zero=>show(0:Int)%u.Grid=0;simp
 |succ k=>show Znx u _%u.Grid=0;unfold Znx;exact Int.mul_emod_left _ _
def ZrM (g:Good t)(hu:ZeZ u)(h:SS t s){n:Nat}{x:Int}(x1:0<=x)(x2:x<s.Period){w:Tw}(hw:w∈ZhK t u n s x):TwOK t u w:=by
 obtain⟨r,hr,hw⟩:=List.mem_flatMap.1 hw;obtain⟨hh,hm,rfl⟩:=List.mem_map.1 hw;have hs:=Zei h.str;obtain⟨a,b⟩:=Zss g hu hs (h.rt r hr) hm;exact⟨h,a,b,x1,x2,Zw3 hu g hs (h.rt r hr) hm⟩
def mulG {x G:Int}(h0:0<=x)(h1:x<=100000000)(hG:1<=G)(h2:G<=10000):0<=x*G/\x*G<=1000000000000:=by
 constructor
 ·exact Int.mul_nonneg h0 (by omega)
 calc x*G<=100000000*10000:=Int.mul_le_mul h1 h2 (by omega) (by omega)
  _=_:=by decide
def TwOK.num {w:Tw}(h:TwOK t u w)(hu:ZeZ u):(0<=w.x*u.Grid/\w.x*u.Grid<=1000000000000)/\(0<=w.s.Period*u.Grid/\w.s.Period*u.Grid<=2400000)/\(0<=Zdk u w/\Zdk u w<=1552000)/\(0<=Zdk u w*u.Grid/\Zdk u w*u.Grid<=1000000000000):=by
 have p2:=h.s.per2;have p1:=h.s.per1;have x1:=h.x1;have x2:=h.x2;obtain⟨_,_,_,_,l1,l2,_⟩:=h.h;have g1:=hu.g1;have g2:=hu.g2;have h0:0<=Zdk u w/\Zdk u w<=1552000:=by
  have:=Zdd (a:=w.h.Long+u.Grid-1) (B:=1552000) g1 (by omega) (by omega) (by omega);exact⟨Int.ediv_nonneg (by omega) (by omega),this.2⟩
 refine⟨mulG x1 (by omega) g1 g2,⟨(mulG (by omega) (by omega) g1 g2).1,?_⟩,h0,mulG h0.1 (by omega) g1 g2⟩
 calc w.s.Period*u.Grid<=240*10000:=Int.mul_le_mul p2 g2 (by omega) (by omega)
  _=_:=by decide
def Zkr {a b:Int}(hb:1<=b)(ha:0<=a)(h0:a<=1000000000000000):quoI .i64 a b=some (a/b):=by
 rw[Zjv (by omega),Zq ha];show some (w64 (a/b))=_;have h1:=Int.ediv_nonneg ha (show 0<=b by omega);have h2:=Int.ediv_le_self b ha;rw[ZaK (by omega) (by omega)]
def ZsT (o:List Int):∀(l:List Zax) (a:Nat×List Tw) (b:Ac),a.1=b.P.length->(l.foldl (Zj3 t u o) a).1=(l.foldl (Zfo t u) b).P.length
 |[],a,b,h=>h
 |s::l,a,b,h=>by
  rw[ZE,ZE];refine ZsT o l _ _ ?_;unfold Zj3 Zfo;by_cases c:s.Class=7
  ·rw[Zav c,Zav c];simp[h]
  rw[Zau c,Zau c];exact h
def Zj6 (l:List Zax)(o:List Int):(Za3 t u l o).1=(accA t u l).P.length:=ZsT o l _ _ rfl
def Zg9 (l:List Zax)(o:List Int)(k:Nat)(hk:k<l.length):Za3 t u (l.take (k+1)) o=Zj3 t u o (Za3 t u (l.take k) o) l[k]:=by
 unfold Za3;rw[ZcJ hk,ZD];rfl
def Zvb {l:List Zax}{k:Nat}(hk:k<l.length)(hc:l[k].Class=7){o:List Int}(ho:ZfQ ⟨(accA t u l).P,(accA t u l).U⟩ o=true):
  (Za3 t u (l.take k) o).1<o.length/\0<=o.getD (Za3 t u (l.take k) o).1 0/\o.getD (Za3 t u (l.take k) o).1 0<l[k].Period:=by
 obtain⟨h1,h2⟩:=Zsg ho;simp only at h1;obtain⟨P',U',p1,_⟩:=ZuR (t:=t) (u:=u) l (k+1);rw[ZkK l k hk]at p1;unfold Zfo at p1;rw[Zav hc]at p1;simp only at p1;rw[Zj6];obtain⟨A,eA⟩:∃A,A=(accA t u (l.take k)).P:=⟨_,rfl⟩;rw[←eA]at p1⊢;have h0:A.length<o.length:=by rw[h1,p1];simp
 have h3:=ZkX.1 (h2 _ h0);obtain⟨_,_,a,b⟩:=h3;refine⟨h0,a,?_⟩;simp only[Zs]at b;rw[p1]at b;have e:(A++[l[k].Period]++P').getD A.length 0=l[k].Period:=by
  rw[Zx,ZF,ZH (Nat.le_refl _)];simp
 rwa [e]at b
def Zoy (g:Good t)(hu:ZeZ u){l:List Zax}(hl:∀x∈l,Zbz t x=true){o:List Int}(ho:ZfQ ⟨(accA t u l).P,(accA t u l).U⟩ o=true):∀k,k<=l.length->(∀w∈(Za3 t u (l.take k) o).2,TwOK t u w)/\(Za3 t u (l.take k) o).2.length<=16*k
 |0,_=>by simp[Za3]
 |k+1,hk=>by
  obtain⟨ih,h0⟩:=Zoy g hu hl ho k (by omega);rw[Zg9 l o k (by omega)];unfold Zj3;by_cases c:l[k].Class=7
  ·rw[Zav c];obtain⟨h1,h2,h3⟩:=Zvb (by omega) c ho;have hs:=SS.of (hl _ (List.getElem_mem (show k<l.length by omega))) c;have r2:=hs.r2;refine⟨λw hw=>?_,?_⟩
   ·rcases List.mem_append.1 hw with hw|hw
    ·exact ih w hw
    exact ZrM g hu hs h2 h3 hw
   have:=ZmE (ZmU t u (Za3 t u (l.take k) o).1 l[k] (o.getD (Za3 t u (l.take k) o).1 0)) (B:=8) l[k].Routes λr hr=>by
    have:=(Zch (hs.rt r hr)).2.1;simp[ZmU,Zgt];omega
   rw[ZV];unfold ZhK;omega
  rw[Zau c];exact⟨ih,by omega⟩
variable {σ:Type} {y:σ->Za6->Option (σ×Bool)} {F:σ->Tw->σ} {J:σ->Prop} {W:List Tw}
def Zq3 (o:List Int):∀(l:List Zax) (a:Nat×List Tw) (w:Tw),w∈a.2->w∈(l.foldl (Zj3 t u o) a).2
 |[],a,w,h=>h
 |s::l,a,w,h=>by
  rw[ZE];refine Zq3 o l _ w ?_;unfold Zj3;split
  ·exact List.mem_append_left _ h
  exact h
def ZsS (l:List Zax)(o:List Int)(k:Nat){w:Tw}(h:w∈(Za3 t u (l.take k) o).2):w∈(Za3 t u l o).2:=by
 have:=Zq3 (t:=t) (u:=u) o (l.drop k) _ w h;unfold Za3 at this⊢
 rwa [←ZD,List.take_append_drop]at this
def ZAD (hu:ZeZ u){n:Nat}{x:Int}{hs:List ZaZ}{e:Int}(h8:hs.length<=8)(h0:∀h∈hs,TwOK t u ⟨n,s,x,h⟩)(hW:∀h∈hs,(⟨n,s,x,h⟩:Tw)∈W)(hy:∀w∈W,∀z,J z->y z (synW u w)=some (F z w,true)/\J (F z w)){z:σ}(hz:J z)(hN:2000<=N):
  ZaT (λq:Int×σ=>Zbt N y u s x (hs,e) q.1 q.2) N (0,z)=some (.inl ((hs.map (Tw.mk n s x)).foldl F z))/\J ((hs.map (Tw.mk n s x)).foldl F z):=by
 have:=Zl0 (body:=λq:Int×σ=>Zbt N y u s x (hs,e) q.1 q.2) (N:=N) hs (λb h=>F b ⟨n,s,x,h⟩) (λ_ b=>J b) (λk b=>((k:Int),b)) (fin:=.inl) (b:=z) (by omega) hz (λk hk b hb=>by
   have ok:=h0 _ (List.getElem_mem hk);obtain⟨⟨a1,a2⟩,⟨b1,b2⟩,⟨c1,c2⟩,d1,d2⟩:=ok.num hu;obtain⟨_,_,o1,o2,l1,l2,_⟩:=ok.h;simp only at a1 a2 b1 b2 o1 o2;obtain⟨y1,y2⟩:=hy _ (hW _ (List.getElem_mem hk)) b hb;refine⟨?_,y2⟩;simp only[Zbt];rw[Zav (by simpa using hk),ZbH hk,Zak,ZaK (x:=x*u.Grid) (by omega) (by omega),ZaK (x:=hs[k].Open+x*u.Grid) (by omega) (by omega),ZaK (x:=s.Period*u.Grid) (by omega) (by omega)];have e:Za6.mk hs[k].Port (hs[k].Open+x*u.Grid) hs[k].Long (s.Period*u.Grid)=synW u ⟨n,s,x,hs[k]⟩:=rfl;rw[e,y1,Zak,Zau (by simp),ZaO (by omega)]) (λb hb=>by simp[Zbt])
 rw[List.foldl_map];exact this
def ZAE (hT:Zef t=true)(hU:ZdB u=true)(h:SS t s){n:Nat}{x:Int}(x1:0<=x)(x2:x<s.Period)(hW:∀w∈ZhK t u n s x,w∈W)(hy:∀w∈W,∀z,J z->y z (synW u w)=some (F z w,true)/\J (F z w)){z:σ}(hz:J z)(hN:2000<=N):
  ZaT (λq:Int×σ=>Zbu N y t u s x q.1 q.2) N (0,z)=some (.inl ((ZhK t u n s x).foldl F z))/\J ((ZhK t u n s x).foldl F z):=by
 have g:=Zbg.1 hT;have hu:=Zbk hU;have r2:=h.r2;have:=Zl0 (body:=λq:Int×σ=>Zbu N y t u s x q.1 q.2) (N:=N) s.Routes (λb r=>(ZmU t u n s x r).foldl F b) (λ_ b=>J b) (λk b=>((k:Int),b)) (fin:=.inl) (b:=z) (by omega) hz (λk hk b hb=>by
   have hv:=h.rt _ (List.getElem_mem hk);have h8:=(Zch hv).2.1;obtain⟨e1,e2⟩:=ZAD (N:=N) (t:=t) (s:=s) (n:=n) (x:=x) (e:=0) hu (hs:=Zgt t u s s.Routes[k]) (by simp[Zgt];omega) (λh' hh=>ZrM g hu h x1 x2 (List.mem_flatMap.2 ⟨_,List.getElem_mem hk,List.mem_map.2 ⟨h',hh,rfl⟩⟩)) (λh' hh=>hW _ (List.mem_flatMap.2 ⟨_,List.getElem_mem hk,List.mem_map.2 ⟨h',hh,rfl⟩⟩)) hy hb hN;refine⟨?_,e2⟩;simp only[Zbu];rw[Zav (by simpa using hk),Ze0 hT hU h.str h.cls (by omega) (by omega) (by omega),Zak,ZiC k hk];unfold Zgt at e1;rw[e1,Zak,ZaO (by omega)];rfl) (λb hb=>by simp[Zbu])
 unfold ZhK;rw[List.foldl_flatMap];exact this
def Zn7 (hT:Zef t=true)(hU:ZdB u=true){l:List Zax}(hl:∀x∈l,Zbz t x=true)(h0:l.length<=12){o:List Int}(ho:ZfQ ⟨(accA t u l).P,(accA t u l).U⟩ o=true)(hy:∀w∈(Za3 t u l o).2,∀z,J z->y z (synW u w)=some (F z w,true)/\J (F z w)){z:σ}(hz:J z)(hN:2000<=N):
  Zc0 N y l o t u z=some ((Za3 t u l o).2.foldl F z)/\J ((Za3 t u l o).2.foldl F z):=by
 have g:=Zbg.1 hT;have hu:=Zbk hU;unfold Zc0;obtain⟨r,hr,er,ej⟩:=ZbK (body:=λq:Int×Int×σ=>Zb2 N y l o t u q.1 q.2.1 q.2.2)
  (λq=>∃k:Nat,q=(((Za3 t u (l.take k) o).1:Int),(k:Int),(Za3 t u (l.take k) o).2.foldl F z)/\k<=l.length/\J ((Za3 t u (l.take k) o).2.foldl F z)) (λq=>(l.length-q.2.1).toNat)
  (λr=>r=.inl ((Za3 t u l o).2.foldl F z)/\J ((Za3 t u l o).2.foldl F z)) (λq hq=>by
   obtain⟨k,rfl,hk,hj⟩:=hq;simp only[Zb2];by_cases c:k<l.length
   ·left;rw[Zav (by simpa using c),ZbH c,Zak,ZaO (n:=k) (by omega)];have ex:=Zg9 (t:=t) (u:=u) l o k c;unfold Zj3 at ex;by_cases hc:l[k].Class=7
    ·obtain⟨h1,h2,h3⟩:=Zvb c hc ho;have hs:=SS.of (hl _ (List.getElem_mem c)) hc;rw[Zav hc]at ex;obtain⟨e1,e2⟩:=ZAE (N:=N) hT hU hs h2 h3 (W:=(Za3 t u l o).2) (λw hw=>ZsS l o (k+1) (by rw[ex];exact List.mem_append_right _ hw)) hy hj hN;have h7:=Zj6 (t:=t) (u:=u) (l.take k) o;have h8:=(ZhJ (t:=t) (u:=u) g hu (l:=l.take k) λx hx=>hl x (List.mem_of_mem_take hx)).pl;rw[Z1]at h8;refine⟨(((Za3 t u (l.take (k+1)) o).1:Int),((k+1:Nat):Int),(Za3 t u (l.take (k+1)) o).2.foldl F z),?_,⟨k+1,rfl,by omega,?_⟩,by simp only;omega⟩
     ·rw[Zau (by simpa using hc),Zb0 0 (by omega) (by omega),Zak,Zs,e1,Zak,ex,ZD,ZaO (n:=(Za3 t u (l.take k) o).1) (by omega)]
     rw[ex,ZD];exact e2
    rw[Zau hc]at ex;refine⟨(((Za3 t u (l.take (k+1)) o).1:Int),((k+1:Nat):Int),(Za3 t u (l.take (k+1)) o).2.foldl F z),?_,⟨k+1,rfl,by omega,?_⟩,by simp only;omega⟩
    ·rw[Zav (by simpa using hc),ex]
    rw[ex];exact hj
   right;obtain rfl:k=l.length:=by omega
   rw[Zad]at hj;rw[Zau (by simp),Zad];exact⟨_,rfl,rfl,hj⟩) N (0,0,z) ⟨0,by simp[Za3],by omega,by simpa[Za3]using hz⟩ (by simp only;omega)
 rw[hr,er];exact⟨rfl,ej⟩
end
end Go.Sh

namespace Go.Sh
open Go Go.Eng
def tabB (n C:Nat)(F:Nat->Nat->Bool):List (List Bool):=(List.range n).map λp=>(List.range C).map (F p)
def Zq4 {n C:Nat}{F F':Nat->Nat->Bool}(h:∀p,p<n->∀i,i<C->F p i=F' p i):tabB n C F=tabB n C F':=by
 unfold tabB;refine List.map_congr_left λp hp=>List.map_congr_left λi hi=>h p (List.mem_range.1 hp) i (List.mem_range.1 hi)
def Zx5 {n C q i:Nat}{F:Nat->Nat->Bool}(hq:q<n)(hi:i<C):(tabB n C F).set q (((List.range C).map (F q)).set i true)=tabB n C (λp k=>F p k||(decide (p=q)&&decide (i=k))):=by
 unfold tabB;refine List.ext_getElem (by simp) λp h1 h2=>?_
 simp only[ZX,ZZ]at h2;rw[List.getElem_set];by_cases c:q=p
 ·subst c;rw[Zav rfl];simp only[ZT,ZU];refine List.ext_getElem (by simp) λk h3 h4=>?_
  simp only[ZX,ZZ]at h4;rw[List.getElem_set];simp only[ZT,ZU];by_cases d:i=k
  ·simp[d]
  simp[d]
 rw[Zau c];simp only[ZT,ZU];refine List.map_congr_left λk _=>?_
 simp[Ne.symm c]
def ZuC (q C f U:Nat)(F:Nat->Nat->Bool):Nat->Nat->Bool:=λp i=>F p i||(decide (p=q)&&(List.range U).any λj=>decide ((f+j)%C=i))
def ZtJ (q C f:Nat)(F:Nat->Nat->Bool):∀U,(List.range U).foldl (λG j=>λp i=>G p i||(decide (p=q)&&decide ((f+j)%C=i))) F=ZuC q C f U F
 |0=>by funext p i;simp[ZuC]
 |U+1=>by
  rw[Zaa,ZD,ZtJ q C f F U];funext p i;simp only[ZE,List.foldl_nil,ZuC,Zaa,List.any_append,Zv,List.any_nil,Bool.or_false];cases F p i<;>cases decide (p=q)<;>simp
section
variable {N:Nat} {t:Zaz} {u:ZaC} {s:Zax}
def ZYq {n C q f U:Nat}{F:Nat->Nat->Bool}(hq:q<n)(hC:0<C)(h0:C<=960)(hf:f<=100000000)(hU:U<=2000000)(hN:30000000<=N):
  ZdZ N ((C:Int),0) (tabB n C F) (q:Int) (f:Int) (U:Int)=some (tabB n C (ZuC q C f U F)):=by
 unfold ZdZ;have:=(Zl0 (body:=λx:Int×(List (List Bool))=>Zdf N ((C:Int),0) (q:Int) (f:Int) (U:Int) x.1 x.2) (N:=N) (List.range U) (λG j=>λp i=>G p i||(decide (p=q)&&decide ((f+j)%C=i))) (λ_ _=>True) (λk G=>((k:Int),tabB n C G)) (fin:=tabB n C) (b:=F) (by rw[ZZ];omega) trivial (λk hk G _=>by
   rw[ZZ]at hk;refine⟨?_,trivial⟩;simp only[Zdf,ZU];have e:w64 ((f:Int)+(k:Int))=((f+k:Nat):Int):=by rw[ZaK (by omega) (by omega)];omega
   have hm:(f+k)%C<C:=Nat.mod_lt _ hC;have e2:(((f+k:Nat):Int)).tmod (C:Int)=(((f+k)%C:Nat):Int):=(Int.ofNat_tmod _ _).symm;rw[Zav (by simpa using hk)];unfold tabB;rw[Ze6 _ hq,Zak,e,ZcO (by omega),Zak,e2,Ze6 _ hm,Zak,Zs,Zs,ZaK (x:=(k:Int)+1) (by omega) (by omega)];have:=Zx5 (F:=G) hq hm;unfold tabB at this;rw[this];rfl) (λG _=>by simp[Zdf])).1
 rw[ZtJ]at this;rw[show((0:Nat):Int)=0 from rfl]at this;rw[this];rfl
def hitW (u:ZaC)(w:Tw)(i:Nat):Bool:=decide (((i:Int)-(w.h.Open/u.Grid+w.x))%w.s.Period<Zdk u w)
def Zxp {b P C U i:Nat}(hP:0<P)(hd:P∣C)(hC:0<C)(hi:i<C):((List.range (C/P)).any λm=>(List.range U).any λj=>decide ((b+m*P+j)%C=i))=decide (((i:Int)-b)%P<U):=by
 obtain⟨c,rfl⟩:=hd;have hc:0<c:=Nat.pos_of_ne_zero λh=>by simp[h]at hC
 rw[Nat.mul_div_cancel_left c hP,Zf];simp only[Zw,Z5,Zas];have h5:(0:Int)<P:=by omega
 constructor
 ·rintro⟨m,hm,j,hj,e⟩;have h1:=Nat.div_add_mod (b+m*P+j) (P*c);rw[e]at h1;have h2:(i:Int)-b=j+P*(m-c*((b+m*P+j)/(P*c):Nat)):=by
   rw[Int.mul_sub,←Int.mul_assoc];have h3:((P*c*((b+m*P+j)/(P*c))+i:Nat):Int)=((b+m*P+j:Nat):Int):=by rw[h1]
   push_cast at h3⊢
   rw[Zp (P:Int) m];omega
  rw[h2,Zm];have:(j:Int)%P<=j:=by
   have:=Int.emod_add_mul_ediv (j:Int) P;have h4:0<=(P:Int)*((j:Int)/P):=Int.mul_nonneg (by omega) (Int.ediv_nonneg (by omega) (by omega));omega
  omega
 intro h;have r0:=Int.emod_nonneg ((i:Int)-b) (show(P:Int)≠0 by omega);have h1:=Int.emod_add_mul_ediv ((i:Int)-b) P;obtain⟨r,hr⟩:∃r:Nat,(r:Int)=((i:Int)-b)%P:=⟨_,Zt r0⟩;obtain⟨k,hk⟩:∃k,k=((i:Int)-b)/P:=⟨_,rfl⟩;rw[←hr,←hk]at h1;rw[←hr]at h;have h0:(0:Int)<c:=by omega
 have m0:=Int.emod_nonneg k (show(c:Int)≠0 by omega);have m1:=Int.emod_lt_of_pos k h0;have h2:=Int.emod_add_mul_ediv k c;obtain⟨m,hm⟩:∃m:Nat,(m:Int)=k%c:=⟨_,Zt m0⟩;rw[←hm]at h2 m1;refine⟨m,by omega,r,by omega,?_⟩;have h3:((b+m*P+r:Nat):Int)=i+(P*c:Nat)*(-(k/c)):=by
  have:(m:Int)*P=P*k-P*(c*(k/c)):=by
   rw[←Int.mul_sub,Zp]
   congr 1
   omega
  push_cast
  rw[this,Int.mul_neg,Int.mul_assoc];omega
 have h4:(((b+m*P+r)%(P*c):Nat):Int)=(i:Int):=by
  rw[Int.natCast_emod,h3,Zm,Zo (by omega) (by omega)]
 omega
def Zq2 (q C P b U:Nat)(F:Nat->Nat->Bool):∀M,(List.range M).foldl (λG m=>ZuC q C (b+m*P) U G) F=λp i=>F p i||(decide (p=q)&&(List.range M).any λm=>(List.range U).any λj=>decide ((b+m*P+j)%C=i))
 |0=>by funext p i;simp
 |M+1=>by
  rw[Zaa,ZD,Zq2 q C P b U F M];funext p i;simp only[ZE,List.foldl_nil,ZuC,List.any_append,Zv,List.any_nil,Bool.or_false];cases F p i<;>cases decide (p=q)<;>simp
def putW (u:ZaC)(F:Nat->Nat->Bool)(w:Tw):Nat->Nat->Bool:=λp i=>F p i||(decide ((p:Int)=w.h.Port)&&hitW u w i)
def ZYp (g:Good t)(hu:ZeZ u){w:Tw}(ok:TwOK t u w){C:Nat}(hC:0<C)(h7:C<=960)(hd:w.s.Period.toNat∣C){F:Nat->Nat->Bool}(hN:30000000<=N):
  ZcR N u ((C:Int),0) (tabB (2*t.Links.length) C F) (synW u w)=some (tabB (2*t.Links.length) C (putW u F w)):=by
 obtain⟨⟨a1,a2⟩,⟨b1,b2⟩,⟨c1,c2⟩,d1,d2⟩:=ok.num hu;obtain⟨_,_,o1,o2,l1,l2,_⟩:=ok.h;have g1:=hu.g1;have g2:=hu.g2;have p1:=ok.s.per1;have p2:=ok.s.per2;have x1:=ok.x1;have x2:=ok.x2;have h1:=ok.port;simp only[ZcD,Ze,Zas]at h1;obtain⟨q,hq⟩:∃q:Nat,w.h.Port=q:=⟨w.h.Port.toNat,by omega⟩;obtain⟨P,hP⟩:∃P:Nat,w.s.Period=P:=⟨w.s.Period.toNat,by omega⟩;obtain⟨U,hU⟩:∃U:Nat,Zdk u w=U:=⟨(Zdk u w).toNat,by omega⟩;have h4:=Int.mul_ediv_add_emod w.h.Open u.Grid;rw[ok.grid]at h4;obtain⟨he,ha⟩:=Zdd (a:=w.h.Open) (B:=20000000) g1 (by omega) o2 (by omega);have h8:=Int.ediv_nonneg o1 (show 0<=u.Grid by omega);obtain⟨b,hb⟩:∃b:Nat,w.h.Open/u.Grid+w.x=b:=⟨(w.h.Open/u.Grid+w.x).toNat,by omega⟩;have h3:0<P:=by omega
 rw[hP,Zs]at hd;have h2:w.h.Open+w.x*u.Grid=(b:Int)*u.Grid:=by rw[←hb,Zl,Zp (w.h.Open/u.Grid)];omega
 have h0:∀k:Nat,k<=30000000->0<=(k:Int)*u.Grid/\(k:Int)*u.Grid<=1000000000000:=λk hk=>mulG (by omega) (by omega) g1 g2
 unfold ZcR synW;simp only;rw[ZaK (x:=w.h.Long+u.Grid) (by omega) (by omega),ZaK (x:=w.h.Long+u.Grid-1) (by omega) (by omega),Zkr g1 (by omega) (by omega),Zak];have h5:(w.h.Long+u.Grid-1)/u.Grid=(U:Int):=hU;rw[h5,h2];obtain⟨M,hM⟩:∃M,M=C/P:=⟨_,rfl⟩;have h6:M*P=C:=by rw[hM];exact Nat.div_mul_cancel hd
 have:=(Zl0 (body:=λx:Int×(List (List Bool))=>Zdg N u ((C:Int),0) ⟨w.h.Port,(b:Int)*u.Grid,w.h.Long,w.s.Period*u.Grid⟩ (U:Int) x.1 x.2) (N:=N) (List.range M) (λG m=>ZuC q C (b+m*P) U G) (λ_ _=>True) (λk G=>(((b+k*P:Nat):Int)*u.Grid,tabB (2*t.Links.length) C G)) (fin:=tabB (2*t.Links.length) C) (b:=F) (by
   rw[ZZ];have:M*1<=M*P:=Nat.mul_le_mul_left M h3;omega) trivial (λk hk G _=>by
   rw[ZZ]at hk;refine⟨?_,trivial⟩;simp only[Zdg,ZU];have h9:k*P+P<=C:=by
    have:(k+1)*P<=M*P:=Nat.mul_le_mul_right P hk;rw[Nat.succ_mul]at this;omega
   have q1:=h0 (b+k*P) (by omega);have q2:=h0 (b+C) (by omega);have q3:=h0 C (by omega);have q4:=h0 b (by omega);have eC:(b:Int)*u.Grid+(C:Int)*u.Grid=((b+C:Nat):Int)*u.Grid:=by rw[←Zl];rfl
   have lt:((b+k*P:Nat):Int)*u.Grid<((b+C:Nat):Int)*u.Grid:=Int.mul_lt_mul_of_pos_right (by omega) (by omega);have dv:((b+k*P:Nat):Int)*u.Grid/u.Grid=((b+k*P:Nat):Int):=Int.mul_ediv_cancel _ (by omega);rw[ZaK (x:=(C:Int)*u.Grid) (by omega) (by omega),ZaK (x:=(b:Int)*u.Grid+(C:Int)*u.Grid) (by omega) (by omega),eC,Zav (by simpa using lt),Zkr g1 (by omega) (by omega),dv,Zak,hq,ZYq (by omega) hC h7 (by omega) (by omega) hN,Zak];have nx:((b+k*P:Nat):Int)*u.Grid+w.s.Period*u.Grid=((b+(k+1)*P:Nat):Int)*u.Grid:=by
    rw[←Zl,hP,Nat.succ_mul]
    congr 1
    omega
   rw[nx,ZaK (by have:=h0 (b+(k+1)*P) (by rw[Nat.succ_mul];omega);omega) (by have:=h0 (b+(k+1)*P) (by rw[Nat.succ_mul];omega);omega)]) (λG _=>by
   simp only[Zdg,ZZ];have q2:=h0 (b+C) (by omega);have q3:=h0 C (by omega);have q4:=h0 b (by omega);have eC:(b:Int)*u.Grid+(C:Int)*u.Grid=((b+C:Nat):Int)*u.Grid:=by rw[←Zl];rfl
   rw[ZaK (x:=(C:Int)*u.Grid) (by omega) (by omega),ZaK (x:=(b:Int)*u.Grid+(C:Int)*u.Grid) (by omega) (by omega),eC,h6,Zau (by simp)])).1
 rw[Zq2,Nat.zero_mul,Zai]at this;rw[this,Zak]
 congr 1
 refine Zq4 λp hp i hi=>?_
 unfold putW;rw[hM,Zxp h3 hd hC hi];unfold hitW;rw[hb,hP,hU,hq]
 congr 2
 exact decide_eq_decide.2 (by omega)
def Zw1 (u:ZaC):∀(ws:List Tw) (F:Nat->Nat->Bool),ws.foldl (putW u) F=λp i=>F p i||ws.any λw=>decide ((p:Int)=w.h.Port)&&hitW u w i
 |[],F=>by funext p i;simp
 |w::ws,F=>by
  rw[ZE,Zw1 u ws];funext p i;simp only[putW,Zv,Bool.or_assoc]
def e00:ZaL:=⟨0,0⟩
def ZfT (l:List ZaL):ZaL:=l.getD (l.length-1) e00
def addE (G:Int)(l:List ZaL)(m:Int):List ZaL:=if l≠[]/\(ZfT l).Mask=m then l.set (l.length-1) ⟨(ZfT l).Mask,(ZfT l).Long+G⟩else l++[⟨m,G⟩]
def ZfR (b:Bool):Int:=if b=true then 128 else 127
def Zqr (G:Int)(row:List Bool):List ZaL:=row.foldl (λl b=>addE G l (ZfR b)) []
def ZxN {G:Int}(l:List ZaL)(m:Int):addE G l m≠[]/\(ZfT (addE G l m)).Mask=m/\(addE G l m).length<=l.length+1/\(0<=(ZfT l).Long->0<=G->0<=(ZfT (addE G l m)).Long/\(ZfT (addE G l m)).Long<=(ZfT l).Long+G):=by
 unfold addE;split
 ·rename_i h;have hl:l.length-1<l.length:=by have:=List.length_pos_iff.2 h.1;omega
  have e:ZfT (l.set (l.length-1) ⟨(ZfT l).Mask,(ZfT l).Long+G⟩)=⟨(ZfT l).Mask,(ZfT l).Long+G⟩:=by
   unfold ZfT;rw[List.length_set,ZbE (by simpa using hl),List.getElem_set_self]
  rw[e];refine⟨λh'=>h.1 (by simpa using h'),h.2,by simp,λa b=>?_⟩;simp only;omega
 have e:ZfT (l++[⟨m,G⟩])=⟨m,G⟩:=by simp[ZfT]
 rw[e];refine⟨by simp,rfl,by simp,λa b=>?_⟩;simp only;omega
def Zy8 {G m:Int}{l:List ZaL}(hl:l.length<=1000)(h1:0<=(ZfT l).Long)(h2:(ZfT l).Long<=100000000)(g1:0<=G)(g2:G<=10000){c:Bool}(hc:c=true↔l≠[]/\(ZfT l).Mask=m):
  (if c=true then((idx l (w64 ((l.length:Int)-1))).bind λe1=>((idx l (w64 ((l.length:Int)-1))).bind λe2=>(some (List.set l (Int.toNat (w64 ((l.length:Int)-1))) (ZaL.mk e2.Mask (w64 (e1.Long+G)))))))else((appI 16 l [(ZaL.mk m G)]).bind λl1=>(some l1)))=some (addE G l m):=by
 unfold addE;by_cases d:l≠[]/\(ZfT l).Mask=m
 ·rw[Zav (hc.2 d),Zav d];have h0:0<l.length:=List.length_pos_iff.2 d.1;have e:w64 ((l.length:Int)-1)=((l.length-1:Nat):Int):=by rw[ZaK (by omega) (by omega)];omega
  have e2:l[l.length-1]'(by omega)=ZfT l:=(ZbE (by omega) e00).symm;rw[e,ZbH (by omega),Zak,Zak,Zs,e2,ZaK (by omega) (by omega)]
 rw[Zau (λh=>d (hc.1 h)),Zau d,Zd9 (by simp;omega) (by omega),Zak]
def Zs5 (G:Int):∀(row:List Bool) (a b:Int) (l:List ZaL),(row.foldl (λ(x:Int×Int×List ZaL) bit=>(ZfR bit,G,addE G x.2.2 (ZfR bit))) (a,b,l)).2.2=row.foldl (λl b=>addE G l (ZfR b)) l
 |[],a,b,l=>rfl
 |x::row,a,b,l=>by rw[ZE,ZE,Zs5 G row]
def ZrS {row:List Bool}(hr:row.length<=960){G:Int}(g1:1<=G)(g2:G<=10000)(hN:2000<=N):ZkP N row G=some ⟨Zqr G row,(row.length:Int)*G⟩:=by
 unfold ZkP;have:=(Zl0 (body:=λx:Int×Int×Int×(List ZaL)=>ZgQ N row G x.1 x.2.1 x.2.2.1 x.2.2.2) (N:=N) row (λ(x:Int×Int×List ZaL) bit=>(ZfR bit,G,addE G x.2.2 (ZfR bit))) (λk x=>x.2.2.length<=k/\(x.2.2=[]->x.1=0)/\(x.2.2≠[]->(ZfT x.2.2).Mask=x.1/\x.2.1=G)/\0<=(ZfT x.2.2).Long/\(ZfT x.2.2).Long<=k*10000) (λk x=>((k:Int),x.1,x.2.1,x.2.2)) (fin:=λx=>x.2.2) (b:=(0,0,[])) (by omega) (by simp[ZfT,e00]) (λk hk x hx=>by
   obtain⟨a,b,l⟩:=x;obtain⟨j1,j2,j3,j4,j5⟩:=hx;simp only at j1 j2 j3 j4 j5⊢;obtain⟨n1,n2,n3,n4⟩:=ZxN (G:=G) l (ZfR row[k]);obtain⟨n5,n6⟩:=n4 j4 (by omega);refine⟨?_,by omega,λh=>absurd h n1,λ_=>⟨n2,trivial⟩,n5,by omega⟩;simp only[ZgQ];have hm:(if row[k]=true then(some 128)else(some 127))=some (ZfR row[k]):=by unfold ZfR;cases row[k]<;>rfl
   rw[Zav (by simpa using hk),ZbH hk,Zak,hm,Zak,Zy8 (m:=ZfR row[k]) (by omega) j4 (by omega) (by omega) g2 (c:=(ZfR row[k]==a)&&((G==b)&&true)) ?_,Zak,ZaO (by omega)];simp only[Bool.and_true,Ze,beq_iff_eq];constructor
   ·rintro⟨e1,e2⟩;by_cases hn:l=[]
    ·have:=j2 hn;unfold ZfR at e1;split at e1<;>omega
    exact⟨hn,by rw[(j3 hn).1,e1]⟩
   rintro⟨hn,e1⟩;exact⟨by rw[←e1,(j3 hn).1],(j3 hn).2.symm⟩) (λx hx=>by simp[ZgQ])).1
 rw[show((0:Nat):Int)=0 from rfl]at this;rw[this,Zak,Zs5];obtain⟨m1,m2⟩:=mulG (x:=(row.length:Int)) (by omega) (by omega) g1 g2;rw[ZaK (by omega) (by omega)];rfl
def ZcF (u:ZaC)(ws:List Tw)(p i:Nat):Bool:=ws.any λw=>decide ((p:Int)=w.h.Port)&&hitW u w i
end
end Go.Sh

namespace Go.Sh
open Go Go.Eng
def ZtY {α:Type}{n:Nat}{g:Nat->α}{body:Int×List α->Option ((Int×List α)⊕List α)}(h0:∀k:Nat,k<n->∀b:List α,b.length=n->body ((k:Int),b)=some (.inl (((k+1:Nat):Int),b.set k (g k))))
  (h3:∀b:List α,b.length=n->body ((n:Int),b)=some (.inr b)) {N:Nat} (hN:n<N) {b:List α} (hb:b.length=n):ZaT body N (0,b)=some ((List.range n).map g):=by
 obtain⟨r,hr,e⟩:=ZbK (body:=body) (λx=>∃(k:Nat) (b:List α),x=((k:Int),b)/\k<=n/\b.length=n/\∀j,j<k->b[j]?=some (g j)) (λx=>((n:Int)-x.1).toNat) (λr=>r=(List.range n).map g) (λx hx=>by
  obtain⟨k,b,rfl,k1,k2,k3⟩:=hx;by_cases c:k<n
  ·refine .inl ⟨_,h0 k c b k2,⟨k+1,_,rfl,by omega,by rw[List.length_set,k2],λj hj=>?_⟩,by simp only;omega⟩;by_cases e:k=j
   ·subst e;rw[ZR (by omega)]
   rw[ZQ e];exact k3 j (by omega)
  obtain rfl:k=n:=by omega
  refine .inr ⟨_,h3 b k2,List.ext_getElem (by simp[k2]) λj h1 h2=>?_⟩;have:=k3 j (by omega);rw[ZL h1]at this;simpa using this) N (0,b) ⟨0,b,rfl,by omega,hb,λj hj=>by omega⟩ (by simp only;omega)
 rw[hr,e]
section
variable {N:Nat} {t:Zaz} {u:ZaC} {s:Zax}
def ZeN (t:Zaz)(u:ZaC)(ws:List Tw)(C:Nat):List ZaM:=(List.range (2*t.Links.length)).map λp=>⟨Zqr u.Grid ((List.range C).map (ZcF u ws p)),(C:Int)*u.Grid⟩
def ZlE (t:Zaz)(u:ZaC)(l:List Zax)(o:List Int):List ZaM×Int:=
 if(ofS t u l).2=0 then(if ZfQ (ofS t u l).1 o=true then(if Zi9 (ofS t u l).1 o=true then(ZeN t u (Za3 t u l o).2 (lcmL (ofS t u l).1.Periods),0)else([],380))else([],2))else([],(ofS t u l).2)
def ZoF {l:List Zax}(h:(ofS t u l).2=0):Zef t=true/\ZdB u=true/\allR t l=0/\errC (accA t u l)=0/\ofS t u l=(⟨(accA t u l).P,(accA t u l).U⟩,0):=by
 unfold ofS at h⊢;split at h
 ·rename_i h1;split at h
  ·rename_i h2;split at h
   ·rename_i h3;split at h
    ·rename_i h4;exact⟨h1,h2,h3,h4,by rw[Zav h1,Zav h2,Zav h3,Zav h4]⟩
    rename_i h4;exact absurd h h4
   rename_i h3;exact absurd h h3
  simp at h
 simp at h
def ZpC (g:Good t)(hu:ZeZ u){l:List Zax}(hl:∀x∈l,Zbz t x=true){o:List Int}:∀k,k<=l.length->∀w∈(Za3 t u (l.take k) o).2,w.s.Period∈(accA t u l).P
 |0,_=>by simp[Za3]
 |k+1,hk=>by
  intro w hw;rw[Zg9 l o k (by omega)]at hw;unfold Zj3 at hw;by_cases c:l[k].Class=7
  ·rw[Zav c]at hw;rcases List.mem_append.1 hw with hw|hw
   ·exact ZpC g hu hl k (by omega) w hw
   obtain⟨P',U',p1,_⟩:=ZuR (t:=t) (u:=u) l (k+1);rw[ZkK l k (by omega)]at p1;unfold Zfo at p1;rw[Zav c]at p1;obtain⟨r,hr,hw⟩:=List.mem_flatMap.1 hw;obtain⟨hh,hm,rfl⟩:=List.mem_map.1 hw;rw[p1];simp
  rw[Zau c]at hw;exact ZpC g hu hl k (by omega) w hw
def ZyL (u:ZaC)(n C:Nat)(z:List (List Bool))(w:Tw):List (List Bool):=tabB n C (putW u (λp i=>(z.getD p []).getD i false) w)
def ZtK (n C:Nat)(F:Nat->Nat->Bool)(w:Tw):ZyL u n C (tabB n C F) w=tabB n C (putW u F w):=by
 unfold ZyL;refine Zq4 λp hp i hi=>?_
 have e:(tabB n C F).getD p []=(List.range C).map (F p):=by
  unfold tabB;rw[ZbE (by simpa using hp),ZT,ZU]
 have e2:((List.range C).map (F p)).getD i false=F p i:=by rw[ZbE (by simpa using hi),ZT,ZU]
 unfold putW;simp only[e,e2]
def ZtW (n C:Nat):∀(ws:List Tw) (F:Nat->Nat->Bool),ws.foldl (ZyL u n C) (tabB n C F)=tabB n C (ws.foldl (putW u) F)
 |[],F=>rfl
 |w::ws,F=>by rw[ZE,ZE,ZtK,ZtW n C ws]
def Zqm (l:List Zax)(o:List Int)(hN:30000000<=N):Ze7 N t u l o=some (ZlE t u l o):=by
 have h1:2000<=N:=by omega
 unfold Ze7 ZlE;rw[Zrc _ h1,Zak];by_cases h0:(ofS t u l).2=0
 ·obtain⟨hT,hU,hA,he,h2⟩:=ZoF h0;obtain⟨h5,hl⟩:=Znz hA;have g:=Zbg.1 hT;have hu:=Zbk hU;have hp:ZiL (ofS t u l).1=true:=by rw[h2];exact Zms g (ZhJ g hu hl) h5 he
  have hv:=VP.of hp;rw[Zau (by simp[h0]),Zav h0,ZnU h1,Zak];unfold Zy0;rw[Zav hp];cases ho:ZfQ (ofS t u l).1 o with
  |false=>rfl
  |true=>
   rw[Zav rfl,Zav rfl];cases hs:Zi9 (ofS t u l).1 o with
   |false=>rfl
   |true=>
    simp only[Zaq,Zg,Zat,Zi,Zaw];rw[Zmu h1,Zav hp,Zak];simp only[Zaq,Zg,Zat];have hC:=hv.lcm;have h4:=hv.lpos;have h7:=g.l24;obtain⟨C,eC⟩:∃C,C=lcmL (ofS t u l).1.Periods:=⟨_,rfl⟩;rw[←eC]at hC h4⊢;obtain⟨n,en⟩:∃n,n=2*t.Links.length:=⟨_,rfl⟩;have ew:w64 (2*(t.Links.length:Int))=(n:Int):=by rw[ZaK (by omega) (by omega)];omega
    have ef:famI 24 (n:Int)=some (List.replicate n ([]:List Bool)):=by
     unfold famI;rw[Zav (by omega),Zs]
    have em:Zgs 1 (C:Int) (C:Int) false=some (List.replicate C false):=by
     unfold Zgs;rw[Zav (by omega),Zs]
    rw[ew,ef,Zak];have l1:=ZtY (n:=n) (g:=λ_=>List.replicate C false) (body:=λx:Int×(List (List Bool))=>Zdh N ((C:Int),0) (List.replicate n []) x.1 x.2) (N:=N) (λk hk b hb=>by
     simp only[Zdh];rw[Zav (by simpa using hk),em,Zak,ZbH (by omega),Zak,ZaO (by omega),Zs]) (λb hb=>by simp[Zdh]) (by omega) (b:=List.replicate n []) (by simp)
    rw[l1,Zak];have e1:(List.range n).map (λ_=>List.replicate C false)=tabB n C (λ_ _=>false):=by
     unfold tabB;refine List.map_congr_left λp _=>?_
     rw[List.map_const',ZZ]
    rw[e1];unfold Zey;rw[Zak];have h3:ZfQ ⟨(accA t u l).P,(accA t u l).U⟩ o=true:=by rw[h2]at ho;exact ho
    have h6:∀w∈(Za3 t u l o).2,w.s.Period.toNat∣C:=λw hw=>by
     have:=ZpC (t:=t) (u:=u) g hu hl (o:=o) l.length (Nat.le_refl _) w (by rw[Zad];exact hw);rw[eC,h2];exact Zh2.1 (Nat.dvd_refl _) _ this
    have key:=(Zn7 (N:=N) (t:=t) (u:=u) (y:=λ(s:(List (List Bool))) (x552:Za6)=>Zea (λv:(List (List Bool))=>ZcR N u ((C:Int),0) v x552) s) (F:=ZyL u n C) (J:=λz=>∃F,z=tabB n C F) (o:=o) hT hU hl h5 h3 (λw hw z hz=>by
      obtain⟨F,rfl⟩:=hz;have ok:=(Zoy (t:=t) (u:=u) g hu hl h3 l.length (Nat.le_refl _)).1 w (by rw[Zad];exact hw);rw[ZtK];refine⟨?_,_,rfl⟩;unfold Zea;simp only;rw[en,ZYp g hu ok h4 hC (h6 w hw) hN];rfl) (z:=tabB n C (λ_ _=>false)) ⟨_,rfl⟩ h1).1
    rw[key,Zak,ZtW,Zw1];have ln:∀F,(tabB n C F).length=n:=λF=>by simp[tabB]
    have e2:Zgs 32 ((n:Nat):Int) ((n:Nat):Int) (ZaM.mk ([]) 0)=some (List.replicate n ⟨[],0⟩):=by
     unfold Zgs;rw[Zav (by omega),Zs]
    rw[ln,e2,Zak];have g1:=hu.g1;have g2:=hu.g2;have l6:=ZtY (n:=n) (g:=λp=>(⟨Zqr u.Grid ((List.range C).map (ZcF u (Za3 t u l o).2 p)),(C:Int)*u.Grid⟩:ZaM)) (body:=λx:Int×(List ZaM)=>Zde N u (tabB n C (λp i=>false||(Za3 t u l o).2.any λw=>decide ((p:Int)=w.h.Port)&&hitW u w i)) (List.replicate n ⟨[],0⟩) x.1 x.2) (N:=N) (λk hk b hb=>by
     simp only[Zde];rw[Zav (by simpa using hk)];unfold tabB;rw[Ze6 _ hk,Zak,ZrS (by simp;omega) g1 g2 h1,Zak,ZbH (by omega),Zak,ZaO (by omega),Zs];simp only[Bool.false_or,ZX,ZZ];rfl) (λb hb=>by simp[Zde]) (by omega) (b:=List.replicate n ⟨[],0⟩) (by simp)
    rw[l6,Zak];unfold ZeN;rw[←en]
 rw[Zav (by simpa using h0),Zau h0]
def ZvI (n:Nat):ZjF (n+1000)=some true:=by kernel_rfl
def Zzr (hN:2000<=N):ZjF N=some true:=by
 have:=ZvI (N-1000)
 rwa [show N-1000+1000=N by omega]at this
def Zxd {c:ZfS}(hc:ZjR c)(hN:30000000+c.L.length<=N):∃t u l o,ZfD N c=some (t,u,l,o)/\((ofS t u l).2=0->ZfQ (ofS t u l).1 o=true):=by
 obtain⟨hd,hl,hw,⟨_,hs⟩,_⟩:=hc;obtain⟨t,t1,t2,t3⟩:=Zwm (N:=N) (DOK.of hd) (by omega);obtain⟨u,u1,u2⟩:=Zmk (N:=N) (ZfF hw.1) (ZfF hw.2.1) (ZfF hw.2.2);obtain⟨l,s1,s2⟩:=Zmj (N:=N) t2 t3 (λd hd=>SDOK.of (hl.2 d hd)) hl.1 (by omega);have h6:2000<=N:=by omega
 unfold ZfD;rw[t1,Zak,u1,Zak,s1,Zak,Zur _ (by omega),Zak];by_cases h0:(ofS t u l).2=0
 ·obtain⟨hT,hU,hA,he,h3⟩:=ZoF h0;obtain⟨h7,h5⟩:=Znz hA;have hp:ZiL (ofS t u l).1=true:=by rw[h3];exact Zms t2 (ZhJ t2 (Zbk hU) h5) h7 he
  obtain⟨q,hq,h1⟩:=Zr4 h6 (VP.of hp) hs;rw[Zau (by simp[h0]),hq];obtain⟨r,hr,h2⟩:=Zwu (N:=N) hp (by omega);rw[hr];cases c.Find with
  |false=>exact⟨_,_,_,_,rfl,λ_=>h1⟩
  |true=>
   rw[Zav rfl,Zak];split
   ·rename_i h4;exact⟨_,_,_,_,rfl,λ_=>h2 (by simpa using h4)⟩
   exact⟨_,_,_,_,rfl,λ_=>h1⟩
 rw[Zav (by simpa using h0)];exact⟨_,_,_,_,rfl,λhh=>absurd hh h0⟩
end
end Go.Sh

namespace Go.Sh
open Go Go.Eng
def ZxD (p:ZaB)(l:List Int):Bool:=allB l.length λi=>allB l.length λj=>!(ZkA p i (l.getD i 0) j (l.getD j 0))
def ZrV {p:ZaB}(h:VP p)(l:List Int):Zi9 p l=ZxD p l:=by
 unfold Zi9 ZxD;rw[Zf];simp only[Zbr];constructor
 ·intro q i hi j hj;rcases Nat.le_total j i with c|c
  ·exact q i hi j (by omega)
  have:=q j hj i (by omega)
  rwa [Zrh h]at this
 intro q i hi j hj;exact q i hi j (by omega)
end Go.Sh
namespace Go.Sh
open Go Go.Eng
def ZhG (n:Nat)(q:Nat->Bool):(List.range (n+1)).countP q=(List.range n).countP q+(if q n=true then 1 else 0):=by
 rw[Zaa,List.countP_append];simp[List.countP_cons]
def Zuz {n:Nat}{q:Nat->Bool}:0<(List.range n).countP q↔∃k,k<n/\q k=true:=by
 rw[List.countP_pos_iff];simp
def Zzy {n:Nat}{q:Nat->Bool}:1<(List.range n).countP q↔∃k m,k<n/\m<n/\k≠m/\q k=true/\q m=true:=by
 induction n with
 |zero=>simp
 |succ n ih=>
  rw[ZhG];by_cases c:q n=true
  ·rw[Zav c];constructor
   ·intro h;obtain⟨k,h1,h2⟩:=Zuz.1 (show 0<(List.range n).countP q by omega);exact⟨k,n,by omega,by omega,by omega,h2,c⟩
   rintro⟨k,m,h1,h2,h3,h4,h5⟩;have:0<(List.range n).countP q:=by
    by_cases e:k=n
    ·exact Zuz.2 ⟨m,by omega,h5⟩
    exact Zuz.2 ⟨k,by omega,h4⟩
   omega
  rw[Zau c,Zai,ih];constructor
  ·rintro⟨k,m,h1,h2,h3,h4,h5⟩;exact⟨k,m,by omega,by omega,h3,h4,h5⟩
  rintro⟨k,m,h1,h2,h3,h4,h5⟩;refine⟨k,m,?_,?_,h3,h4,h5⟩
  ·by_cases e:k=n
   ·subst e;exact absurd h4 c
   omega
  by_cases e:m=n
  ·subst e;exact absurd h5 c
  omega
end Go.Sh
namespace Go.Sh
open Go Go.Eng
section
variable {N:Nat} {t:Zaz} {u:ZaC} {s:Zax}
def useW (u:ZaC)(w:Tw):ZaN:=useH u (w.n:Int) w.s.Period w.h
def ZsQ (o:List Int):∀(l:List Zax) (a:Nat×List Tw) (b:Ac),a.1=b.P.length->b.U=a.2.map (useW u)->(l.foldl (Zfo t u) b).U=(l.foldl (Zj3 t u o) a).2.map (useW u)
 |[],a,b,_,h=>h
 |s::l,a,b,h1,h2=>by
  rw[ZE,ZE];refine ZsQ o l _ _ ?_ ?_
  ·unfold Zj3 Zfo;by_cases c:s.Class=7
   ·rw[Zav c,Zav c];simp[h1]
   rw[Zau c,Zau c];exact h1
  unfold Zj3 Zfo;by_cases c:s.Class=7
  ·rw[Zav c,Zav c];simp only[Z2,h2,ZhK,List.map_flatMap,←h1]
   congr 1
   refine congrArg (λf=>List.flatMap f s.Routes) (funext λr=>?_);simp only[Zdl,ZmU,List.map_map];rfl
  rw[Zau c,Zau c];exact h2
def ZmT (l:List Zax)(o:List Int):(accA t u l).U=(Za3 t u l o).2.map (useW u):=ZsQ o l _ _ rfl rfl
def ZrL {l:List Zax}{o:List Int}:∀k,k<=l.length->∀w∈(Za3 t u (l.take k) o).2,w.x=o.getD w.n 0/\w.n<(accA t u l).P.length/\(accA t u l).P.getD w.n 0=w.s.Period
 |0,_=>by simp[Za3]
 |k+1,hk=>by
  intro w hw;rw[Zg9 l o k (by omega)]at hw;unfold Zj3 at hw;by_cases c:l[k].Class=7
  ·rw[Zav c]at hw;rcases List.mem_append.1 hw with hw|hw
   ·exact ZrL k (by omega) w hw
   obtain⟨P',U',p1,_⟩:=ZuR (t:=t) (u:=u) l (k+1);rw[ZkK l k (by omega)]at p1;unfold Zfo at p1;rw[Zav c]at p1;simp only at p1;rw[Zj6]at hw;obtain⟨r,hr,hw⟩:=List.mem_flatMap.1 hw;obtain⟨hh,hm,rfl⟩:=List.mem_map.1 hw;obtain⟨A,eA⟩:∃A,A=(accA t u (l.take k)).P:=⟨_,rfl⟩;rw[←eA]at p1⊢;refine⟨rfl,by rw[p1];simp,?_⟩;show(accA t u l).P.getD A.length 0=l[k].Period;rw[p1,Zx,ZF,ZH (Nat.le_refl _)];simp
  rw[Zau c]at hw;exact ZrL k (by omega) w hw
def covS (a:ZaR)(x:Int):Prop:=(x-a.From)%a.Period<a.Long
def ZxC {a:ZaR}(x:Int){m:Int}(h:a.Period∣m):covS a (x%m)↔covS a x:=by
 unfold covS;rw[Int.sub_emod,Zn _ h,←Int.sub_emod]
def ZvL {p:ZaB}(hp:ZiL p=true){o:List Int}(ho:ZfQ p o=true)(hs:Zi9 p o=true){k m:Nat}(hk:k<p.Uses.length)(hm:m<p.Uses.length)(h4:k≠m)(h3:p.Uses[k].Port=p.Uses[m].Port)(x:Int):
  ¬(covS (Ze9 p p.Uses[k] (o.getD p.Uses[k].Stream.toNat 0)) x/\covS (Ze9 p p.Uses[m] (o.getD p.Uses[m].Stream.toNat 0)) x):=by
 have h:=VP.of hp;have hl:=(Zsg ho).1;rw[ZrV h]at hs;unfold ZxD at hs;obtain⟨a1,a2,_⟩:=h.use _ (List.getElem_mem hk);obtain⟨b1,b2,_⟩:=h.use _ (List.getElem_mem hm);have h1:=Zbr.1 (Zbr.1 hs p.Uses[k].Stream.toNat (by omega)) p.Uses[m].Stream.toNat (by omega);unfold ZkA at h1;rw[Bool.not_not]at h1;have h2:=Zbr.1 (Zbr.1 h1 k hk) m hm;unfold hitB at h2;rw[ZbE hk,ZbE hm,Zt a1,Zt b1]at h2;simp only[h4,h3,ne_eq,not_false_eq_true,decide_true,beq_self_eq_true,Zk,Bool.not_not,Zas]at h2;have v1:=h.vspan (List.getElem_mem hk) (o.getD p.Uses[k].Stream.toNat 0);have v2:=h.vspan (List.getElem_mem hm) (o.getD p.Uses[m].Stream.toNat 0);obtain⟨a,ea⟩:∃a,a=Ze9 p p.Uses[k] (o.getD p.Uses[k].Stream.toNat 0):=⟨_,rfl⟩;obtain⟨b,eb⟩:∃b,b=Ze9 p p.Uses[m] (o.getD p.Uses[m].Stream.toNat 0):=⟨_,rfl⟩;rw[←ea,←eb]at h2⊢;rw[←ea]at v1;rw[←eb]at v2;rintro⟨c1,c2⟩;have b1:=v1.bounds;have b2:=v2.bounds;have h0:0<a.Period*b.Period:=Int.mul_pos (by omega) (by omega);have n0:=Int.emod_nonneg x (show a.Period*b.Period≠0 by omega);have n1:=Int.emod_lt_of_pos x h0;have e0:(((x%(a.Period*b.Period)).toNat:Nat):Int)=x%(a.Period*b.Period):=Zt n0;exact(ZxI v1 v2).1 h2 (x%(a.Period*b.Period)).toNat (by rw[e0];exact n1) ⟨by rw[e0];exact(ZxC x (Int.dvd_mul_right _ _)).2 c1,by rw[e0];exact(ZxC x (Int.dvd_mul_left _ _)).2 c2⟩
def earW (u:ZaC)(w:Tw):Int:=w.h.Early/u.Grid+w.x
def opW (u:ZaC)(w:Tw):Int:=w.h.Open/u.Grid+w.x
def ZwB (hu:ZeZ u){w:Tw}(ok:TwOK t u w):(useW u w).Long=opW u w-earW u w+Zdk u w/\earW u w<=opW u w/\(w.h.Early<w.h.Open->earW u w<opW u w):=by
 have g1:=hu.g1;obtain⟨_,_,o1,o2,l1,l2,eo⟩:=ok.h;have h0:=Int.mul_ediv_add_emod w.h.Open u.Grid;rw[ok.grid]at h0;unfold useW useH opW earW Zdk;simp only;have e:(w.h.Open+w.h.Long+u.Grid-1)/u.Grid=w.h.Open/u.Grid+(w.h.Long+u.Grid-1)/u.Grid:=by
  rw[show w.h.Open+w.h.Long+u.Grid-1=(w.h.Long+u.Grid-1)+u.Grid*(w.h.Open/u.Grid)by omega,Int.add_mul_ediv_left _ _ (by omega)];omega
 rw[e];refine⟨by omega,by have:=Int.ediv_le_ediv (show 0<u.Grid by omega) eo;omega,λh=>?_⟩;have:w.h.Early/u.Grid<w.h.Open/u.Grid:=by
  refine Int.ediv_lt_of_lt_mul (by omega) ?_;rw[Zp];omega
 omega
def ZwL {p:ZaB}{w:Tw}(hP:perU p.Periods (useW u w)=w.s.Period)(y:Int):covS (Ze9 p (useW u w) w.x) y↔(y-earW u w)%w.s.Period<(useW u w).Long:=by
 unfold covS Ze9;rw[hP];simp only;have e:(y-((useW u w).From+w.x)%w.s.Period)%w.s.Period=(y-earW u w)%w.s.Period:=by
  show(y-(w.h.Early/u.Grid%w.s.Period+w.x)%w.s.Period)%w.s.Period=_;unfold earW;simp only[Int.sub_emod_emod,Int.emod_add_emod]
 rw[e]
def hitI (u:ZaC)(w:Tw)(y:Int):Prop:=(y-opW u w)%w.s.Period<Zdk u w
def Zxn (hu:ZeZ u){w:Tw}(ok:TwOK t u w)(hw:(useW u w).Long<=w.s.Period){y:Int}(h:hitI u w y):(y-earW u w)%w.s.Period<(useW u w).Long:=by
 obtain⟨e1,e2,_⟩:=ZwB hu ok;have p1:=ok.s.per1;unfold hitI at h;have m0:=Int.emod_nonneg (y-opW u w) (show w.s.Period≠0 by omega);have:(y-earW u w)%w.s.Period=(y-opW u w)%w.s.Period+(opW u w-earW u w):=by
  rw[show y-earW u w=(y-opW u w)+(opW u w-earW u w)by omega,Int.add_emod,Zo (a:=opW u w-earW u w) (by omega) (by omega),Zo (by omega) (by omega)]
 omega
structure Fit (t:Zaz) (u:ZaC) (l:List Zax) (o:List Int):Prop where
 topo:Zef t=true
 set:ZdB u=true
 str:∀x∈l,Zbz t x=true
 l12:l.length<=12
 err:errC (accA t u l)=0
 of:ofS t u l=(⟨(accA t u l).P,(accA t u l).U⟩,0)
 prob:ZiL ⟨(accA t u l).P,(accA t u l).U⟩=true
 off:ZfQ ⟨(accA t u l).P,(accA t u l).U⟩ o=true
 fits:Zi9 ⟨(accA t u l).P,(accA t u l).U⟩ o=true
def Zxe {l:List Zax}{o:List Int}(h:(ZlE t u l o).2=0):Fit t u l o/\(ZlE t u l o).1=ZeN t u (Za3 t u l o).2 (lcmL (accA t u l).P):=by
 unfold ZlE at h⊢;by_cases h0:(ofS t u l).2=0
 ·obtain⟨hT,hU,hA,he,h3⟩:=ZoF h0;obtain⟨h4,hl⟩:=Znz hA;have g:=Zbg.1 hT;have hp:ZiL ⟨(accA t u l).P,(accA t u l).U⟩=true:=Zms g (ZhJ g (Zbk hU) hl) h4 he;rw[Zav h0]at h⊢;rw[h3]at h⊢;by_cases h1:ZfQ ⟨(accA t u l).P,(accA t u l).U⟩ o=true
  ·rw[Zav h1]at h⊢;by_cases h2:Zi9 ⟨(accA t u l).P,(accA t u l).U⟩ o=true
   ·rw[Zav h2];exact⟨⟨hT,hU,hl,h4,he,h3,hp,h1,h2⟩,rfl⟩
   rw[Zau h2]at h;simp at h
  rw[Zau h1]at h;simp at h
 rw[Zau h0]at h;exact absurd h h0
def Fit.win {l:List Zax}{o:List Int}(h:Fit t u l o){w:Tw}(hw:w∈(Za3 t u l o).2):TwOK t u w/\w.x=o.getD w.n 0/\perU (accA t u l).P (useW u w)=w.s.Period/\(useW u w).Long<=w.s.Period/\w.s.Period∣((lcmL (accA t u l).P:Nat):Int):=by
 have g:=Zbg.1 h.topo;have h1:w∈(Za3 t u (l.take l.length) o).2:=by rw[Zad];exact hw
 have ok:=(Zoy g (Zbk h.set) h.str h.off l.length (Nat.le_refl _)).1 w h1;obtain⟨x1,x2,x3⟩:=ZrL l.length (Nat.le_refl _) w h1;have h0:perU (accA t u l).P (useW u w)=w.s.Period:=x3;have hm:useW u w∈(accA t u l).U:=by rw[ZmT l o];exact List.mem_map.2 ⟨w,hw,rfl⟩
 obtain⟨_,_,_,_,_,_,_,u8⟩:=(VP.of h.prob).use _ hm;simp only at u8;refine⟨ok,x1,h0,by rw[←h0];exact u8,?_⟩;have h2:=ZpC (t:=t) (u:=u) g (Zbk h.set) h.str (o:=o) l.length (Nat.le_refl _) w h1;have:=Int.natCast_dvd_natCast.2 (Zh2.1 (Nat.dvd_refl (lcmL (accA t u l).P)) _ h2)
 rwa [Zt (by have:=ok.s.per1;omega)]at this
def Fit.apart {l:List Zax}{o:List Int}(h:Fit t u l o){k m:Nat}(hk:k<(Za3 t u l o).2.length)(hm:m<(Za3 t u l o).2.length)(h4:k≠m)(h0:(Za3 t u l o).2[k].h.Port=(Za3 t u l o).2[m].h.Port){y:Int}
  (h1:(y-earW u (Za3 t u l o).2[k])%(Za3 t u l o).2[k].s.Period<(useW u (Za3 t u l o).2[k]).Long):¬hitI u (Za3 t u l o).2[m] y:=by
 intro h2;obtain⟨ok1,x1,q1,l1,_⟩:=h.win (List.getElem_mem hk);obtain⟨ok2,x2,q2,l2,_⟩:=h.win (List.getElem_mem hm);have h3:=Zxn (Zbk h.set) ok2 l2 h2;have eU:=ZmT (t:=t) (u:=u) l o;have h6:k<(accA t u l).U.length:=by rw[eU];simpa using hk
 have h5:m<(accA t u l).U.length:=by rw[eU];simpa using hm
 have e1:(accA t u l).U[k]=useW u (Za3 t u l o).2[k]:=by simp only[eU,ZT]
 have e2:(accA t u l).U[m]=useW u (Za3 t u l o).2[m]:=by simp only[eU,ZT]
 refine ZvL h.prob h.off h.fits (k:=k) (m:=m) h6 h5 h4 ?_ y ⟨?_,?_⟩
 ·simp only[e1,e2];exact h0
 ·simp only[e1];have:o.getD (useW u (Za3 t u l o).2[k]).Stream.toNat 0=(Za3 t u l o).2[k].x:=x1.symm;rw[this];exact(ZwL q1 y).2 h1
 simp only[e2];have:o.getD (useW u (Za3 t u l o).2[m]).Stream.toNat 0=(Za3 t u l o).2[m].x:=x2.symm;rw[this];exact(ZwL q2 y).2 h3
end
end Go.Sh

namespace Go.Sh
open Go Go.Eng
def okE (e:ZaL):Bool:=!((decide (e.Mask<0))||((decide (e.Mask>255))||((decide (e.Long<1))||(decide (e.Long>9600000)))))
def ZjD {e:ZaL}:okE e=true↔0<=e.Mask/\e.Mask<=255/\1<=e.Long/\e.Long<=9600000:=by
 unfold okE;simp only[Zh,Bool.or_eq_false_iff,decide_eq_false_iff_not];omega
def sumL:List ZaL->Int
 |[]=>0
 |e::l=>e.Long+sumL l
def Zeg (a b:List ZaL):sumL (a++b)=sumL a+sumL b:=by
 induction a with
 |nil=>simp[sumL]
 |cons e a ih=>simp only[Zz,sumL,ih];omega
def Zhb {l:List ZaL}(h:∀e∈l,okE e=true):(l.length:Int)<=sumL l/\sumL l<=9600000*l.length:=by
 induction l with
 |nil=>simp[sumL]
 |cons e l ih=>
  have h1:=ZjD.1 (h e (by simp));have h2:=ih λx hx=>h x (by simp[hx])
  simp only[sumL,ZW];omega
def VG (g:ZaM):Prop:=1<=g.Entries.length/\g.Entries.length<=128/\(g.Entries.all okE=true)/\sumL g.Entries=g.Cycle/\g.Cycle<=9600000
instance (g:ZaM):Decidable (VG g):=by unfold VG;infer_instance
def VG.ok {g:ZaM}(h:VG g):∀e∈g.Entries,okE e=true:=List.all_eq_true.1 h.2.2.1
def Zwn (N:Nat)(g:ZaM)(hl:g.Entries.length<=128):∀(n M k:Nat) (s:Int),g.Entries.length-k=n->k<=g.Entries.length->n<M->0<=s->s<=9600000*k→
  ZaT (λx:Int×Int=>ZeX N g x.1 x.2) M (s,(k:Int))=some (if(g.Entries.drop k).all okE then .inl (s+sumL (g.Entries.drop k))else .inr 370):=by
 intro n;induction n with
 |zero=>
  intro M k s hn hk hM h0 h1;have:k=g.Entries.length:=by omega
  subst this;cases M with
  |zero=>omega
  |succ M=>rw[Zbh (r:=.inl s) (by simp[ZeX])];simp[sumL]
 |succ n ih=>
  intro M k s hn hk hM h0 h1;cases M with
  |zero=>omega
  |succ M=>
   have h3:k<g.Entries.length:=by omega
   rw[Zgu h3,List.all_cons];have h2:ZeX N g s (k:Int)=if okE g.Entries[k]=true then some (.inl (w64 (s+g.Entries[k].Long),((k+1:Nat):Int)))else some (.inr (.inr 370)):=by
    simp only[ZeX];rw[Zav (by simpa using h3),Ziq,ZL h3,Zak,ZaK (x:=(k:Int)+1) (by omega) (by omega)];unfold okE;cases ((decide (g.Entries[k].Mask<0))||((decide (g.Entries[k].Mask>255))||((decide (g.Entries[k].Long<1))||(decide (g.Entries[k].Long>9600000)))))<;>simp
   by_cases ho:okE g.Entries[k]=true
   ·have hb:=ZjD.1 ho;rw[ZbX (by rw[h2,Zav ho]),ZaK (by omega) (by omega),ih M (k+1) _ (by omega) (by omega) (by omega) (by omega) (by omega)];simp only[ho,Zk,sumL,Int.add_assoc]
   rw[Zbh (by rw[h2,Zau ho])];simp[ho]
def Zis {N:Nat}(hN:200<=N)(g:ZaM):ZfW N g=some (if VG g then 0 else 370):=by
 unfold ZfW;by_cases h:1<=g.Entries.length/\g.Entries.length<=128
 ·rw[Zau (by simp only[Zj,Zas];omega)];have:=Zwn N g h.2 g.Entries.length N 0 0 (by omega) (by omega) (by omega) (by omega) (by omega);rw[show((0:Nat):Int)=0 from rfl,ZB,Int.zero_add]at this;rw[this,Zak];by_cases ha:g.Entries.all okE=true
  ·simp only[ha,Zaw];by_cases hs:sumL g.Entries=g.Cycle/\g.Cycle<=9600000
   ·rw[Zav (show VG g from⟨h.1,h.2,ha,hs.1,hs.2⟩),Zau (by simp only[Zj,bne_iff_ne,Zas];omega)]
   rw[Zau (show ¬VG g from λhv=>hs ⟨hv.2.2.2.1,hv.2.2.2.2⟩),Zav (by simp only[Zj,bne_iff_ne,Zas];omega)]
  rw[Zau (show ¬VG g from λhv=>ha hv.2.2.1)];simp only[ha,Zg,Zat]
 rw[Zav (by simp only[Zj,Zas];omega),Zau (show ¬VG g from λhv=>h ⟨hv.1,hv.2.1⟩)]
def errS (g:ZaM)(c t l:Int):Int:=if VG g then(if 0<=c/\c<=7∧ -1099511627776<=t/\t<=1099511627776/\0<=l/\l<=1099511627776 then 0 else 2)else 370
def ZlG {N:Nat}(hN:200<=N)(g:ZaM)(c t l:Int):ZhE N g c t l=some (errS g c t l):=by
 unfold ZhE errS;rw[Zis hN,Zak];by_cases h:VG g
 ·simp only[h,Zaw,Zaq,Zg,Zat];by_cases hc:0<=c/\c<=7∧ -1099511627776<=t/\t<=1099511627776/\0<=l/\l<=1099511627776
  ·rw[Zav hc,Zau (by simp only[Zj,Zas];omega)]
  rw[Zau hc,Zav (by simp only[Zj,Zas];omega)]
 simp[h]
def AtE (E:List ZaL)(t:Int)(i:Nat)(e:ZaL)(s:Int):Prop:=E[i]?=some e/\0<=s/\s<e.Long/\t%sumL E=sumL (E.take i)+s
def ZgP {E:List ZaL}{i:Nat}{e:ZaL}(h:E[i]?=some e):sumL (E.take (i+1))=sumL (E.take i)+e.Long:=by
 have hi:=(List.getElem?_eq_some_iff.1 h).1;rw[Zaf hi,Zeg];have:E[i]=e:=by
  have:=ZL hi;rw[h]at this;exact(Option.some.inj this).symm
 simp[sumL,this]
def Zhg {E:List ZaL}(h:∀e∈E,okE e=true){i j:Nat}(h0:i<=j):sumL (E.take i)<=sumL (E.take j):=by
 have e:E.take j=E.take i++(E.take j).drop i:=by
  conv=>lhs;rw[←List.take_append_drop i (E.take j),List.take_take,Nat.min_eq_left h0]
 rw[e,Zeg];have:=(Zhb (l:=(E.take j).drop i) λx hx=>h x (List.mem_of_mem_take (List.mem_of_mem_drop hx))).1;omega
def Zwx {E:List ZaL}(h:∀e∈E,okE e=true){t:Int}{i j:Nat}{e f:ZaL}{s r:Int}(h1:AtE E t i e s)(h2:AtE E t j f r):i=j/\e=f/\s=r:=by
 obtain⟨a1,a2,a3,a4⟩:=h1;obtain⟨b1,b2,b3,b4⟩:=h2;have key:∀{i j:Nat} {e f:ZaL} {s r:Int},E[i]?=some e->E[j]?=some f->0<=s->s<e.Long->0<=r->r<f.Long->sumL (E.take i)+s=sumL (E.take j)+r->¬i<j:=by
  intro i j e f s r a1 b1 a2 a3 b2 b3 h4 h3;have:=Zhg h (show i+1<=j by omega);rw[ZgP a1]at this;omega
 have h0:i=j:=by
  have n1:=key a1 b1 a2 a3 b2 b3 (by omega);have n2:=key b1 a1 b2 b3 a2 a3 (by omega);omega
 subst h0;rw[a1]at b1;cases b1;exact⟨rfl,rfl,by omega⟩
def Zwz {E:List ZaL}(h:∀e∈E,okE e=true):∀(l:List ZaL) (k:Nat) (r:Int),E.drop k=l->0<=r->r<sumL l->∃i e s,E[i]?=some e/\0<=s/\s<e.Long/\sumL (E.take k)+r=sumL (E.take i)+s:=by
 intro l;induction l with
 |nil=>intro k r _ h0 h1;simp only[sumL]at h1;omega
 |cons e l ih=>
  intro k r hk h0 h1;have h2:k<E.length:=by
   rcases Nat.lt_or_ge k E.length with h'|h'
   ·exact h'
   rw[List.drop_eq_nil_of_le h']at hk;cases hk
  rw[Zgu h2]at hk;simp only[Zy]at hk;have hE:E[k]?=some e:=by rw[ZL h2,hk.1]
  by_cases hr:r<e.Long
  ·exact⟨k,e,r,hE,h0,hr,rfl⟩
  simp only[sumL]at h1;obtain⟨i,f,s,a1,a2,a3,a4⟩:=ih (k+1) (r-e.Long) hk.2 (by omega) (by omega);rw[ZgP hE]at a4;exact⟨i,f,s,a1,a2,a3,by omega⟩
def ZiV {E:List ZaL}(h:∀e∈E,okE e=true)(h1:1<=E.length)(t:Int):∃i e s,AtE E t i e s:=by
 have hb:=(Zhb h).1;have h0:0<sumL E:=by omega
 obtain⟨i,e,s,a1,a2,a3,a4⟩:=Zwz h E 0 (t%sumL E) (by simp) (Int.emod_nonneg _ (by omega)) (Int.emod_lt_of_pos _ h0);exact⟨i,e,s,a1,a2,a3,by simpa[sumL]using a4⟩
def Zwy {E:List ZaL}{t:Int}{i:Nat}{e:ZaL}{s:Int}(h:AtE E t i e s)(k:Int):AtE E (t+k*sumL E) i e s:=by
 obtain⟨a1,a2,a3,a4⟩:=h;exact⟨a1,a2,a3,by rw[Int.add_mul_emod_self_right];exact a4⟩
def ZvG {E:List ZaL}(h:∀e∈E,okE e=true){t:Int}{i:Nat}{e:ZaL}{s:Int}(ha:AtE E t i e s):sumL (E.take i)+e.Long<=sumL E/\0<=sumL (E.take i)/\i<E.length:=by
 obtain⟨a1,a2,a3,a4⟩:=ha;have hi:=(List.getElem?_eq_some_iff.1 a1).1;have h1:=Zhg h (show i+1<=E.length from hi);rw[ZgP a1,Zad]at h1;have h2:=Zhg h (show 0<=i by omega);simp only[List.take_zero,sumL]at h2;exact⟨h1,h2,hi⟩
def Zrt {t k C:Int}(h0:0<=t%C+k)(h1:t%C+k<C):(t+k)%C=t%C+k:=by
 have:t+k=(t%C+k)+C*(t/C):=by have:=Int.mul_ediv_add_emod t C;omega
 rw[this,Zm];exact Zo h0 h1
def Zxy {t k C:Int}(h:t%C+k=C):(t+k)%C=0:=by
 have:t+k=C*(t/C+1):=by have:=Int.mul_ediv_add_emod t C;rw[Int.mul_add];omega
 rw[this];exact Int.mul_emod_right _ _
def ZMp {E:List ZaL}(h:∀e∈E,okE e=true){t:Int}{i:Nat}{e:ZaL}{s k:Int}(ha:AtE E t i e s)(h0:0<=s+k)(h1:s+k<e.Long):AtE E (t+k) i e (s+k):=by
 have hl:=ZvG h ha;obtain⟨a1,a2,a3,a4⟩:=ha;refine⟨a1,h0,h1,?_⟩;rw[Zrt (by omega) (by omega),a4];omega
def Zze {E:List ZaL}(h:∀e∈E,okE e=true){t:Int}{i:Nat}{e:ZaL}{s:Int}(ha:AtE E t i e s):∃f,AtE E (t+(e.Long-s)) ((i+1)%E.length) f 0:=by
 have hl:=ZvG h ha;obtain⟨a1,a2,a3,a4⟩:=ha;have h3:0<E.length:=by omega
 have h0:=Nat.mod_lt (i+1) h3;refine⟨E[(i+1)%E.length],ZL h0,Int.le_refl _,?_,?_⟩
 ·have:=ZjD.1 (h _ (List.getElem_mem h0));omega
 by_cases hi:i+1<E.length
 ·rw[Nat.mod_eq_of_lt hi,ZgP a1];have h1:=Zhg h (show i+1+1<=E.length from hi);rw[ZgP (ZL hi),ZgP a1,Zad]at h1;have h2:=ZjD.1 (h _ (List.getElem_mem hi));rw[Zrt (by omega) (by omega),a4];omega
 have:i+1=E.length:=by omega
 rw[this,Nat.mod_self];have h1:=ZgP a1;rw[this,Zad]at h1;rw[Zxy (by omega)];simp[sumL]
noncomputable def mAt (E:List ZaL)(t:Int):Int:=by
 classical exact if h:∃i e s,AtE E t i e s then(Classical.choose (Classical.choose_spec h)).Mask else 0
def ZnZ {E:List ZaL}(h:∀e∈E,okE e=true){t:Int}{i:Nat}{e:ZaL}{s:Int}(ha:AtE E t i e s):mAt E t=e.Mask:=by
 unfold mAt;have hex:∃i e s,AtE E t i e s:=⟨i,e,s,ha⟩;rw[dif_pos hex];obtain⟨s',h0⟩:=Classical.choose_spec (Classical.choose_spec hex);have:=(Zwx h ha h0).2.1;rw[←this]
def Zri {E:List ZaL}(h:∀e∈E,okE e=true)(h0:1<=E.length)(t k:Int):mAt E (t+k*sumL E)=mAt E t:=by
 obtain⟨i,e,s,ha⟩:=ZiV h h0 t;rw[ZnZ h ha,ZnZ h (Zwy ha k)]
def ZuE {E:List ZaL}(h:∀e∈E,okE e=true)(h0:1<=E.length)(t:Int):∃e∈E,mAt E t=e.Mask:=by
 obtain⟨i,e,s,ha⟩:=ZiV h h0 t;exact⟨e,List.mem_of_getElem? ha.1,ZnZ h ha⟩
def ZfE {α:Type}{l:List α}{k:Nat}{e:α}(h:l[k]?=some e):idx l (k:Int)=some e:=by rw[Ziq,h]
def Zxv (N:Nat){g:ZaM}(hg:VG g){i:Nat}{e:ZaL}{s:Int}(h1:g.Entries[i]?=some e)(h2:0<=s)(h3:s<e.Long):∀(n M k:Nat),i-k=n->k<=i->n<M→
  ZaT (λx:Int×Int=>ZdR N g x.1 x.2) M (sumL (g.Entries.take i)+s-sumL (g.Entries.take k),(k:Int))=some ((i:Int),e.Long-s):=by
 have hi:=(List.getElem?_eq_some_iff.1 h1).1;have hE:=ZjD.1 (hg.ok e (List.mem_of_getElem? h1));have h7:=hg.2.1;have hC:=(Zhb hg.ok).2;intro n;induction n with
 |zero=>
  intro M k hn hk hM;have:k=i:=by omega
  subst this;cases M with
  |zero=>omega
  |succ M=>
   rw[Zbh (r:=((k:Int),e.Long-s))];simp only[ZdR];rw[ZfE h1,Zak,Zau (by simp only[Zas];omega),Zak,ZaK (by omega) (by omega)]
   congr 3
   omega
 |succ n ih=>
  intro M k hn hk hM;cases M with
  |zero=>omega
  |succ M=>
   have h4:k<g.Entries.length:=by omega
   have h0:g.Entries[k]?=some g.Entries[k]:=ZL h4;have hb:=ZjD.1 (hg.ok _ (List.getElem_mem h4));have hm:=Zhg hg.ok (show k+1<=i by omega);rw[ZgP h0]at hm;have h6:=Zhg hg.ok (show i<=g.Entries.length by omega);rw[Zad]at h6;have h5:=Zhg hg.ok (show 0<=k by omega);simp only[List.take_zero,sumL]at h5;have h8:=hg.2.2.2;rw[ZbX (y:=(sumL (g.Entries.take i)+s-sumL (g.Entries.take (k+1)),((k+1:Nat):Int))),ih M (k+1) (by omega) (by omega) (by omega)];simp only[ZdR];rw[ZfE h0,Zak,Zav (by simp only[Zas];omega),Zak,ZaK (by omega) (by omega),ZaK (by omega) (by omega),ZgP h0]
   congr 3
   omega
def ZjK {N:Nat}(hN:200<=N){g:ZaM}(hg:VG g){t:Int}{i:Nat}{e:ZaL}{s:Int}(ha:AtE g.Entries t i e s):Zhf N g t=some ((i:Int),e.Long-s):=by
 have h5:=ZvG hg.ok ha;have hb:=Zhb hg.ok;have hC:=hg.2.2.2;have h4:=hg.1;have h3:=hg.2.1;have h0:0<g.Cycle:=by omega
 have h1:=Int.lt_tmod_of_pos t h0;have h2:=Int.tmod_lt_of_pos t h0;unfold Zhf;rw[ZcO (by omega),Zak,ZaK (by omega) (by omega),ZcO (by omega),Zak,ZrQ h0,←hC.1,ha.2.2.2];have:=Zxv N hg ha.1 ha.2.1 ha.2.2.1 i N 0 (by omega) (by omega) (by omega);simp only[List.take_zero,sumL,Int.sub_zero]at this;rw[show((0:Nat):Int)=0 from rfl]at this;rw[this,Zak]
def ZmC {N:Nat}(hN:200<=N)(g:ZaM)(t:Int):ZfV N g t=some (if errS g 0 t 0=0 then(mAt g.Entries t,0)else(0,errS g 0 t 0)):=by
 unfold ZfV;rw[ZlG hN,Zak];by_cases h:errS g 0 t 0=0
 ·have hg:VG g:=by
   unfold errS at h;by_cases hv:VG g
   ·exact hv
   rw[Zau hv]at h;cases h
  obtain⟨i,e,s,ha⟩:=ZiV hg.ok hg.1 t;rw[Zau (by simp[h]),ZjK hN hg ha,Zak,ZfE ha.1,Zak,ZnZ hg.ok ha,Zav h]
 rw[Zav (by simp[h]),Zau h]
end Go.Sh
namespace Go.Sh
open Go Go.Eng
def IsSt (E:List ZaL)(p:Int->Bool)(t r:Int):Prop:=
 (r=sumL E/\∀e∈E,p e.Mask=true)∨(0<=r/\r<sumL E/\(∀k,0<=k->k<r->p (mAt E (t+k))=true)/\p (mAt E (t+r))=false)
def ZuT {E:List ZaL}(h:∀e∈E,okE e=true)(h0:1<=E.length){p:Int->Bool}{t r r':Int}(h1:IsSt E p t r)(h2:IsSt E p t r'):r=r':=by
 rcases h1 with⟨a1,a2⟩|⟨a1,a2,a3,a4⟩<;>rcases h2 with⟨b1,b2⟩|⟨b1,b2,b3,b4⟩
 ·omega
 ·obtain⟨e,he,hm⟩:=ZuE h h0 (t+r');rw[hm,a2 e he]at b4;cases b4
 ·obtain⟨e,he,hm⟩:=ZuE h h0 (t+r);rw[hm,b2 e he]at a4;cases a4
 rcases Int.lt_trichotomy r r' with h3|h5|h4
 ·rw[b3 r a1 h3]at a4;cases a4
 ·exact h5
 rw[a3 r' b1 h4]at b4;cases b4
def ZyN {E:List ZaL}(h:∀e∈E,okE e=true)(h5:1<=E.length){p:Int->Bool}{t r:Int}(h0:0<=r)(h1:∀k,0<=k->k<r->p (mAt E (t+k))=true)(h2:p (mAt E (t+r))=false):r<sumL E:=by
 rcases Int.lt_or_le r (sumL E)with h6|h7
 ·exact h6
 exfalso;have hb:=(Zhb h).1;have h3:=h1 (r-sumL E) (by omega) (by omega);have h4:=Zri h h5 (t+(r-sumL E)) 1;rw[show t+(r-sumL E)+1*sumL E=t+r by omega]at h4;rw[h4,h3]at h2;cases h2
def Zx3 {E:List ZaL}(h:∀e∈E,okE e=true){t:Int}{i:Nat}{e:ZaL}{s:Int}(ha:AtE E t i e s){k:Int}(h0:0<=s+k)(h1:s+k<e.Long):mAt E (t+k)=e.Mask:=ZnZ h (ZMp h ha h0 h1)
def ZyJ {len q i0:Nat}:((i0+q)%len+1)%len=(i0+(q+1))%len:=by
 rw[Nat.mod_add_mod];rfl
def ZAM {E:List ZaL}{P:ZaL->Prop}{i0:Nat}(h:∀j,j<E.length->∃f,E[(i0+j)%E.length]?=some f/\P f):∀e∈E,P e:=by
 intro e he;obtain⟨k,hk,rfl⟩:=List.getElem_of_mem he;have h0:0<E.length:=by omega
 have hm:=Nat.mod_lt i0 h0;obtain⟨f,hf,hP⟩:=h ((k+E.length-i0%E.length)%E.length) (Nat.mod_lt _ h0);have e1:(i0+(k+E.length-i0%E.length)%E.length)%E.length=k:=by
  rw[Nat.add_mod_mod];have h1:=Nat.div_add_mod i0 E.length;have h2:i0+(k+E.length-i0%E.length)=k+E.length*(i0/E.length+1):=by rw[Nat.mul_add];omega
  rw[h2,Nat.add_mul_mod_self_left,Nat.mod_eq_of_lt hk]
 rw[e1,ZL hk]at hf;cases hf;exact hP
def ZsV (N:Nat){g:ZaM}(hg:VG g){has:Int->Option Bool}{p:Int->Bool}(hp:∀e∈g.Entries,has e.Mask=some (p e.Mask))(t:Int)(i0:Nat):∀(n M q:Nat) (e:ZaL) (s c:Int),
  g.Entries.length+1-q=n->q<=g.Entries.length+1->n<M->AtE g.Entries (t+c) ((i0+q)%g.Entries.length) e s->0<=c->c<=9600000*q->(∀k,0<=k->k<c->p (mAt g.Entries (t+k))=true)→
  (∀j,j<q->∃f,g.Entries[(i0+j)%g.Entries.length]?=some f/\p f.Mask=true)→
  ∃o,ZaT (λx:Int×Int×Int×Int=>Zcp N g has x.1 x.2.1 x.2.2.1 x.2.2.2) M ((((i0+q)%g.Entries.length:Nat):Int),e.Long-s,c,(q:Int))=some o∧
   ((∃x,o=.inl x/\∀e∈g.Entries,p e.Mask=true)∨(∃r,o=.inr r/\0<=r/\(∀k,0<=k->k<r->p (mAt g.Entries (t+k))=true)/\p (mAt g.Entries (t+r))=false)):=by
 have h9:=hg.1;have h8:=hg.2.1;intro n;induction n with
 |zero=>
  intro M q e s c hn hq hM ha h0 h1 h2 h3;cases M with
  |zero=>omega
  |succ M=>
   refine⟨.inl (),Zbh ?_,.inl ⟨_,rfl,ZAM λj hj=>h3 j (by omega)⟩⟩;simp only[Zcp];rw[ZaK (by omega) (by omega),Zau (by simp only[Zas];omega)]
 |succ n ih=>
  intro M q e s c hn hq hM ha h0 h1 h2 h3;cases M with
  |zero=>omega
  |succ M=>
   have hE:=ZjD.1 (hg.ok e (List.mem_of_getElem? ha.1));have hs:=ha.2;have hh:(i0+q)%g.Entries.length<g.Entries.length:=Nat.mod_lt _ (by omega);have he:=hp e (List.mem_of_getElem? ha.1);obtain⟨f,hf⟩:=Zze hg.ok ha;have hu:=ZjD.1 (hg.ok f (List.mem_of_getElem? hf.1));have h7:((i0+q)%g.Entries.length+1)%g.Entries.length<g.Entries.length:=Nat.mod_lt _ (by omega);have h4:Zcp N g has (((i0+q)%g.Entries.length:Nat):Int) (e.Long-s) c (q:Int)=
     if p e.Mask=true then some (.inl ((((((i0+q)%g.Entries.length+1)%g.Entries.length:Nat):Int)),f.Long,c+(e.Long-s),((q+1:Nat):Int)))else some (.inr (.inr c)):=by
    simp only[Zcp];rw[ZaK (x:=(g.Entries.length:Int)+1) (by omega) (by omega),Zav (by simp only[Zas];omega),ZfE ha.1,Zak,he,Zak];cases p e.Mask with
    |false=>simp
    |true=>
     simp only[Zi,Zg,Zat,Zaw];generalize ht:(i0+q)%g.Entries.length=m at*;rw[ZaK (x:=(m:Int)+1) (by omega) (by omega),ZcO (by omega),Zak,Zr (by omega)];have e1:((m:Int)+1)%(g.Entries.length:Int)=(((m+1)%g.Entries.length:Nat):Int):=by
      rw[Int.natCast_emod];rfl
     rw[e1,ZfE hf.1,Zak,ZaK (by omega) (by omega),ZaK (by omega) (by omega)];rfl
   by_cases h5:p e.Mask=true
   ·rw[ZbX (by rw[h4,Zav h5])];rw[ZyJ]at hf⊢;have h6:AtE g.Entries (t+(c+(e.Long-s))) ((i0+(q+1))%g.Entries.length) f 0:=by
     rw[show t+(c+(e.Long-s))=t+c+(e.Long-s)by omega];exact hf
    have:=ih M (q+1) f 0 (c+(e.Long-s)) (by omega) (by omega) (by omega) h6 (by omega) (by omega) (λk k0 k1=>by
     by_cases hk:k<c
     ·exact h2 k k0 hk
     ·have:=Zx3 hg.ok ha (k:=k-c) (by omega) (by omega);rw[show t+c+(k-c)=t+k by omega]at this;rw[this,h5]) (λj hj=>by
     by_cases hm:j<q
     ·exact h3 j hm
     have:j=q:=by omega
     subst this;exact⟨e,ha.1,h5⟩)
    rw[Int.sub_zero]at this;exact this
   refine⟨.inr c,Zbh (by rw[h4,Zau h5]),.inr ⟨c,rfl,h0,h2,?_⟩⟩;rw[ZnZ hg.ok ha];simpa using h5
def Zj0 {N:Nat}(hN:200<=N){g:ZaM}(hg:VG g){has:Int->Option Bool}{p:Int->Bool}(hp:∀e∈g.Entries,has e.Mask=some (p e.Mask))(t:Int):∃r,ZeH N g t has=some r/\IsSt g.Entries p t r:=by
 obtain⟨i,e,s,ha⟩:=ZiV hg.ok hg.1 t;have hi:=(ZvG hg.ok ha).2.2;have h4:=hg.2.1;have h3:(i+0)%g.Entries.length=i:=by rw[Zai,Nat.mod_eq_of_lt hi]
 obtain⟨o,h1,h2⟩:=ZsV N hg hp t i (g.Entries.length+1) N 0 e s 0 (by omega) (by omega) (by omega) (by rw[h3,Int.add_zero];exact ha) (by omega) (by omega) (λk k0 k1=>by omega) (λj hj=>by omega);rw[h3,show((0:Nat):Int)=0 from rfl]at h1;unfold ZeH;rw[ZjK hN hg ha,Zak];simp only;rw[h1,Zak];rcases h2 with⟨x,rfl,h0⟩|⟨r,rfl,r0,r1,r2⟩
 ·exact⟨g.Cycle,rfl,.inl ⟨hg.2.2.2.1.symm,h0⟩⟩
 exact⟨r,rfl,.inr ⟨r0,ZyN hg.ok hg.1 r0 r1 r2,r1,r2⟩⟩
def ZuU {g:ZaM}(hg:VG g)(p:Int->Bool)(t:Int):∃r,IsSt g.Entries p t r:=
 let ⟨r,_,h⟩:=Zj0 (N:=200) (Nat.le_refl _) hg (has:=λm=>some (p m)) (λ_ _=>rfl) t
 ⟨r,h⟩
def Zow {N:Nat}(hN:200<=N){g:ZaM}(hg:VG g){has:Int->Option Bool}{p:Int->Bool}(hp:∀e∈g.Entries,has e.Mask=some (p e.Mask)){t r:Int}(hr:IsSt g.Entries p t r):ZeH N g t has=some r:=by
 obtain⟨r',h1,h2⟩:=Zj0 hN hg hp t;rw[h1,ZuT hg.ok hg.1 h2 hr]
def Zxw {g:ZaM}{c t l:Int}(h:errS g c t l=0):VG g/\0<=c/\c<=7∧ -1099511627776<=t/\t<=1099511627776/\0<=l/\l<=1099511627776:=by
 unfold errS at h;by_cases hv:VG g
 ·rw[Zav hv]at h;by_cases hc:0<=c/\c<=7∧ -1099511627776<=t/\t<=1099511627776/\0<=l/\l<=1099511627776
  ·exact⟨hv,hc⟩
  rw[Zau hc]at h;cases h
 rw[Zau hv]at h;cases h
end Go.Sh
