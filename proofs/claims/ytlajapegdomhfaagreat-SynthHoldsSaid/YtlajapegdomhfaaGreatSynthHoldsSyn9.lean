/-Part of the proof. -/
import Derived.Test.YtlajapegdomhfaaGreatSynthHoldsPlm2
set_option linter.all false
namespace Go.Sh
open Go Go.Eng
section
variable {N:Nat} {t:Zan} {u:Zar} {s:Zal}
def g00:Zas:=⟨[],0⟩
def atP (y:List Zas)(w:Tw):Zas:=y.getD w.h.Port.toNat g00
open Classical in
noncomputable def ZuX (t:Zan) (u:Zar) (l:List Zal) (o:List Int) (y:List Zas):Bool×Int:=
 if(ofS t u l).2=0 then(if Zgq (ofS t u l).1 o=true then(if(y.all λg=>decide (VG g))=true then(if y.length=2*t.Links.length then(if(y.all λg=>decide (g.Cycle=(lcmL (ofS t u l).1.Periods:Int)*u.Grid))=true then
  (decide (∀w∈(Zcj t u l o).2,allW u (atP y w).Entries w),0)else(false,0))else(false,0))else(false,370))else(false,2))else(false,(ofS t u l).2)
theorem ZZr (hu:Zfr u){w:Tw}(ok:TwOK t u w){y:List Zas}{C:Nat}(hC:0<C)(hC2:C<=960)(hl:y.length=2*t.Links.length)(hg:VG (atP y w))(hc:(atP y w).Cycle=(C:Int)*u.Grid){q:Int}(hq:0<q)(hcq:(C:Int)*u.Grid=q*(w.s.Period*u.Grid))(hN:30000000<=N):
  ∃b,ZcA N u y ((C:Int),0) (synW u w)=some ((),b)/\((b=0/\allW u (atP y w).Entries w)∨(b=1/\¬allW u (atP y w).Entries w)):=by
 obtain⟨⟨a1,a2⟩,⟨b1,b2⟩,_,_⟩:=ok.num hu;obtain⟨_,_,o1,o2,l1,l2,_⟩:=ok.h;have g1:=hu.g1;have g2:=hu.g2;have x2:=ok.x2;have x1:=ok.x1;have p2:=ok.s.per2;have xg:w.x*u.Grid<=2400000:=by
  calc w.x*u.Grid<=240*10000:=Int.mul_le_mul (by omega) g2 (by omega) (by omega)
   _=_:=by decide
 have cg:(C:Int)*u.Grid<=9600000:=by
  calc (C:Int)*u.Grid<=960*10000:=Int.mul_le_mul (by omega) g2 (by omega) (by omega)
   _=_:=by decide
 have cg0:0<=(C:Int)*u.Grid:=Int.mul_nonneg (by omega) (by omega);have hpg:=Zyz hu ok;have hport:=ok.port;simp only[Zcn,Ze,Zag]at hport;have hat:idx y w.h.Port=some (atP y w):=ZbE g00 (by omega) (by omega);obtain⟨D,eD⟩:∃D,D=w.s.Period*u.Grid:=⟨_,rfl⟩;obtain⟨B,eB⟩:∃B,B=w.h.Open+w.x*u.Grid:=⟨_,rfl⟩;obtain⟨X,eX⟩:∃X,X=(C:Int)*u.Grid:=⟨_,rfl⟩;have key:=ZtM (u:=u) hg.ok hg.1 (w:=w) hq (by rw[hg.2.2.2.1,hc,hcq]) (b:=B) (z0:=0) (by rw[Int.zero_mul,Int.add_zero];exact eB);rw[←eD]at hcq b1 b2 hpg key;rw[←eX]at hcq hc cg cg0;unfold ZcA synW;simp only;rw[←eD,←eB];obtain⟨r,hr,e⟩:=ZbD (body:=λx:Int=>ZdI N u y ((C:Int),0) ⟨w.h.Port,B,w.h.Long,D⟩ x) (λx=>∃m:Nat,x=B+m*D/\x<=B+13000000/\∀j:Nat,j<m->okG (atP y w).Entries (B+j*D) w.h.Long) (λx=>(B+13000000-x).toNat)
  (λr=>(r=.inl ()/\∀m:Nat,(m:Int)<q->okG (atP y w).Entries (B+m*D) w.h.Long)∨(r=.inr ()/\∃m:Nat,(m:Int)<q/\¬okG (atP y w).Entries (B+m*D) w.h.Long)) (λx hx=>by
   obtain⟨m,rfl,m1,m2⟩:=hx;have mD:0<=(m:Int)*D:=Int.mul_nonneg (by omega) (by omega);have eS:((m+1:Nat):Int)*D=m*D+D:=by rw[show((m+1:Nat):Int)=(m:Int)+1 by omega,Zl,Int.one_mul]
   simp only[ZdI];rw[←eX,ZaB (x:=X) (by omega) (by omega),ZaB (x:=B+X) (by omega) (by omega)];by_cases c:B+m*D<B+X
   ·have mq:(m:Int)<q:=by
     rcases Int.lt_or_le (m:Int) q with d|d
     ·exact d
     have:q*D<=m*D:=Int.mul_le_mul_of_nonneg_right d (by omega);omega
    obtain⟨b,hb,e⟩:=ZwD (N:=N) (by omega) hg (B:=B+m*D) (L:=w.h.Long) (by omega) (by omega) (by omega) (by omega);rw[Zaj (by simpa using c),hat,Z8,hb,Z8];cases b with
    |true=>
     left;refine⟨B+(m+1:Nat)*D,?_,⟨m+1,rfl,by rw[eS];omega,λj hj=>?_⟩,by rw[eS];omega⟩
     ·rw[Zai (by simp),eS,←Int.add_assoc,ZaB (by omega) (by omega)]
     by_cases d:j=m
     ·subst d;exact e.1 rfl
     exact m2 j (by omega)
    |false=>exact .inr ⟨.inr (),by rw[Zaj (by simp)],.inr ⟨rfl,m,mq,λh=>by have:=e.2 h;cases this⟩⟩
   refine .inr ⟨.inl (),by rw[Zai (by simpa using c)],.inl ⟨rfl,λj hj=>m2 j ?_⟩⟩;rcases Nat.lt_or_ge j m with d|d
   ·exact d
   exfalso;have h1:(m:Int)+1<=q:=by omega
   have h2:((m:Int)+1)*D<=q*D:=Int.mul_le_mul_of_nonneg_right h1 (by omega);rw[Zl,Int.one_mul]at h2;omega) N B ⟨0,by simp,by omega,λj hj=>by omega⟩ (by omega)
 rw[hr,Z8];rcases e with⟨rfl,e⟩|⟨rfl,m,mq,e⟩
 ·exact⟨0,rfl,.inl ⟨rfl,key.2 e⟩⟩
 exact⟨1,rfl,.inr ⟨rfl,λh=>e (key.1 h m mq)⟩⟩
structure Zvg (t:Zan) (u:Zar) (l:List Zal) (o:List Int) (y:List Zas):Prop where
 topo:ZdW t=true
 set:Zdi u=true
 str:∀x∈l,Zbk t x=true
 l12:l.length<=12
 off:Zgq ⟨(accA t u l).P,(accA t u l).U⟩ o=true
 of:ofS t u l=(⟨(accA t u l).P,(accA t u l).U⟩,0)
 prob:Zjp ⟨(accA t u l).P,(accA t u l).U⟩=true
 len:y.length=2*t.Links.length
 vg:∀g∈y,VG g
 cyc:∀g∈y,g.Cycle=(lcmL (accA t u l).P:Int)*u.Grid
theorem Zvg.win {l:List Zal}{o:List Int}{y:List Zas}(h:Zvg t u l o y){w:Tw}(hw:w∈(Zcj t u l o).2):TwOK t u w/\VG (atP y w)/\(atP y w).Cycle=(lcmL (accA t u l).P:Int)*u.Grid/\∃q:Int,0<q/\(lcmL (accA t u l).P:Int)*u.Grid=q*(w.s.Period*u.Grid):=by
 have g:=Za9.1 h.topo;have hw':w∈(Zcj t u (l.take l.length) o).2:=by rw[Z3];exact hw
 have ok:=(Zmd g (ZbC h.set) h.str h.off l.length (Nat.le_refl _)).1 w hw';have hport:=ok.port;simp only[Zcn,Ze,Zag]at hport;have hlen:=h.len;have hm:atP y w∈y:=by
  unfold atP;rw[Zbv (by omega)];exact List.getElem_mem _
 refine⟨ok,h.vg _ hm,h.cyc _ hm,?_⟩;have hin:=Zua (t:=t) (u:=u) g (ZbC h.set) h.str (o:=o) l.length (Nat.le_refl _) w hw';have hd:=Int.natCast_dvd_natCast.2 (ZnZ.1 (Nat.dvd_refl (lcmL (accA t u l).P)) _ hin);have p1:=ok.s.per1;rw[Zq (by omega)]at hd;obtain⟨z,hz⟩:=hd;have hC0:=(VP.of h.prob).lpos;simp only at hC0;refine⟨z,?_,by rw[hz,Zm w.s.Period z,Int.mul_assoc]⟩;rcases Int.lt_or_le 0 z with c|c
 ·exact c
 have:w.s.Period*z<=w.s.Period*0:=Int.mul_le_mul_of_nonneg_left c (by omega);omega
open Classical in
theorem Zh7 (l:List Zal) (o:List Int) {y:List Zas} (hy:y.length<=1000) (hN:30000000<=N):Zcu N t u l o y=some (ZuX t u l o y):=by
 have hN2:2000<=N:=by omega
 unfold Zcu ZuX;rw[ZvC _ hN2,Z8];by_cases h0:(ofS t u l).2=0
 ·obtain⟨hT,hU,hA,he,hof⟩:=ZmG h0;obtain⟨h12,hl⟩:=Zma hA;have g:=Za9.1 hT;have hu:=ZbC hU;have hp:Zjp (ofS t u l).1=true:=by rw[hof];exact Zkq g (Zhz g hu hl) h12 he
  have hv:=VP.of hp;have hC:=hv.lcm;have hC0:=hv.lpos;have h24:=g.l24;have g1:=hu.g1;have g2:=hu.g2;have cg:(lcmL (ofS t u l).1.Periods:Int)*u.Grid<=9600000:=by
   calc (lcmL (ofS t u l).1.Periods:Int)*u.Grid<=960*10000:=Int.mul_le_mul (by omega) g2 (by omega) (by omega)
    _=_:=by decide
  have cg0:0<=(lcmL (ofS t u l).1.Periods:Int)*u.Grid:=Int.mul_nonneg (by omega) (by omega);rw[Zai (by simp[h0]),Zaj h0,Ztc hN2,Z8];unfold ZzW;rw[Zaj hp];cases ho:Zgq (ofS t u l).1 o with
  |false=>rfl
  |true=>
   rw[Zaj rfl,Zaj rfl];simp only[Zae,Zg,Zah];rw[Zdc (l:=y) (p:=λg=>decide (VG g)) (bad:=.inr (false,370)) (fin:=.inl ()) (λk hk=>by
    simp only[Zh9];rw[Zaj (by simpa using hk),Zbq hk,Z8,ZlJ (by omega),Z8,ZaE (by omega)];by_cases c:VG y[k]<;>simp[c]) (by simp[Zh9]) (by omega),Z8]
   by_cases c1:(y.all λg=>decide (VG g))=true
   ·rw[Zaj c1,Zaj c1];simp only;rw[ZrX hN2,Zaj hp,Z8];simp only[Zae,Zg,Zah];rw[ZaB (x:=2*((List.length t.Links:Nat):Int)) (by omega) (by omega)];by_cases c2:y.length=2*t.Links.length
    ·rw[Zai (by simp;omega),Zaj c2,Zdc (l:=y) (p:=λg=>decide (g.Cycle=(lcmL (ofS t u l).1.Periods:Int)*u.Grid)) (bad:=.inr (false,0)) (fin:=.inl ()) (λk hk=>by
      simp only[Zh8];rw[Zaj (by simpa using hk),Zbq hk,Z8,ZaB (by omega) (by omega),ZaE (by omega)];by_cases c:y[k].Cycle=(lcmL (ofS t u l).1.Periods:Int)*u.Grid<;>simp[c]) (by simp[Zh8]) (by omega),Z8]
     by_cases c3:(y.all λg=>decide (g.Cycle=(lcmL (ofS t u l).1.Periods:Int)*u.Grid))=true
     ·rw[Zaj c3,Zaj c3];simp only;have hk:Zvg t u l o y:=⟨hT,hU,hl,h12,by rw[hof]at ho;exact ho,hof,by rw[hof]at hp;exact hp,c2,λg hg=>of_decide_eq_true (List.all_eq_true.1 c1 g hg),λg hg=>by have:=of_decide_eq_true (List.all_eq_true.1 c3 g hg);rw[hof]at this;exact this⟩;unfold Zfa;rw[Z8];have eC:lcmL (ofS t u l).1.Periods=lcmL (accA t u l).P:=by rw[hof]
      rw[eC]at hC hC0⊢;obtain⟨r,hr,e⟩:=ZsG (N:=N) (t:=t) (u:=u) (y:=λ(s:(Unit)×Nat) (x1058:ZaX)=>Zft (λv:Unit=>ZcA N u y ((lcmL (accA t u l).P:Int),0) x1058) s) (q:=λw=>allW u (atP y w).Entries w) (s0:=((),0)) (s1:=((),1)) hT hU hl h12 hk.off (λw hw=>by
       obtain⟨ok,w1,w2,q,q0,q1⟩:=hk.win hw;obtain⟨b,hb,e⟩:=ZZr (N:=N) hu ok hC0 hC c2 w1 w2 q0 q1 hN;unfold Zyq Zft;simp only[Zak];rw[hb];rcases e with⟨rfl,e⟩|⟨rfl,e⟩
       ·exact .inl ⟨e,rfl⟩
       exact .inr ⟨e,rfl⟩) hN2
      rw[hr,Z8];rcases e with⟨rfl,e⟩|⟨rfl,w,hw,e⟩
      ·rw[Zaf e];rfl
      rw[decide_eq_false λh=>e (h w hw)];rfl
     rw[Zai c3,Zai c3]
    rw[Zaj (by simp;omega),Zai c2]
   rw[Zai c1,Zai c1]
 rw[Zaj (by simpa using h0),Zai h0]
open Classical in
theorem Zic (l:List Zal) (o:List Int) {y:List Zas} (hy:y.length<=1000) (hN:30000000<=N):Zdr N t u l o y=some (ZuX t u l o y):=by
 have hN2:2000<=N:=by omega
 unfold Zdr ZuX;rw[ZlU _ hN,Z8];by_cases h0:(ofS t u l).2=0
 ·obtain⟨hT,hU,hA,he,hof⟩:=ZmG h0;obtain⟨h12,hl⟩:=Zma hA;have g:=Za9.1 hT;have hu:=ZbC hU;have hp:Zjp (ofS t u l).1=true:=by rw[hof];exact Zkq g (Zhz g hu hl) h12 he
  have hv:=VP.of hp;have hC:=hv.lcm;have hC0:=hv.lpos;have h24:=g.l24;have g1:=hu.g1;have g2:=hu.g2;have cg:(lcmL (ofS t u l).1.Periods:Int)*u.Grid<=9600000:=by
   calc (lcmL (ofS t u l).1.Periods:Int)*u.Grid<=960*10000:=Int.mul_le_mul (by omega) g2 (by omega) (by omega)
    _=_:=by decide
  have cg0:0<=(lcmL (ofS t u l).1.Periods:Int)*u.Grid:=Int.mul_nonneg (by omega) (by omega);rw[Zai (by simp[h0]),Zaj h0,Zol hN2 hv,Z8];cases ho:Zgq (ofS t u l).1 o with
  |false=>rfl
  |true=>
   rw[Zai (by simp),Zaj rfl];rw[Zdc (l:=y) (p:=λg=>decide (VG g)) (bad:=.inr (false,370)) (fin:=.inl ()) (λk hk=>by
    simp only[Zif];rw[Zaj (by simpa using hk),Zbq hk,Z8,Zqv (by omega),Z8,ZaE (by omega)];by_cases c:VG y[k]<;>simp[c]) (by simp[Zif]) (by omega),Z8]
   by_cases c1:(y.all λg=>decide (VG g))=true
   ·rw[Zaj c1,Zaj c1];simp only;rw[ZaB (x:=2*((List.length t.Links:Nat):Int)) (by omega) (by omega)];by_cases c2:y.length=2*t.Links.length
    ·rw[Zai (by simp;omega),Zaj c2,Zdc (l:=y) (p:=λg=>decide (g.Cycle=(lcmL (ofS t u l).1.Periods:Int)*u.Grid)) (bad:=.inr (false,0)) (fin:=.inl ()) (λk hk=>by
      simp only[Zie];rw[Zaj (by simpa using hk),Zbq hk,Z8,ZhW hN2 hv.len (Zkp.1 hp).2.2.1,Zaj hv.lcm,Z8,ZaB (by omega) (by omega),ZaE (by omega)];by_cases c:y[k].Cycle=(lcmL (ofS t u l).1.Periods:Int)*u.Grid<;>simp[c]) (by simp[Zie]) (by omega),Z8]
     by_cases c3:(y.all λg=>decide (g.Cycle=(lcmL (ofS t u l).1.Periods:Int)*u.Grid))=true
     ·rw[Zaj c3,Zaj c3];simp only;have hk:Zvg t u l o y:=⟨hT,hU,hl,h12,by rw[hof]at ho;exact ho,hof,by rw[hof]at hp;exact hp,c2,λg hg=>of_decide_eq_true (List.all_eq_true.1 c1 g hg),λg hg=>by have:=of_decide_eq_true (List.all_eq_true.1 c3 g hg);rw[hof]at this;exact this⟩;rw[ZjP hT hU hl h12 hk.off hN,Z8];have tok:=Zmd (t:=t) (u:=u) g hu hl hk.off l.length (Nat.le_refl _);rw[Z3]at tok;rw[Zdc (l:=(Zcj t u l o).2) (p:=λw=>decide (allW u (atP y w).Entries w)) (bad:=.inr (false,0)) (fin:=.inl ()) (λk hkk=>by
       have hw:=List.getElem_mem hkk;obtain⟨ok,w1,w2,q,q0,q1⟩:=hk.win hw;obtain⟨b,hb,e⟩:=ZrJ (N:=N) hu ok w1 q0 (by rw[w2,q1]) hN;have hport:=ok.port;simp only[Zcn,Ze,Zag]at hport;have hat:idx y (refW u (Zcj t u l o).2[k]).Port=some (atP y (Zcj t u l o).2[k]):=ZbE g00 (by show 0<=(Zcj t u l o).2[k].h.Port;omega) (by show(Zcj t u l o).2[k].h.Port<_;omega);simp only[Zid];rw[Zaj (by simpa using hkk),Zbq (by simpa using hkk),Z8,List.getElem_map,hat,Z8,Z8,hb,Z8,ZaE (by omega)];cases b with
       |true=>rw[Zai (by simp),Zaj (by simpa using e.1 rfl)]
       |false=>rw[Zaj (by simp),Zai (by rw[Zag];exact λh=>by have:=e.2 h;cases this)]) (by simp[Zid]) (by omega),Z8]
      by_cases c4:∀w∈(Zcj t u l o).2,allW u (atP y w).Entries w
      ·rw[Zaj (List.all_eq_true.2 λw hw=>Zaf (c4 w hw)),Zaf c4]
      rw[Zai (λh=>c4 λw hw=>of_decide_eq_true (List.all_eq_true.1 h w hw)),decide_eq_false c4]
     rw[Zai c3,Zai c3]
    rw[Zaj (by simp;omega),Zai c2]
   rw[Zai c1,Zai c1]
 rw[Zaj (by simpa using h0),Zai h0]
end
end Go.Sh

namespace Go.Sh
open Go Go.Eng
section
variable {N:Nat} {t:Zan} {u:Zar} {s:Zal}
theorem Zy9 {l:List Zal}(h:(ofS t u l).2≠0):(ofS t u l).1=ZpJ:=by
 unfold ofS at h⊢;split
 ·split
  ·split
   ·split
    ·rename_i a b c d;rw[Zaj a,Zaj b,Zaj c,Zaj d]at h;exact absurd rfl h
    rfl
   rfl
  rfl
 rfl
theorem Zyg {odd:List Zas}(hN:2000<=N):∃r,ZaI (λx:Int×(List Zas)=>Zdx N odd x.1 x.2) N (0,[])=some r/\r.length<=50:=
 ZbD (body:=λx:Int×(List Zas)=>Zdx N odd x.1 x.2) (λx=>∃k:Nat,x.1=k/\k<=50/\x.2.length<=k) (λx=>(51-x.1).toNat) (λr=>r.length<=50) (λx hx=>by
  obtain⟨i,m⟩:=x;obtain⟨k,k1,k2,k3⟩:=hx;simp only at k1 k3;subst k1;simp only[Zdx];by_cases c:k<odd.length/\k<50
  ·left;rw[Zaj (by simp;omega),Zbq c.1,Z8,Z8];have hsub:∃z,subI odd[k].Entries 0 (if 130<((List.length odd[k].Entries:Nat):Int)then 130 else((List.length odd[k].Entries:Nat):Int))=some z:=by
    unfold subI;rw[Zaj (by split<;>omega)];exact⟨_,rfl⟩
   obtain⟨z,hz⟩:=hsub;rw[hz,Z8,Z8,Zct (by simp;omega) (by omega),Z8,ZaE (by omega)];exact⟨_,rfl,⟨k+1,rfl,by omega,by simp;omega⟩,by simp only;omega⟩
  right;rw[Zai (by simp;omega)];exact⟨_,rfl,by omega⟩) N (0,[]) ⟨0,rfl,by omega,by simp⟩ (by simp only;omega)
theorem Zxg {g:List Zas}(hg:g.length<=100)(he:∀x∈g,1<=x.Entries.length/\x.Entries.length<=1000){a b:Int}(ha:Byte a)(hb:Byte b)(x:Zaw):
  ∃r,(if(decide (((List.length g:Nat):Int)>0))=true then((remI (w64 a) ((List.length g:Nat):Int)).bind λm1017=>((idx g m1017).bind λe1018=>((appI 16 [] e1018.Entries).bind λl1023=>((remI (w64 b) ((List.length l1023:Nat):Int)).bind λm1025=>((idx l1023 m1025).bind λe1026=>((idx g m1017).bind λe1031=>(some (List.set g (Int.toNat m1017) (Zas.mk (List.set l1023 (Int.toNat m1025) x) e1031.Cycle)))))))))else(some g))=some r/\r.length<=100:=by
 obtain⟨a0,a1⟩:=ha;obtain⟨b0,b1⟩:=hb;by_cases c:0<g.length
 ·rw[Zaj (by simpa using c),ZaB (by omega) (by omega)];obtain⟨m,hm,m0,m1⟩:=ZeD a0 (show(0:Int)<((List.length g:Nat):Int)by omega);obtain⟨k,rfl⟩:∃k:Nat,m=k:=⟨m.toNat,by omega⟩;have hk:k<g.length:=by omega
  obtain⟨h1,h2⟩:=he _ (List.getElem_mem hk);rw[hm,Z8,Zbq hk,Z8,Zct (by simp;omega) (by omega),Z8,ZY,ZaB (by omega) (by omega)];obtain⟨j,hj,j0,j1⟩:=ZeD b0 (show(0:Int)<((List.length g[k].Entries:Nat):Int)by omega);rw[hj,Z8,ZbE e00 j0 j1,Z8,Z8];exact⟨_,rfl,by simp;omega⟩
 rw[Zai (by simpa using c)];exact⟨_,rfl,hg⟩
theorem ZzL:Zjp ZpJ=true:=by decide
theorem synthHolds_true (c:Zfz)(other:List Int)(at_:Zqf)(x:Zaw)(odd:List Zas)(hc:ZjK c)(ho:other.length<=maxLen/\∀x∈other,InK .u8 x)(hat:Zrs at_)(_:ZkJ x)(_:odd.length<=maxLen/\∀x∈odd,Zn6 x):∃N,Zgs N c other at_ x odd=some true:=by
 refine⟨30000000+c.L.length,?_⟩;obtain⟨N,eN⟩:∃N,N=30000000+c.L.length:=⟨_,rfl⟩;rw[←eN];obtain⟨t,u,l,o,hm,hoff⟩:=ZwU (N:=N) hc (by omega);have hN:30000000<=N:=by omega
 have hN2:2000<=N:=by omega
 have hg:∃g,(if((ofS t u l).2==0)=true then((Zf8 N (ofS t u l).1.Periods).bind λr506=>((Zkf N t u l o r506).bind λr507=>(some r507)))else(some []))=some g/\g.length<=100/\∀x∈g,1<=x.Entries.length/\x.Entries.length<=1000:=by
  by_cases h0:(ofS t u l).2=0
  ·obtain⟨hT,hU,hA,he,hof⟩:=ZmG h0;obtain⟨h12,hl⟩:=Zma hA;have g:=Za9.1 hT;have hu:=ZbC hU;have hp:Zjp (ofS t u l).1=true:=by rw[hof];exact Zkq g (Zhz g hu hl) h12 he
   have hv:=VP.of hp;have h24:=g.l24;have ho':=hoff h0;rw[Zaj (by simpa using h0),ZhW hN2 hv.len (Zkp.1 hp).2.2.1,Zaj hv.lcm,Z8,ZsY hT hU hl h12 (by rw[hof]at ho';exact ho') hv.lcm hN,Z8];refine⟨_,rfl,by simp[ZyD];omega,λx hx=>?_⟩;obtain⟨p,_,rfl⟩:=List.mem_map.1 hx;have h1:=List.length_pos_iff.2 ((ZsN hu.g1 (Zvq u (Zcj t u l o).2 p) (lcmL (ofS t u l).1.Periods)).ne hv.lpos);have h2:=ZuH u.Grid ((List.range (lcmL (ofS t u l).1.Periods)).map (Zvq u (Zcj t u l o).2 p)) [];rw[ZO,ZQ,ZP]at h2;have:=hv.lcm;exact⟨h1,Nat.le_trans h2 (by omega)⟩
  rw[Zai (by simpa using h0)];exact⟨[],rfl,by simp,by simp⟩
 have hs:∃q,Zfu N (ofS t u l).1 other=some q:=by
  have hv:VP (ofS t u l).1:=by
   by_cases h0:(ofS t u l).2=0
   ·obtain⟨hT,hU,hA,he,hof⟩:=ZmG h0;obtain⟨h12,hl⟩:=Zma hA;have g:=Za9.1 hT;rw[hof];exact VP.of (Zkq g (Zhz g (ZbC hU) hl) h12 he)
   rw[Zy9 h0];exact VP.of ZzL
  obtain⟨q,hq,_⟩:=Zmn hN2 hv ho.2;exact⟨q,hq⟩
 obtain⟨g,hg1,hg2,hg3⟩:=hg;obtain⟨q,hq⟩:=hs;obtain⟨b,hb1,hb2⟩:=Zxg hg2 hg3 (Zew hat.1) (Zew hat.2) x;obtain⟨f,hf1,hf2⟩:=Zyg (N:=N) (odd:=odd) hN2;unfold Zgs;rw[hm,Z8];simp only;rw[ZlU _ hN,Z8,hg1,Z8,Zct (by simp;omega) (by omega),Z8,ZY,hb1,Z8,hf1,Z8,hq,Z8];simp only[Zh7 _ _ (show g.length<=1000 by omega) hN,Zic _ _ (show g.length<=1000 by omega) hN,Zh7 _ _ (show b.length<=1000 by omega) hN,Zic _ _ (show b.length<=1000 by omega) hN,Zh7 _ _ (show f.length<=1000 by omega) hN,Zic _ _ (show f.length<=1000 by omega) hN,Z8,Zae,Bool.or_false,Zg,Zah,ZyJ hN2]
end
end Go.Sh

