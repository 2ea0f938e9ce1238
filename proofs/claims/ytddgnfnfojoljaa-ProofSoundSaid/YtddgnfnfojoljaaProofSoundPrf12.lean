/- Part of the proof. -/
import Derived.Test.YtddgnfnfojoljaaProofSoundBase
import Derived.Test.YtddgnfnfojoljaaProofSoundRd
import Derived.KernelRfl
set_option linter.all false
namespace Go.Sh
open Go Go.Eng
def ZfQ (q:Nat->Bool):Nat->Option Nat
 | 0=>none
 | n+1=>match ZfQ q n with
  | some j=>some j
  | none=>if q n=true then some n else none
theorem Zf5 {q:Nat->Bool}:∀ {n:Nat},ZfQ q n=none↔∀ k,k<n->q k=false
 | 0=>by simp [ZfQ]
 | n+1=>by
  have ih:=Zf5 (q:=q) (n:=n)
  simp only [ZfQ]
  cases h:ZfQ q n with
  | some j =>
   simp only [reduceCtorEq,false_iff]
   intro h2
   rw [ih.2 λk hk=>h2 k (by omega)] at h
   cases h
  | none =>
   simp only
   have h3:=ih.1 h
   constructor
   ·intro h2 k hk
    by_cases e:k=n
    ·subst e
     cases hq:q k with
     | false=>rfl
     | true=>rw [hq,Z2 rfl] at h2;cases h2
    exact h3 k (by omega)
   intro h2
   rw [h2 n (by omega),Z1 (by simp)]
theorem Zf4 {q:Nat->Bool}{j:Nat}:∀ {n:Nat},ZfQ q n=some j↔j<n/\q j=true/\∀ k,k<j->q k=false
 | 0=>by simp [ZfQ]
 | n+1=>by
  have ih:=Zf4 (q:=q) (j:=j) (n:=n)
  simp only [ZfQ]
  cases h:ZfQ q n with
  | some j' =>
   simp only [ZW]
   rw [h] at ih
   simp only [ZW] at ih
   constructor
   ·intro e
    obtain ⟨a,b,c⟩:=ih.1 e
    exact ⟨by omega,b,c⟩
   rintro ⟨a,b,c⟩
   by_cases e:j=n
   ·subst e
    obtain ⟨a',b',_⟩:=Zf4.1 h
    rw [c j' a'] at b'
    cases b'
   exact ih.2 ⟨by omega,b,c⟩
  | none =>
   simp only
   have h3:=Zf5.1 h
   constructor
   ·intro h2
    split at h2
    ·rename_i hq
     cases h2
     exact ⟨by omega,hq,h3⟩
    cases h2
   rintro ⟨a,b,c⟩
   by_cases e:j=n
   ·subst e;rw [Z2 b]
   rw [h3 j (by omega)] at b;cases b
section
variable {N:Nat} {p:Z6}
def byS (p:Z6)(i:Nat)(x:Int)(all:List Int):Int:=match ZfQ (λj=>Zb6 p i x j (all.getD j 0)) (i+1) with
 | some j=>j
 | none => -1
theorem Zps (hN:2000<=N)(hp:VP p){i:Nat}(hi:i<1000){x:Int}(hx:0<=x)(hx2:x<=1000){all:List Int}(hl:all.length=i+1)(ha:∀ y∈all,0<=y/\y<=1000) :
  ZaW (λy:Int×Int=>Zcc N p i x all y.1 y.2) N (0,-1)=some (byS p i x all):=by
 obtain ⟨r,hr,e⟩:=Zb0 (body:=λy:Int×Int=>Zcc N p i x all y.1 y.2)
  (λy=>∃ k:Nat,y.1=k/\k<=i+1/\((y.2 = -1/\∀ m,m<k->Zb6 p i x m (all.getD m 0)=false)∨(∃ m:Nat,m<k/\y.2=m/\Zb6 p i x m (all.getD m 0)=true/\∀ m',m'<m->Zb6 p i x m' (all.getD m' 0)=false)))
  (λy=>((i:Int)+2-y.1).toNat) (λb=>b=byS p i x all) (λy hy=>by
   obtain ⟨j,b⟩:=y
   obtain ⟨k,rfl,k1,k2⟩:=hy
   simp only at k2 ⊢
   simp only [Zcc]
   rcases k2 with ⟨rfl,k3⟩|⟨m,m1,rfl,m2,m3⟩
   ·by_cases c:k<=i
    ·left
     rw [Z2 (by simp;omega),ZbM (by omega),ZU]
     obtain ⟨a0,a1⟩:=ha _ (List.getElem_mem (by omega:k<all.length))
     rw [ZfP hN hp hx hx2 a0 a1,ZU]
     have eg:all[k]'(by omega)=all.getD k 0:=(ZaZ (by omega) 0).symm
     rw [eg]
     cases hm:Zb6 p i x k (all.getD k 0) with
     | true=>exact ⟨_,by rw [Z2 rfl,ZU],⟨k+1,by simp only;rw [Za5 (by omega)],by omega,.inr ⟨k,by omega,rfl,hm,k3⟩⟩,by simp only;rw [Za5 (by omega)];omega⟩
     | false=>exact ⟨_,by rw [Z1 (by simp),ZU],⟨k+1,by simp only;rw [Za5 (by omega)],by omega,.inl ⟨rfl,λm hm'=>by
       by_cases e:m=k
       ·subst e;exact hm
       exact k3 m (by omega)⟩⟩,by simp only;rw [Za5 (by omega)];omega⟩
    right
    refine ⟨_,by rw [Z1 (by simp;omega)],?_⟩
    unfold byS
    rw [Zf5.2 λm hm=>k3 m (by omega)]
   right
   refine ⟨_,by rw [Z1 (by simp)],?_⟩
   unfold byS
   rw [Zf4.2 ⟨by omega,m2,m3⟩]) N (0,-1) ⟨0,rfl,by omega,.inl ⟨rfl,λm hm=>by omega⟩⟩ (by simp only;omega)
 rw [hr,e]
def c00:Z7:=⟨0,[]⟩
def a00:Zax:=⟨0,0,0,0⟩
def ZnC (l:List Zax)(b:Int):Bool:=decide (b ≠ -1)&&decide (l≠[])&&decide ((l.getD (l.length-1) a00).By=b)
def Zpq (l:List Zax)(t:Int):List Zax:=l.set (l.length-1) { l.getD (l.length-1) a00 with To:=t }
def bS (p:Z6)(given:List Int)(c x:Nat):Int:=if c=0/\0<x then -2 else byS p given.length x (given++[(x:Int)])
def Zkm (p:Z6)(given:List Int)(c:Nat)(R:List Z7->List Int->Option (List Z7))(x:Nat)(s:List Z7):Option (List Z7):=
 if ZnC (s.getD c c00).Arms (bS p given c x)=true then some (s.set c ⟨(s.getD c c00).Stream,Zpq (s.getD c c00).Arms ((x:Int)+1)⟩)
 else if bS p given c x = -1 then (R s (given++[(x:Int)])).map λr=>r.set c ⟨(r.getD c c00).Stream,(r.getD c c00).Arms++[⟨x,(x:Int)+1,-1,s.length⟩]⟩
 else some (s.set c ⟨(s.getD c c00).Stream,(s.getD c c00).Arms++[⟨x,(x:Int)+1,bS p given c x,0⟩]⟩)
def Zj8 (p:Z6):Nat->List Z7->List Int->Option (List Z7)
 | 0,_,_=>none
 | n+1,f,given=>if 2000<=f.length then none else upF (Zkm p given f.length (Zj8 p n)) (p.Periods.getD given.length 0).toNat (f++[⟨given.length,[]⟩])
def Zdd (s:List Z7):Prop:=∀ y∈s,y.Arms.length<=240
structure GI (f:List Z7) (i x:Nat) (s:List Z7):Prop where
 pre:f <+: s
 lt:f.length<s.length
 le:s.length<=2000
 st:(s.getD f.length c00).Stream=i
 ar:(s.getD f.length c00).Arms.length<=x
 sm:Zdd s
def RK (R:List Z7->List Int->Option (List Z7)):Prop:=∀ s g r,s.length<=2000->Zdd s->R s g=some r->s <+: r/\r.length<=2000/\Zdd r
theorem Zdd.set {s:List Z7}(h:Zdd s){c:Nat}{y:Z7}(hy:y.Arms.length<=240):Zdd (s.set c y):=λz hz=>by
 rcases List.mem_or_eq_of_mem_set hz with hz|rfl
 ·exact h z hz
 exact hy
theorem Zop {α:Type}{l m:List α}{i:Nat}(x:α)(h:l <+: m)(hi:l.length<=i):l <+: m.set i x:=by
 obtain ⟨t,rfl⟩:=h
 rw [ZR _ _ hi]
 exact ⟨_,rfl⟩
theorem ZjU {α:Type}{l m:List α}{i:Nat}(d:α)(h:l <+: m)(hi:i<l.length):m.getD i d=l.getD i d:=by
 obtain ⟨t,rfl⟩:=h
 simp [Zs,Zt hi]
theorem Zgp {α:Type}{l:List α}{i:Nat}(d x:α)(hi:i<l.length):(l.set i x).getD i d=x:=by
 simp [Zs,hi]
theorem ZnO (l:List Zax)(t:Int):(Zpq l t).length=l.length:=by simp [Zpq]
theorem GI.set {f:List Z7}{i x x':Nat}{s:List Z7}(h:GI f i x s){l:List Zax}(hl:l.length<=x')(hx:x'<=240):GI f i x' (s.set f.length ⟨(s.getD f.length c00).Stream,l⟩):=
 {pre:=Zop _ h.pre (Nat.le_refl _)
  lt:=by rw [ZI];exact h.lt
  le:=by rw [ZI];exact h.le
  st:=by rw [Zgp _ _ h.lt];exact h.st
  ar:=by rw [Zgp _ _ h.lt];exact hl
  sm:=h.sm.set (by simp only;omega) }
theorem GI.step {f:List Z7}{given:List Int}{R:List Z7->List Int->Option (List Z7)}(hR:RK R){i x:Nat}{s s':List Z7}(h:GI f i x s)(hx:x<240)(hs:Zkm p given f.length R x s=some s'):GI f i (x+1) s':=by
 unfold Zkm at hs
 split at hs
 ·cases hs
  exact h.set (by rw [ZnO];have:=h.ar;omega) (by omega)
 split at hs
 ·cases hr:R s (given++[(x:Int)]) with
  | none=>rw [hr] at hs;cases hs
  | some r =>
   rw [hr] at hs
   cases hs
   obtain ⟨h1,h2,h3⟩:=hR s _ r h.le h.sm hr
   have h4:GI f i x r :=
    {pre:=h.pre.trans h1
     lt:=Nat.lt_of_lt_of_le h.lt h1.length_le
     le:=h2
     st:=by rw [ZjU _ h1 h.lt];exact h.st
     ar:=by rw [ZjU _ h1 h.lt];exact h.ar
     sm:=h3 }
   exact h4.set (by have:=h4.ar;rw [ZE,ZJ];omega) (by omega)
 cases hs
 exact h.set (by have:=h.ar;rw [ZE,ZJ];omega) (by omega)
theorem GI.start {f:List Z7}(i:Nat)(hf:f.length<2000)(hs:Zdd f):GI f i 0 (f++[⟨i,[]⟩]):=
 {pre:=List.prefix_append _ _
  lt:=by simp
  le:=by simp;omega
  st:=by simp [Zs]
  ar:=by simp [Zs]
  sm:=λy hy=>by
   rcases List.mem_append.1 hy with hy|hy
   ·exact hs y hy
   simp only [ZP] at hy;subst hy;simp }
theorem GI.loop {f:List Z7}{given:List Int}{R:List Z7->List Int->Option (List Z7)}(hR:RK R){i:Nat}{s0:List Z7}(h0:GI f i 0 s0) :
  ∀ {n:Nat} {s:List Z7},n<=240->upF (Zkm p given f.length R) n s0=some s->GI f i n s
 | 0,s,_,h=>by simp only [upF,ZW] at h;subst h;exact h0
 | n+1,s,hn,h=>by
  simp only [upF] at h
  cases hu:upF (Zkm p given f.length R) n s0 with
  | none=>rw [hu] at h;cases h
  | some s1 =>
   rw [hu] at h
   exact (GI.loop hR h0 (by omega) hu).step hR (by omega) h
theorem Zhz (hp:VP p):∀ n,RK (Zj8 p n)
 | 0=>λs g r _ _ h=>by cases h
 | n+1=>λs g r h1 h2 h=>by
  simp only [Zj8] at h
  split at h
  ·cases h
  rename_i hc
  have hper:(p.Periods.getD g.length 0).toNat<=240:=by
   by_cases e:g.length<p.Periods.length
   ·rw [ZaZ e]
    have:=hp.per _ (List.getElem_mem e)
    omega
   rw [Zs,Zz (by omega)];simp
  have hG:=GI.loop (Zhz hp n) (GI.start g.length (by omega) h2) hper h
  exact ⟨hG.pre,hG.le,hG.sm⟩
def resS (o:Option (List Z7)):List Z7×Bool:=match o with
 | some r=>(r,true)
 | none=>([],false)
theorem Zk0 {l:List Zax}(hl:l.length<=1000)(b:Int):Zdh l b=some (ZnC l b):=by
 unfold Zdh ZnC
 by_cases hb:b = -1
 ·subst hb;rfl
 rw [Z2 (by simpa using hb),decide_eq_true hb,Zj]
 by_cases hn:l=[]
 ·subst hn;rfl
 have h0:0<l.length:=List.length_pos_iff.2 hn
 rw [Z2 (by simp;omega),decide_eq_true hn,Zj]
 have e:w64 (((List.length l:Nat):Int)-1)=((l.length-1:Nat):Int):=by rw [Zbu (by omega) (by omega)];omega
 rw [e,ZbM (by omega),ZU,ZaZ (by omega)]
 rfl
theorem ZnK (hp:VP p):∀ (n M:Nat) (f:List Z7) (given:List Int),2000<=M->given.length+n=p.Periods.length->(∀ y∈given,0<=y/\y<=1000)->f.length<=2000->Zdd f →
  Zdx (M+n+1) p f given=some (resS (Zj8 p n f given))
 | 0,M,f,given,hM,hg,ha,hf,hs=>by
  show Zcx _ _ p f given=_
  unfold Zcx
  rw [Z2 (by rw [show given.length=p.Periods.length by omega];simp)]
  rfl
 | n+1,M,f,given,hM,hg,ha,hf,hs=>by
  show Zcx (M+(n+1)) (Zdx (M+n+1)) p f given=_
  unfold Zcx
  simp only [Zj8]
  have hP:=hp.len
  by_cases hc:2000<=f.length
  ·rw [Z2 (by simp;omega),Z2 hc]
   rfl
  rw [Z1 (by simp;omega),Z1 hc]
  have hap:appI 32 f [(⟨((List.length given:Nat):Int),[]⟩:Z7)]=some (f++[⟨((List.length given:Nat):Int),[]⟩]):=ZbQ (by simp;omega) (by omega)
  rw [hap,ZU]
  have hin:given.length<p.Periods.length:=by omega
  have hpe:=hp.per _ (List.getElem_mem hin)
  have hpg:p.Periods.getD given.length 0=p.Periods[given.length]:=ZaZ hin 0
  have hup:=Zj6 (λk (s:List Z7)=>(k,s)) (·.1) (λ_ _=>rfl) (ρ:=List Z7⊕(List Z7×Bool)) (body:=λy:Int×List Z7=>Zcd (M+(n+1)) (Zdx (M+n+1)) p given ((List.length given:Nat):Int) ((List.length f:Nat):Int) y.1 y.2)
   (step:=Zkm p given f.length (Zj8 p n)) (n:=(p.Periods.getD given.length 0).toNat) (s0:=f++[⟨given.length,[]⟩]) (fin:=λs=>.inl s) (bad:=.inr ([],false)) (N:=M+(n+1)) (λk s hk hu=>by
    have hG:=GI.loop (Zhz hp n) (GI.start given.length (by omega) hs) (by omega) hu
    simp only [Zcd]
    rw [ZbM hin,ZU,Z2 (by simp;omega)]
    have ha1:appI 8 [] given=some ([]++given):=ZbQ (by simp;omega) (by omega)
    have ha2:appI 8 ([]++given) [(k:Int)]=some (given++[(k:Int)]):=by rw [ZQ];exact ZbQ (by simp;omega) (by omega)
    have hall:∀ y∈given++[(k:Int)],0<=y/\y<=1000:=λy hy=>by
     rcases List.mem_append.1 hy with hy|hy
     ·exact ha y hy
     simp only [ZP] at hy;omega
    rw [ha1,ZU,ha2,ZU,Zps (by omega) hp (by omega) (by omega) (by omega) (by simp) hall,ZU]
    have hb:(if (((List.length f:Nat):Int)==0&&decide ((k:Int)>0))=true then some (-2) else some (byS p given.length (k:Int) (given++[(k:Int)])))=some (bS p given f.length k):=by
     unfold bS
     by_cases e:f.length=0/\0<k
     ·rw [Z2 e,Z2 (by simp only [Ze,beq_iff_eq,ZZ];omega)]
     rw [Z1 e,Z1 (by simp only [Ze,beq_iff_eq,ZZ];omega)]
    rw [hb,ZU,ZbM hG.lt,ZU]
    have hsg:s[f.length]'hG.lt=s.getD f.length c00:=(ZaZ hG.lt _).symm
    have hal:=hG.ar
    rw [hsg,Zk0 (by omega),ZU]
    have hw1:w64 ((k:Int)+1)=(k:Int)+1:=Zbu (by omega) (by omega)
    have hk1:((k+1:Nat):Int)=(k:Int)+1:=by omega
    unfold Zkm
    cases hlb:ZnC (s.getD f.length c00).Arms (bS p given f.length k) with
    | true =>
     rw [Z2 rfl,Z2 rfl]
     have hne:(s.getD f.length c00).Arms≠[]:=by
      unfold ZnC at hlb
      simp only [Ze,ZZ] at hlb
      exact hlb.1.2
     have h0:0<(s.getD f.length c00).Arms.length:=List.length_pos_iff.2 hne
     have e:w64 (((List.length (s.getD f.length c00).Arms:Nat):Int)-1)=(((s.getD f.length c00).Arms.length-1:Nat):Int):=by rw [Zbu (by omega) (by omega)];omega
     rw [e,Zgo a00 (by omega) (by omega),ZU,hw1]
     simp only [Zl,hk1]
     rfl
    | false =>
     simp only [Zg,Z0]
     by_cases hb1:bS p given f.length k = -1
     ·rw [Z2 (by simpa using hb1),Z2 hb1,ZnK hp n M s (given++[(k:Int)]) hM (by simp;omega) hall hG.le hG.sm,ZU]
      cases hr:Zj8 p n s (given++[(k:Int)]) with
      | none=>rfl
      | some r =>
       obtain ⟨g1,g2,g3⟩:=Zhz hp n s _ r hG.le hG.sm hr
       have hlr:f.length<r.length:=Nat.lt_of_lt_of_le hG.lt g1.length_le
       simp only [resS,Bool.not_true,Zg,Z0,ZU,ZV]
       rw [ZbM hlr,ZU,← ZaZ hlr c00,ZjU c00 g1 hG.lt]
       have ha3:∀ a:Zax,appI 32 (s.getD f.length c00).Arms [a]=some ((s.getD f.length c00).Arms++[a]):=λa=>ZbQ (by rw [ZJ];omega) (by omega)
       rw [ha3,ZU,hb1,hw1]
       simp only [Zl,hk1]
     rw [Z1 (by simpa using hb1),Z1 hb1,ZU]
     simp only
     rw [ZbM hG.lt,ZU,hsg]
     have ha3:∀ a:Zax,appI 32 (s.getD f.length c00).Arms [a]=some ((s.getD f.length c00).Arms++[a]):=λa=>ZbQ (by rw [ZJ];omega) (by omega)
     rw [ha3,ZU,hw1]
     simp only [Zl,hk1]) (λs hu=>by
    simp only [Zcd]
    rw [ZbM hin,ZU,Z1 (by rw [ZZ];omega)]) (by omega)
  rw [hup,ZU]
  cases upF (Zkm p given f.length (Zj8 p n)) (p.Periods.getD given.length 0).toNat (f++[⟨given.length,[]⟩])<;>rfl
end
end Go.Sh

namespace Go.Sh
open Go Go.Eng
section
variable {N:Nat} {p:Z6}
def ZlF (p:Z6):Option (List Z7):=if p.Periods.length=0 then none else Zj8 p p.Periods.length [] []
theorem ZjQ (hN:3000<=N)(hp:VP p):Zex N p=some (resS (ZlF p)):=by
 unfold Zex ZlF
 by_cases h:p.Periods.length=0
 ·rw [Z2 (by simpa using h),Z2 h];rfl
 have hP:=hp.len
 rw [Z1 (by simpa using h),Z1 h]
 have:=ZnK hp p.Periods.length (N-p.Periods.length-1) [] [] (by omega) (by simp) (by simp) (by simp) (by intro y hy;cases hy)
 rw [show N-p.Periods.length-1+p.Periods.length+1=N by omega] at this
 rw [this]
 rfl
theorem ZlE (hp:VP p){r:List Z7}(h:ZlF p=some r):r.length<=2000/\Zdd r:=by
 unfold ZlF at h
 split at h
 ·cases h
 obtain ⟨_,h1,h2⟩:=Zhz hp p.Periods.length [] [] r (by simp) (by intro y hy;cases hy) h
 exact ⟨h1,h2⟩
theorem ZrE (hN:2000<=N)(a:List Z7):∃ l,Zec N a=some l/\l.length<=40/\Zdd l:=by
 unfold Zec
 obtain ⟨r,hr,e⟩:=Zb0 (body:=λx:Int×(List Z7)=>Zc6 N a x.1 x.2) (λx=>∃ k:Nat,x.1=k/\k<=40/\x.2.length=k/\Zdd x.2) (λx=>(41-x.1).toNat) (λl=>l.length<=40/\Zdd l) (λx hx=>by
  obtain ⟨i,l⟩:=x
  obtain ⟨k,rfl,k1,k2,k3⟩:=hx
  simp only at k2 k3 ⊢
  simp only [Zc6]
  by_cases c:k<a.length/\k<40
  ·left
   rw [Z2 (by simp only [Ze,ZZ];omega),ZbM c.1]
   simp only [ZU]
   obtain ⟨m,hm,hm2,hm3⟩:∃ m:Nat,(if 30<((List.length a[k].Arms:Nat):Int) then (30:Int) else ((List.length a[k].Arms:Nat):Int))=m/\m<=30/\m<=a[k].Arms.length:=by
    by_cases h:30<((List.length a[k].Arms:Nat):Int)
    ·exact ⟨30,by rw [Z2 h];rfl,by omega,by omega⟩
    exact ⟨a[k].Arms.length,by rw [Z1 h],by omega,by omega⟩
   have e1:subI a[k].Arms 0 (m:Int)=some (a[k].Arms.take m):=by
    unfold subI
    rw [Z2 (by omega)]
    simp
   have e2:∀ y:Z7,appI 32 l [y]=some (l++[y]):=λy=>ZbQ (by rw [ZJ];omega) (by omega)
   rw [hm,e1,ZU,e2,ZU,Za5 (by omega)]
   refine ⟨_,rfl,⟨k+1,rfl,by omega,by simp;omega,λy hy=>?_⟩,by simp only;omega⟩
   rcases List.mem_append.1 hy with hy|hy
   ·exact k3 y hy
   simp only [ZP] at hy
   subst hy
   simp only [ZK]
   omega
  right
  exact ⟨_,by rw [Z1 (by simp only [Ze,ZZ];omega)],by omega,k3⟩) N (0,[]) ⟨0,rfl,by omega,rfl,by intro y hy;cases hy⟩ (by simp only;omega)
 exact ⟨r,by rw [hr];rfl,e⟩
def ZeF (b:ZaU)(f:List Z7):Nat:=(b.Choice%(f.length:Int)).toNat
def Zpt (b:ZaU)(fc:Z7):Nat:=(b.Arm%(fc.Arms.length:Int)).toNat
def ZoI (b:ZaU)(k m:Nat)(l:List Zax):List Zax :=
 if m=1 then l.set k { l.getD k a00 with From:=b.N_ }
 else if m=2 then l.set k { l.getD k a00 with To:=b.N_ }
 else if m=3 then l.set k { l.getD k a00 with By:=b.N_ }
 else if m=4 then l.set k { l.getD k a00 with Next:=b.N_ }
 else if m=5 then l.take k++l.drop (k+1)
 else if k+1<l.length then (l.set k { l.getD k a00 with To:=b.N_ }).set (k+1) { (l.set k { l.getD k a00 with To:=b.N_ }).getD (k+1) a00 with From:=b.N_ } else l
def ZnW (b:ZaU)(f:List Z7):List Z7 :=
 if f=[] then f
 else if (b.What%8).toNat=0∨(f.getD (ZeF b f) c00).Arms=[] then f.set (ZeF b f) ⟨b.N_,(f.getD (ZeF b f) c00).Arms⟩
 else if (b.What%8).toNat=7 then f++[f.getD (ZeF b f) c00]
 else f.set (ZeF b f) ⟨(f.getD (ZeF b f) c00).Stream,ZoI b (Zpt b (f.getD (ZeF b f) c00)) (b.What%8).toNat (f.getD (ZeF b f) c00).Arms⟩
theorem ZnX (b:ZaU)(k m:Nat)(l:List Zax):(ZoI b k m l).length<=l.length:=by
 unfold ZoI
 repeat' split
 all_goals first|(simp;done)|(simp;omega)|omega
theorem ZiD {b:ZaU}{f:List Z7}(h:Zdd f):(ZnW b f).length<=f.length+1/\Zdd (ZnW b f):=by
 have hg:∀ c,(f.getD c c00).Arms.length<=240:=λc=>by
  by_cases e:c<f.length
  ·rw [ZaZ e];exact h _ (List.getElem_mem e)
  rw [Zs,Zz (by omega)];simp [c00]
 unfold ZnW
 split
 ·exact ⟨by omega,h⟩
 split
 ·exact ⟨by simp,h.set (hg _)⟩
 split
 ·refine ⟨by simp,λy hy=>?_⟩
  rcases List.mem_append.1 hy with hy|hy
  ·exact h y hy
  simp only [ZP] at hy
  subst hy
  exact hg _
 exact ⟨by simp,h.set (Nat.le_trans (ZnX _ _ _ _) (hg _))⟩
theorem Zpg (f:List Z7)(hf:f.length<=10000)(hs:Zdd f)(hN:20000<=N):ZaW (λx:Int×List Z7=>ZbA f x.1 x.2) N (0,[])=some f:=by
 obtain ⟨r,hr,e⟩:=Zb0 (body:=λx:Int×List Z7=>ZbA f x.1 x.2) (λx=>∃ k:Nat,x.1=k/\k<=f.length/\x.2=f.take k) (λx=>(f.length+1-x.1).toNat) (λl=>l=f) (λx hx=>by
  obtain ⟨i,l⟩:=x
  obtain ⟨k,rfl,k1,k2⟩:=hx
  simp only at k2 ⊢
  subst k2
  simp only [ZbA]
  by_cases c:k<f.length
  ·left
   have h1:=hs _ (List.getElem_mem c)
   have e1:appI 32 [] f[k].Arms=some ([]++f[k].Arms):=ZbQ (by simp;omega) (by omega)
   have e2:∀ y:Z7,appI 32 (f.take k) [y]=some (f.take k++[y]):=λy=>ZbQ (by simp;omega) (by omega)
   rw [Z2 (by simpa using c),ZbM c,ZU,e1,ZU,e2,ZU,Za5 (by omega)]
   refine ⟨_,rfl,⟨k+1,rfl,by omega,?_⟩,by simp only;omega⟩
   simp only [ZQ]
   rw [List.take_succ,Zy c]
   rfl
  right
  exact ⟨_,by rw [Z1 (by simpa using c)],by rw [List.take_of_length_le (by omega)]⟩) N (0,[]) ⟨0,rfl,by omega,by simp⟩ (by simp only;omega)
 rw [hr,e]
theorem u8 {x:Int}(h:InK .u8 x):0<=x/\x<=255:=h.u8
theorem ZjM {a:Int}{n:Nat}(h0:0<=a)(hn:0<n):remI a (n:Int)=some (((a%(n:Int)).toNat:Nat):Int)/\(a%(n:Int)).toNat<n:=by
 have h1:=Int.emod_nonneg a (show (n:Int)≠0 by omega)
 have h2:=Int.emod_lt_of_pos a (show (0:Int)<n by omega)
 refine ⟨?_,by omega⟩
 rw [ZbS (by omega),Zk h0]
 congr 1
 omega
theorem ZpC {b:ZaU}(hb:Zdr b){f:List Z7}(hf:f.length<=10000)(hs:Zdd f)(hN:20000<=N):Zcg N b f=some (ZnW b f):=by
 obtain ⟨b1,b2,b3,b4⟩:=hb
 have b1:=u8 b1
 have b2:=u8 b2
 have b3:=u8 b3
 unfold Zcg ZnW
 rw [Zpg f hf hs hN,ZU]
 by_cases h0:f=[]
 ·subst h0;rfl
 have hl:0<f.length:=List.length_pos_iff.2 h0
 rw [Z1 (by simpa using h0),Z1 h0,Zbu (by omega) (by omega)]
 obtain ⟨e1,e2⟩:=ZjM b1.1 hl
 have e3:ZeF b f=(b.Choice%(f.length:Int)).toNat:=rfl
 rw [← e3] at e1 e2
 rw [e1,ZU,ZbM e2,ZU]
 have eg:f[ZeF b f]=f.getD (ZeF b f) c00:=(ZaZ e2 _).symm
 rw [eg]
 have hfc:(f.getD (ZeF b f) c00).Arms.length<=240:=by rw [← eg];exact hs _ (List.getElem_mem e2)
 obtain ⟨m1,m2⟩:=ZjM (n:=8) b3.1 (by omega)
 have m3:remI b.What 8=some (((b.What%8).toNat:Nat):Int):=m1
 have m2:(b.What%8).toNat<8:=m2
 rw [m3,ZU]
 generalize (b.What%8).toNat=m at m2
 have hfc2:f.set (ZeF b f) ⟨(f.getD (ZeF b f) c00).Stream,(f.getD (ZeF b f) c00).Arms⟩=f:=by
  have:(⟨(f.getD (ZeF b f) c00).Stream,(f.getD (ZeF b f) c00).Arms⟩:Z7)=f[ZeF b f]:=eg.symm
  rw [this,List.set_getElem_self]
 generalize f.getD (ZeF b f) c00=fc at hfc hfc2
 generalize ZeF b f=c at e2 hfc2
 by_cases h1:m=0∨fc.Arms=[]
 ·rw [Z2 (by
   rcases h1 with h1|h1
   ·subst h1;rfl
   rw [h1];simp),Z2 h1]
  simp
 have h1a:¬ m=0:=λe=>h1 (.inl e)
 have h1b:fc.Arms≠[]:=λe=>h1 (.inr e)
 have hal:0<fc.Arms.length:=List.length_pos_iff.2 h1b
 rw [Z1 (by simp only [Zi,beq_iff_eq];omega),Z1 h1,Zbu (by omega) (by omega)]
 obtain ⟨k1,k2⟩:=ZjM b2.1 hal
 have k3:Zpt b fc=(b.Arm%(fc.Arms.length:Int)).toNat:=rfl
 rw [← k3] at k1 k2
 rw [k1,ZU]
 generalize Zpt b fc=k at k2
 have ei:idx fc.Arms (k:Int)=some (fc.Arms.getD k a00):=by rw [ZbM k2,ZaZ k2]
 have ew:w64 ((k:Int)+1)=((k+1:Nat):Int):=Za5 (by omega)
 have ea:appI 32 (fc.Arms.take k) (fc.Arms.drop (k+1))=some (fc.Arms.take k++fc.Arms.drop (k+1)):=ZbQ (by simp;omega) (by omega)
 have ef:∀ y:Z7,appI 32 f [y]=some (f++[y]):=λy=>ZbQ (by simp;omega) (by omega)
 unfold ZdT ZoI
 rcases m with _|_|_|_|_|_|_|_|m
 ·omega
 ·simp [ei]
 ·simp [ei]
 ·simp [ei]
 ·simp [ei]
 ·simp [ei,ea,ew]
 ·by_cases hk:k+1<fc.Arms.length
  ·have ei2:∀ y,idx (fc.Arms.set k y) ((k+1:Nat):Int)=some ((fc.Arms.set k y).getD (k+1) a00):=λy=>by
    rw [ZbM (by simpa using hk),ZaZ (by simpa using hk)]
   have hd:w64 ((k:Int)+1)<((List.length fc.Arms:Nat):Int):=by rw [ew];omega
   have hx:∀ n:Nat,n≠6∨n=6:=λn=>by omega
   rw [Z1 (by decide),Z1 (by decide),Z1 (by decide),Z1 (by decide),Z1 (by decide),Z2 (by decide),Z2 (by simpa using hd),ei,ZU,ew]
   simp only [Zl]
   rw [ei2,ZU]
   rw [Z1 (by decide),Z1 (by decide),Z1 (by decide),Z1 (by decide),Z1 (by decide),Z1 (by decide),Z2 hk]
  have hd:¬ w64 ((k:Int)+1)<((List.length fc.Arms:Nat):Int):=by rw [ew];omega
  rw [Z1 (by decide),Z1 (by decide),Z1 (by decide),Z1 (by decide),Z1 (by decide),Z2 (by decide),Z1 (by simpa using hd)]
  rw [Z1 (by decide),Z1 (by decide),Z1 (by decide),Z1 (by decide),Z1 (by decide),Z1 (by decide),Z1 hk]
  rw [hfc2]
 ·simp [ef]
 omega
end
end Go.Sh

namespace Go.Sh
open Go Go.Eng
set_option maxRecDepth 100000 in
theorem Zmv (n:Nat):Zeb (n+300)=some true:=by kernel_rfl
theorem Zo2 {N:Nat}(hN:2000<=N):Zeb N=some true:=by
 obtain ⟨n,rfl⟩:∃ n,N=n+300:=⟨N-300,by omega⟩
 exact Zmv n
def okP (f:List Z7):Prop:=f.length<=3000/\Zdd f
def Big (N:Nat):Prop:=30000<=N/\(240+1) ^ 13<N
theorem big:∃ N,Big N:=⟨30000+(240+1) ^ 13,by unfold Big;omega⟩
section
variable {N:Nat} {p:Z6}
theorem Zno (hN:Big N)(hp:VP p)(odd:List Z7){a b:ZaU}(ha:Zdr a)(hb:Zdr b) :
  ∃ q,ZdJ N p odd a b=some q/\okP q.x0/\okP q.x1/\okP q.x2/\okP q.x3:=by
 have hN:=hN.1
 obtain ⟨l,hl,l1,l2⟩:=ZrE (show 2000<=N by omega) odd
 unfold ZdJ
 rw [ZjQ (by omega) hp,ZU]
 obtain ⟨g,hg,g1,g2⟩:∃ g,(if (!(resS (ZlF p)).2)=true then ((Zec N odd).bind λr504=>some r504) else some (resS (ZlF p)).1)=some g/\g.length<=2000/\Zdd g:=by
  cases h:ZlF p with
  | none=>exact ⟨l,by rw [hl];rfl,by omega,l2⟩
  | some r =>
   obtain ⟨h1,h2⟩:=ZlE hp h
   exact ⟨r,rfl,h1,h2⟩
 obtain ⟨a1,a2⟩:=ZiD (b:=a) g2
 obtain ⟨b1,b2⟩:=ZiD (b:=b) a2
 rw [hg,ZU,hl,ZU,ZpC ha (by omega) g2 (by omega),ZU,ZU,ZpC hb (by omega) a2 (by omega),ZU]
 exact ⟨_,rfl,⟨by simp only;omega,l2⟩,⟨by simp only;omega,g2⟩,⟨by simp only;omega,a2⟩,⟨by simp only;omega,b2⟩⟩
theorem ZoZ (hN:Big N)(x:Z6){f:List Z7}(hf:okP f):ZaK N x f=some (Zfm x f):=
 ZiV (A:=240) (by omega) hf.2 (by omega) (by have:=hf.1;have:=hN.1;omega) (by have:=hN.1;omega) hN.2
end
end Go.Sh

namespace Go.Sh
open Go Go.Eng
section
variable {N:Nat} {p:Z6} {f:List Z7}
theorem ZrG {nP len c per:Int}{l:List Zax}:∀ {k:Nat} {e:Int},k<=l.length->upF (ZcZ nP len c per l) k 0=some e →
  (∀ x:Int,0<=x->x<e->∃ a,(l.take k).find? (λa=>decide (x<a.To))=some a/\a.From<=x/\x<a.To)/\(∀ x:Int,e<=x->(l.take k).find? (λa=>decide (x<a.To))=none)
 | 0,e,_,h=>by
  simp only [upF,ZW] at h
  subst h
  exact ⟨λx h0 h1=>by omega,λx _=>by simp⟩
 | k+1,e,hk,h=>by
  simp only [upF] at h
  cases hu:upF (ZcZ nP len c per l) k 0 with
  | none=>rw [hu] at h;cases h
  | some e0 =>
   rw [hu,ZU] at h
   obtain ⟨h1,h2⟩:=ZrG (by omega) hu
   unfold ZcZ at h
   rw [Zy (show k<l.length by omega),ZU] at h
   split at h
   ·rename_i hok
    obtain ⟨o1,o2,o3,_⟩:=ZeG hok
    cases h
    have ht:l.take (k+1)=l.take k++[l[k]]:=by rw [List.take_succ,Zy (show k<l.length by omega)];rfl
    rw [ht]
    refine ⟨λx x0 x1=>?_,λx hx=>?_⟩
    ·rw [List.find?_append]
     by_cases c:x<e0
     ·obtain ⟨a,a1,a2,a3⟩:=h1 x x0 c
      exact ⟨a,by rw [a1];rfl,a2,a3⟩
     rw [h2 x (by omega)]
     exact ⟨l[k],by simp [x1],by omega,x1⟩
    rw [List.find?_append,h2 x (by omega)]
    simp
    omega
   cases h
def Zdt (l:List Zax)(x:Int):Zax:=(l.find? λa=>decide (x<a.To)).getD a00
theorem Zf8 {c:Nat}(h:Zbw p f c=true):∃ (hc:c<f.length) (s:Nat),f[c].Stream=s/\s<p.Periods.length/\∀ x:Int,0<=x->x<p.Periods.getD s 0->∃ a,f[c].Arms.find? (λa=>decide (x<a.To))=some a/\a.From<=x/\x<a.To/\ZlX p s a/\ZbV p.Periods.length f.length c a=true:=by
 obtain ⟨hc,s,hs,hsl,harm⟩:=ZiF h
 obtain ⟨_,h0,h1,h2⟩:=ZfD h
 refine ⟨hc,s,hs,hsl,λx x0 x1=>?_⟩
 unfold ZiE at h2
 split at h2
 ·rename_i e he
  obtain ⟨c1,_⟩:=ZrG (Nat.le_refl _) he
  rw [beq_iff_eq,hs,Zl] at h2
  obtain ⟨a,a1,a2,a3⟩:=c1 x x0 (by omega)
  rw [List.take_length] at a1
  obtain ⟨b1,b2⟩:=harm a (List.mem_of_find?_eq_some a1)
  exact ⟨a,a1,a2,a3,b1,b2⟩
 cases h2
theorem ZoK {l:List Zax}{x:Int}{k:Nat}(hk:k<l.length):(l.drop k).find? (λa=>decide (x<a.To))=if x<l[k].To then some l[k] else (l.drop (k+1)).find? (λa=>decide (x<a.To)):=by
 rw [Zgr hk,Zr]
 by_cases c:x<l[k].To
 ·simp [c]
 simp [c]
theorem ZkD {ch:Z7}{x:Int}(hl:ch.Arms.length<1000)(hN:2000<=N):Zfb N ch x=some (Zdt ch.Arms x):=by
 unfold Zfb
 obtain ⟨r,hr,e⟩:=Zb0 (body:=λi:Int=>Zc1 N ch x i) (λi=>∃ k:Nat,i=k/\k<=ch.Arms.length/\ch.Arms.find? (λa=>decide (x<a.To))=(ch.Arms.drop k).find? (λa=>decide (x<a.To))) (λi=>(ch.Arms.length+1-i).toNat)
  (λr=>r=((Zdt ch.Arms x).From,(Zdt ch.Arms x).To,(Zdt ch.Arms x).By,(Zdt ch.Arms x).Next)) (λi hi=>by
   obtain ⟨k,rfl,k1,k2⟩:=hi
   simp only [Zc1]
   by_cases c:k<ch.Arms.length
   ·rw [Z2 (by simpa using c),ZbM c,ZU]
    rw [ZoK c] at k2
    by_cases d:x<ch.Arms[k].To
    ·right
     rw [Z2 d] at k2
     refine ⟨_,by rw [Z2 (by simpa using d)],?_⟩
     unfold Zdt
     rw [k2]
     rfl
    left
    rw [Z1 d] at k2
    refine ⟨_,by rw [Z1 (by simpa using d),Za5 (by omega)],⟨k+1,rfl,by omega,k2⟩,by omega⟩
   right
   refine ⟨_,by rw [Z1 (by simpa using c)],?_⟩
   unfold Zdt
   rw [k2,List.drop_eq_nil_of_le (by omega)]
   rfl) N 0 ⟨0,rfl,by omega,by simp⟩ (by omega)
 rw [hr,ZU,e]
def shL (p:Z6)(l:List Int)(c:Nat)(fc:Z7):List Int:=if (Zdt fc.Arms (l.getD fc.Stream.toNat 0)).By = -2 then ZcR p l (-(l.getD fc.Stream.toNat 0)) l.length else l
def whyS (p:Z6)(f:List Z7):Nat->Nat->List Int->Int×Int
 | 0,_,_=>(0,0)
 | n+1,c,l=>match f[c]? with
  | none=>(0,0)
  | some fc=>if (Zdt fc.Arms ((shL p l c fc).getD fc.Stream.toNat 0)).By = -1 then whyS p f n (Zdt fc.Arms ((shL p l c fc).getD fc.Stream.toNat 0)).Next.toNat (shL p l c fc)
   else (fc.Stream,(Zdt fc.Arms ((shL p l c fc).getD fc.Stream.toNat 0)).By)
theorem ZgK {l:List Int}(ho:ZcY p l=true):l.length=p.Periods.length/\∀ k,k<l.length->0<=l.getD k 0/\l.getD k 0<p.Periods.getD k 0:=by
 obtain ⟨h1,h2⟩:=Zhy ho
 refine ⟨h1,λk hk=>?_⟩
 have:=ZcK.1 (h2 k hk)
 rw [Zl] at this
 omega
theorem Zfz (p:Z6)(l:List Int)(by_:Int)(n:Nat):(ZcR p l by_ n).length=n:=by simp [ZcR]
theorem ZlC (p:Z6)(l:List Int)(by_:Int)(n:Nat):ZcR p l by_ (n+1)=ZcR p l by_ n++[(l.getD n 0+by_)%(p.Periods.getD n 0)]:=by
 unfold ZcR
 rw [List.range_succ,ZL]
 rfl
theorem ZrA {l:List Int}{by_:Int}{k:Nat}(hk:k<l.length):idx (ZcR p l by_ k++l.drop k) (k:Int)=some (l.getD k 0):=by
 rw [ZeT,Zu (by rw [Zfz];exact Nat.le_refl _),Zfz,Nat.sub_self,Zx,Nat.add_zero,Zy hk,ZaZ hk]
theorem Zrz {l:List Int}{by_:Int}{k:Nat}(hk:k<l.length):(ZcR p l by_ k++l.drop k).set k ((l.getD k 0+by_)%(p.Periods.getD k 0))=ZcR p l by_ (k+1)++l.drop (k+1):=by
 rw [ZR _ _ (by rw [Zfz];exact Nat.le_refl _),Zfz,Nat.sub_self,Zgr hk,List.set_cons_zero,ZlC,Zo]
 rfl
theorem Zlz (hp:VP p){l:List Int}(ho:ZcY p l=true){x:Int}(h0:0<=x)(h1:x<=1000)(hN:2000<=N) :
  ZaW (λy:Int×(List Int)=>Zcy N p l x y.1 y.2) N (0,l)=some (ZcR p l (-x) l.length):=by
 obtain ⟨hl,ha⟩:=ZgK ho
 have hP:=hp.len
 obtain ⟨r,hr,e⟩:=Zb0 (body:=λy:Int×(List Int)=>Zcy N p l x y.1 y.2) (λy=>∃ k:Nat,y.1=k/\k<=l.length/\y.2=ZcR p l (-x) k++l.drop k) (λy=>(l.length+1-y.1).toNat) (λr=>r=ZcR p l (-x) l.length) (λy hy=>by
  obtain ⟨i,m⟩:=y
  obtain ⟨k,rfl,k1,k2⟩:=hy
  simp only at k2 ⊢
  subst k2
  simp only [Zcy]
  by_cases c:k<l.length
  ·left
   have hpk:=hp.per _ (List.getElem_mem (show k<p.Periods.length by omega))
   have hpg:p.Periods.getD k 0=p.Periods[k]:=ZaZ (by omega) 0
   obtain ⟨a0,a1⟩:=ha k c
   rw [Z2 (by simpa using c),ZrA c,ZU,ZbM (show k<p.Periods.length by omega),ZU,Zg4 (by omega) (by omega) (by omega) (by omega) (by omega) (by omega),ZU,ZU,Za5 (by omega)]
   have ev:(l.getD k 0-x)%p.Periods[k]=(l.getD k 0+(-x))%p.Periods.getD k 0:=by rw [hpg];rfl
   rw [ev,Zl,Zrz c]
   exact ⟨_,rfl,⟨k+1,rfl,by omega,rfl⟩,by simp only;omega⟩
  right
  obtain rfl:k=l.length:=by omega
  refine ⟨_,by rw [Z1 (by simp)],?_⟩
  simp) N (0,l) ⟨0,rfl,by omega,by simp [ZcR]⟩ (by simp only;omega)
 rw [hr,e]
theorem ZhQ (hp:VP p){c:Nat}(hch:Zbw p f c=true){l:List Int}(ho:ZcY p l=true):∃ (hc:c<f.length) (s:Nat),f[c].Stream=s/\s<p.Periods.length/\ZcY p (shL p l c f[c])=true ∧
  ∃ a,f[c].Arms.find? (λa=>decide ((shL p l c f[c]).getD s 0<a.To))=some a/\a.From<=(shL p l c f[c]).getD s 0/\(shL p l c f[c]).getD s 0<a.To/\ZlX p s a/\ZbV p.Periods.length f.length c a=true/\a.By ≠ -2:=by
 obtain ⟨hc,s,hs,hsl,harm⟩:=Zf8 hch
 obtain ⟨hl,hb⟩:=ZgK ho
 obtain ⟨x0,x1⟩:=hb s (by omega)
 refine ⟨hc,s,hs,hsl,?_⟩
 unfold shL
 rw [hs,Zl]
 by_cases h:(Zdt f[c].Arms (l.getD s 0)).By = -2
 ·rw [Z2 h]
  have hz:(ZcR p l (-(l.getD s 0)) l.length).getD s 0=0:=by
   rw [ZfA (by omega),show l.getD s 0 + -(l.getD s 0)=0 by omega]
   simp
  refine ⟨Znu hp ho _,?_⟩
  rw [hz]
  obtain ⟨a,a1,a2,a3,a4,a5⟩:=harm 0 (by omega) (by omega)
  refine ⟨a,a1,a2,a3,a4,a5,λe=>?_⟩
  have:=a4.f0
  unfold ZbV at a5
  rw [e,Z1 (by omega)] at a5
  split at a5
  ·rw [Z2 rfl,ZZ] at a5
   omega
  cases a5
 rw [Z1 h]
 refine ⟨ho,?_⟩
 obtain ⟨a,a1,a2,a3,a4,a5⟩:=harm _ x0 x1
 refine ⟨a,a1,a2,a3,a4,a5,λe=>?_⟩
 apply h
 unfold Zdt
 rw [a1]
 exact e
end
end Go.Sh

namespace Go.Sh
open Go Go.Eng
section
variable {N:Nat} {p:Z6} {f:List Z7}
theorem Zev {n c:Nat}{l:List Int}(hc:c<f.length){s:Nat}(hs:f[c].Stream=s){a:Zax}(ha:f[c].Arms.find? (λa=>decide ((shL p l c f[c]).getD s 0<a.To))=some a) :
  whyS p f (n+1) c l=if a.By = -1 then whyS p f n a.Next.toNat (shL p l c f[c]) else ((s:Int),a.By):=by
 simp only [whyS]
 rw [Zy hc]
 simp only [hs,Zl]
 have:Zdt f[c].Arms ((shL p l c f[c]).getD s 0)=a:=by unfold Zdt;rw [ha];rfl
 rw [this]
theorem Zor {l:List Int}(ho:ZcY p l=true){s:Nat}(hs:s<p.Periods.length):idx l (s:Int)=some (l.getD s 0)/\0<=l.getD s 0/\l.getD s 0<p.Periods.getD s 0:=by
 obtain ⟨hl,hb⟩:=ZgK ho
 obtain ⟨x0,x1⟩:=hb s (by omega)
 exact ⟨by rw [ZbM (by omega),ZaZ (by omega)],x0,x1⟩
theorem ZoS (hp:VP p)(s:Nat):p.Periods.getD s 0<=240:=by
 by_cases e:s<p.Periods.length
 ·rw [ZaZ e];exact (hp.per _ (List.getElem_mem e)).2
 rw [Zs,Zz (by omega)];simp
theorem ZiQ (hp:VP p)(hall:∀ c,c<f.length->Zbw p f c=true)(hf:1<=f.length)(hf2:f.length<=2000)(hs:Zdd f){l:List Int}(ho:ZcY p l=true)(hN:9000<=N) :
  ZaW (λx:Int×(List Int)=>Zcz N p f x.1 x.2) N (0,l)=some ((whyS p f f.length 0 l).1,(whyS p f f.length 0 l).2):=by
 obtain ⟨r,hr,e⟩:=Zb0 (body:=λx:Int×(List Int)=>Zcz N p f x.1 x.2)
  (λx=>∃ c:Nat,x.1=c/\∃ hc:c<f.length,ZcY p x.2=true/\∃ n,f.length<=c+n/\whyS p f n c x.2=whyS p f f.length 0 l)
  (λx=>2*(f.length-x.1).toNat+(if (Zdt (f.getD x.1.toNat c00).Arms (x.2.getD (f.getD x.1.toNat c00).Stream.toNat 0)).By = -2 then 1 else 0)) (λr=>r=((whyS p f f.length 0 l).1,(whyS p f f.length 0 l).2)) (λy hy=>by
   obtain ⟨i,m⟩:=y
   obtain ⟨c,rfl,hc,hm,n,hn,hw⟩:=hy
   simp only at hm hw ⊢
   obtain ⟨_,s,hst,hsl,harm⟩:=Zf8 (hall c hc)
   obtain ⟨i1,x0,x1⟩:=Zor hm hsl
   have h240:=ZoS hp s
   obtain ⟨a0,b1,b2,b3,b4,b5⟩:=harm _ x0 x1
   have hsm:=hs _ (List.getElem_mem hc)
   have e0:Zdt f[c].Arms (m.getD s 0)=a0:=by unfold Zdt;rw [b1];rfl
   have eg:f.getD c c00=f[c]:=ZaZ hc _
   obtain ⟨_,s',hs',_,ho',a,a1,a2,a3,a4,a5,a6⟩:=ZhQ hp (hall c hc) hm
   have ess:s'=s:=by rw [hst] at hs';omega
   subst ess
   obtain ⟨n',rfl⟩:∃ n',n=n'+1:=⟨n-1,by omega⟩
   simp only [Zcz]
   rw [ZbM hc,ZU,hst,i1,ZU,ZU,ZkD (by omega) (by omega),ZU,e0]
   simp only [Zl,eg,hst]
   rw [e0]
   by_cases h:a0.By = -2
   ·left
    have esh:shL p m c f[c]=ZcR p m (-(m.getD s' 0)) m.length:=by
     unfold shL
     rw [hst,Zl,e0,Z2 h]
    have hnot:¬ (Zdt f[c].Arms ((shL p m c f[c]).getD s' 0)).By = -2:=by
     have:Zdt f[c].Arms ((shL p m c f[c]).getD s' 0)=a:=by unfold Zdt;rw [a1];rfl
     rw [this];exact a6
    have key:∀ q:List Int,¬ (Zdt f[c].Arms (q.getD s' 0)).By = -2->shL p q c f[c]=q:=λq hq=>by
     unfold shL
     rw [hst,Zl,Z1 hq]
    have esh2:shL p (shL p m c f[c]) c f[c]=shL p m c f[c]:=key _ hnot
    rw [Z2 (by simpa using h),Zlz hp hm x0 (by omega) (by omega),ZU,Z2 h,← esh]
    refine ⟨_,rfl,⟨c,rfl,hc,ho',n'+1,hn,?_⟩,?_⟩
    ·rw [← hw,Zev hc hst a1]
     have a1':=a1
     rw [← esh2] at a1'
     rw [Zev hc hst a1',esh2]
    simp only [Zl,eg,hst]
    rw [Z1 hnot]
    omega
   have esh:shL p m c f[c]=m:=by
    unfold shL
    rw [hst,Zl,e0,Z1 h]
   rw [Zev hc hst a1,esh] at hw
   rw [esh,b1] at a1
   cases a1
   rw [Z1 (by simpa using h),Z1 h]
   by_cases hb:a0.By = -1
   ·left
    rw [Z2 hb] at hw
    unfold ZbV at a5
    rw [Z2 hb,ZZ] at a5
    refine ⟨_,by rw [Z2 (by simpa using hb)],⟨a0.Next.toNat,by simp only;omega,by omega,hm,n',by omega,hw⟩,?_⟩
    simp only
    split<;>omega
   right
   rw [Z1 hb] at hw
   refine ⟨_,by rw [Z1 (by simpa using hb)],?_⟩
   rw [← hw]) N (0,l) ⟨0,rfl,by omega,ho,f.length,by omega,rfl⟩ (by simp only;split<;>omega)
 rw [hr,e]
end
end Go.Sh

namespace Go.Sh
open Go Go.Eng
section
variable {N:Nat} {p:Z6} {f:List Z7}
def whyR (p:Z6)(f:List Z7)(o:List Int):Int×Int×Int :=
 if Zfm p f=0 then (if ZcY p o=true then ((whyS p f f.length 0 o).1,(whyS p f f.length 0 o).2,0) else (0,0,2)) else (0,0,Zfm p f)
theorem Zf7 (h:Zfm p f=0):ZdZ p=true/\Zk6 p f=true/\ZhI p f=true:=by
 unfold Zfm at h
 split at h
 ·split at h
  ·split at h
   ·exact ⟨by assumption,by assumption,by assumption⟩
   cases h
  cases h
 cases h
theorem ZkE (hN:Big N)(hf:okP f)(o:List Int):Za9 N p f o=some (whyR p f o):=by
 have hN2:=hN.1
 unfold Za9 whyR
 rw [ZoZ hN p hf,ZU]
 by_cases h:Zfm p f=0
 ·obtain ⟨hp,hfo,_⟩:=Zf7 h
  have vp:=VP.of hp
  have hP:=vp.len
  obtain ⟨h1,h2,hall⟩:=Ziq hfo
  rw [Z1 (by simp [h]),Z2 h]
  by_cases hl:o.length=p.Periods.length
  ·rw [Z1 (by simp [hl])]
   rw [Zd3 (n:=o.length) (p:=λk=>offB p k (o.getD k 0)) (bad:=.inr (0,0,2)) (fin:=.inl ()) (λk hk=>by
    simp only [Zc2]
    have hpg:p.Periods.getD k 0=p.Periods[k]:=ZaZ (by omega) 0
    have hog:o.getD k 0=o[k]:=ZaZ (by omega) 0
    rw [Z2 (by simpa using hk),ZbM hk,ZU,Za5 (by omega)]
    have hj:(if decide (o[k]<0)=true then some true else (idx p.Periods (k:Int)).bind λe509=>some (decide (o[k]≥e509)))=some (!(offB p k (o.getD k 0))):=by
     rw [ZbM (show k<p.Periods.length by omega),ZU,hog]
     unfold offB
     rw [Zl,hpg]
     by_cases c:o[k]<0
     ·rw [Z2 (by simpa using c)]
      congr 1
      symm
      rw [Zh,decide_eq_false_iff_not]
      omega
     rw [Z1 (by simpa using c)]
     congr 1
     by_cases d:o[k]≥p.Periods[k]
     ·rw [decide_eq_true d]
      symm
      rw [Zh,decide_eq_false_iff_not]
      omega
     rw [decide_eq_false d]
     symm
     rw [Bool.not_eq_false',ZZ]
     omega
    rw [hj,ZU]
    cases offB p k (o.getD k 0)<;>rfl) (by simp [Zc2]) (by omega),ZU]
   have hoo:ZcY p o=allB o.length λk=>offB p k (o.getD k 0):=by
    unfold ZcY
    rw [decide_eq_true hl,Zj]
   cases ho:ZcY p o with
   | false =>
    rw [hoo] at ho
    rw [ho]
    rfl
   | true =>
    have ho2:=ho
    rw [hoo] at ho2
    rw [ho2]
    simp only [Z3]
    have hne:o≠[]:=λe=>by
     subst e
     obtain ⟨_,hs0,hs1,_⟩:=ZfD (hall 0 (by omega))
     simp at hl
     omega
    have e1:Zbf N o=some o:=by
     unfold Zbf
     have e1:appI 8 [] o=some ([]++o):=ZbQ (by simp;omega) (by omega)
     rw [e1]
     unfold neL
     cases o with
     | nil=>exact absurd rfl hne
     | cons=>rfl
    rw [e1,ZU,ZiQ vp hall h1 h2 hf.2 ho (by omega),ZU]
  rw [Z2 (by simpa using (λe=>hl (by omega)))]
  have:ZcY p o=false:=by
   unfold ZcY
   rw [decide_eq_false hl,Bool.false_and]
  rw [this]
  rfl
 rw [Z2 (by simpa using h),Z1 h]
end
end Go.Sh

namespace Go.Sh
open Go Go.Eng
section
variable {N:Nat} {p:Z6} {f:List Z7}
theorem ZpA {c:Nat}(hch:Zbw p f c=true)(h0:c≠0)(hc:c<f.length){l:List Int}(ho:ZcY p l=true):shL p l c f[c]=l:=by
 obtain ⟨_,s,hs,hsl,harm⟩:=Zf8 hch
 obtain ⟨hl,hb⟩:=ZgK ho
 obtain ⟨x0,x1⟩:=hb s (by omega)
 obtain ⟨a,a1,a2,a3,a4,a5⟩:=harm _ x0 x1
 unfold shL
 rw [hs,Zl,Z1]
 have:Zdt f[c].Arms (l.getD s 0)=a:=by unfold Zdt;rw [a1];rfl
 rw [this]
 intro e
 unfold ZbV at a5
 rw [e,Z1 (by omega)] at a5
 split at a5
 ·rw [Z2 rfl,ZZ] at a5
  omega
 cases a5
theorem Zl5 (hp:VP p)(hall:∀ c,c<f.length->Zbw p f c=true){l:List Int}(ho:ZcY p l=true):∀ (n c:Nat) (g:Zag) (hc:c<f.length),hB p f n c g=true->(∀ k,k<p.Periods.length->g.l.getD k 0 = -1∨g.l.getD k 0=l.getD k 0)->shL p l c f[c]=l →
  ∃ i j:Nat,whyS p f n c l=((i:Int),(j:Int))/\i<p.Periods.length/\j<p.Periods.length/\Zb6 p i (l.getD i 0) j (l.getD j 0)=true
 | 0,c,g,hc,h,_,_=>by cases h
 | n+1,c,g,hc,h,hg,hsh=>by
  have hP:=hp.len
  obtain ⟨_,s,hs,hsl,ho',a,a1,a2,a3,a4,a5,a6⟩:=ZhQ hp (hall c hc) ho
  rw [Zev hc hs a1]
  rw [hsh] at a1 a2 a3 ⊢
  simp only [hB] at h
  rw [Zy hc] at h
  simp only [hs,Zl,Ze,beq_iff_eq] at h
  obtain ⟨h1,h2⟩:=h
  have h3:=List.all_eq_true.1 h2 a (List.mem_of_find?_eq_some a1)
  unfold armH at h3
  unfold ZbV at a5
  by_cases hb:a.By = -1
  ·rw [Z2 hb] at h3 a5 ⊢
   rw [ZZ] at a5
   have hf0:=a4.f0
   have hle:=a4.le
   have h240:=ZoS hp s
   rw [Zbu (by omega) (by have:=a4.lt;omega)] at a5
   have hx:l.getD s 0=a.From:=by omega
   have hc':a.Next.toNat<f.length:=by omega
   refine Zl5 hp hall ho n a.Next.toNat _ hc' h3 (λk hk=>?_) (ZpA (hall _ hc') (by omega) hc' ho)
   rw [Zgx g s k _ (by omega)]
   by_cases e:k=s
   ·subst e;rw [Z2 rfl];exact .inr hx.symm
   rw [Z1 e];exact hg k hk
  rw [Z1 hb] at h3 a5 ⊢
  have hby:0<=a.By/\a.By<(p.Periods.length:Int):=by
   split at a5
   ·first
    | (rw [ZZ] at a5;exact a5)
    | (rw [Z1 a6,ZZ] at a5;exact a5)
   cases a5
  rw [Z2 hby.1] at h3
  unfold refB at h3
  rw [Ze] at h3
  obtain ⟨r1,r2⟩:=h3
  have r3:=Zcv.1 r2 (l.getD s 0-a.From).toNat (by omega)
  have ex:a.From+(((l.getD s 0-a.From).toNat:Nat):Int)=l.getD s 0:=by omega
  rw [ex] at r3
  refine ⟨s,a.By.toNat,by rw [show ((a.By.toNat:Nat):Int)=a.By by omega],hsl,by omega,?_⟩
  have eo:othO g s a.By.toNat (l.getD s 0)=l.getD a.By.toNat 0:=by
   unfold othO
   by_cases e:a.By.toNat=s
   ·rw [Z2 e,e]
   rw [Z1 e]
   rw [decide_eq_false e,Bool.false_or,Zh,beq_eq_false_iff_ne] at r1
   rcases hg a.By.toNat (by omega) with h|h
   ·exact absurd h r1
   exact h
  rw [eo] at r3
  exact r3
theorem ZrL (h:Zfm p f=0){o:List Int}(ho:ZcY p o=true):∃ i j:Nat,whyS p f f.length 0 o=((i:Int),(j:Int))/\i<p.Periods.length/\j<p.Periods.length/\Zb6 p i (o.getD i 0) j (o.getD j 0)=true:=by
 obtain ⟨hp,hfo,hv⟩:=Zf7 h
 have vp:=VP.of hp
 have hP:=vp.len
 obtain ⟨h1,h2,hall⟩:=Ziq hfo
 have hc:0<f.length:=h1
 obtain ⟨_,s,hs,hsl,ho',a,a1,a2,a3,a4,a5,a6⟩:=ZhQ vp (hall 0 hc) ho
 obtain ⟨n,hn⟩:∃ n,f.length=n+1:=⟨f.length-1,by omega⟩
 have key:∀ q:List Int,¬ (Zdt f[0].Arms (q.getD s 0)).By = -2->shL p q 0 f[0]=q:=λq hq=>by
  unfold shL
  rw [hs,Zl,Z1 hq]
 have hnot:¬ (Zdt f[0].Arms ((shL p o 0 f[0]).getD s 0)).By = -2:=by
  have:Zdt f[0].Arms ((shL p o 0 f[0]).getD s 0)=a:=by unfold Zdt;rw [a1];rfl
  rw [this];exact a6
 have esh:=key _ hnot
 have ew:whyS p f f.length 0 o=whyS p f f.length 0 (shL p o 0 f[0]):=by
  rw [hn,Zev hc hs a1]
  have a1':=a1
  rw [← esh] at a1'
  rw [Zev hc hs a1',esh]
 unfold ZhI at hv
 obtain ⟨i,j,e1,e2,e3,e4⟩:=Zl5 vp hall ho' f.length 0 g0 hc hv (λk hk=>.inl (ZnM k (by omega))) esh
 refine ⟨i,j,by rw [ew];exact e1,e2,e3,?_⟩
 have hol:=(ZgK ho).1
 unfold shL at e4
 split at e4
 ·rw [ZfA (by omega),ZfA (by omega),Zih vp] at e4
  exact e4
 exact e4
theorem Zlt (hN:Big N)(hf:okP f)(h:Zfm p f=0){o:List Int}(ho:ZcY p o=true):∃ i j:Nat,∃ x y:Int,Za9 N p f o=some ((i:Int),(j:Int),0)/\Zbc N p o=some (false,0)/\(i:Int)<(o.length:Int)/\(j:Int)<(o.length:Int)/\idx o (i:Int)=some x/\idx o (j:Int)=some y/\ZaH N p i x j y=some (true,0):=by
 obtain ⟨i,j,e1,e2,e3,e4⟩:=ZrL h ho
 obtain ⟨hp,hfo,hv⟩:=Zf7 h
 have hN2:=hN.1
 have vp:=VP.of hp
 have hol:=(ZgK ho).1
 have hi:i<o.length:=by omega
 have hj:j<o.length:=by omega
 refine ⟨i,j,o[i],o[j],?_,?_,by omega,by omega,ZbM hi,ZbM hj,?_⟩
 ·rw [ZkE hN hf]
  unfold whyR
  rw [Z2 h,Z2 ho,e1]
 ·rw [ZkG (by omega)]
  unfold Zpp
  rw [Z2 hp,Z2 ho,ZjH vp]
  have:Zlb p o=false:=by
   cases hcl:Zlb p o with
   | false=>rfl
   | true =>
    unfold Zlb at hcl
    have h1:=Zcv.1 hcl i hi
    have h2:=Zcv.1 h1 j hj
    rw [e4] at h2
    cases h2
  rw [this]
 rw [Ze0 (by omega)]
 have h1:=Zk9 hp ho hi hj
 rw [e4] at h1
 rw [ZaZ hi,ZaZ hj] at h1
 rw [h1]
end
end Go.Sh

namespace Go.Sh
open Go Go.Eng
theorem Zfp {N:Nat}{p:Z6}{f:List Z7}{o:List Int}(hN:Big N)(hf:okP f)(ho:ZcY p o=true){K K':Option Bool}(hK:K=some true)(hK':K'=some true) :
  ((ZaK N p f).bind λr6=>(if (r6 != 0) then K else ((Zbc N p o).bind λr14=>((Za9 N p f o).bind λr15 =>
   (if (r14.1||((r14.2 != 0)||((r15.2.2 != 0)||((decide (r15.1<0))||((decide (r15.2.1<0))||((decide (r15.1≥((List.length o:Nat):Int)))||(decide (r15.2.1≥((List.length o:Nat):Int))))))))) then (some false) else ((idx o r15.1).bind λe29 =>
   ((idx o r15.2.1).bind λe30=>((ZaH N p r15.1 e29 r15.2.1 e30).bind λr31=>(if ((!r31.1)||(r31.2 != 0)) then (some false) else K')))))))))=some true:=by
 rw [ZoZ hN p hf,ZU]
 by_cases h:Zfm p f=0
 ·obtain ⟨i,j,x,y,e1,e2,e3,e4,e5,e6,e7⟩:=Zlt hN hf h ho
  rw [Z1 (by simp [h]),e2,ZU,e1,ZU]
  simp only
  rw [Z1 (by simp;omega),e5,ZU,e6,ZU,e7,ZU]
  exact hK'
 rw [Z2 (by simpa using h)]
 exact hK
theorem proofSound_true (d:ZbH)(odd:List Z7)(a:ZaU)(some_:List Int)(hd:Zeu d)(hodd:odd.length<=maxLen/\∀ x∈odd,ZgB x)(ha:Zdr a)(hs:some_.length<=maxLen/\∀ x∈some_,InK .u8 x):∃ N,ZcU N d odd a some_=some true:=by
 obtain ⟨N,hN⟩:=big
 refine ⟨N,?_⟩
 have hN2:=hN.1
 obtain ⟨p,hp,gp⟩:=Ze4 (show 2000<=N by omega) hd
 obtain ⟨q,hq,q0,q1,q2,q3⟩:=Zno hN (VP.of gp.prob) odd ha ha
 obtain ⟨o,ho,hoo⟩:=ZjS (show 2000<=N by omega) (VP.of gp.prob) hs.2
 unfold ZcU
 rw [Zo2 (by omega),ZU,Z1 (by simp),hp,ZU,ho,ZU,hq,ZU]
 refine Zfp hN q0 hoo ?_ ?_<;>refine Zfp hN q1 hoo ?_ ?_<;>refine Zfp hN q2 hoo ?_ ?_<;>exact Zfp hN q3 hoo rfl rfl
end Go.Sh

