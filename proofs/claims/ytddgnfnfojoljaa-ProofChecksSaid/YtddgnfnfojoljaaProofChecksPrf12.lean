/- Part of the proof. -/
import Derived.Test.YtddgnfnfojoljaaProofChecksBase
import Derived.Test.YtddgnfnfojoljaaProofChecksRd
import Derived.KernelRfl
set_option linter.all false
namespace Go.Sh
open Go Go.Eng
def ZfJ (q:Nat->Bool):Nat->Option Nat
 | 0=>none
 | n+1=>match ZfJ q n with
  | some j=>some j
  | none=>if q n=true then some n else none
theorem ZfX {q:Nat->Bool}:∀ {n:Nat},ZfJ q n=none↔∀ k,k<n->q k=false
 | 0=>by simp [ZfJ]
 | n+1=>by
  have ih:=ZfX (q:=q) (n:=n)
  simp only [ZfJ]
  cases h:ZfJ q n with
  | some j =>
   simp only [reduceCtorEq,false_iff]
   intro h2
   rw [ih.2 λk hk=>h2 k (by omega)] at h
   cases h
  | none =>
   simp only
   have h3:=ih.1 h
   constructor
   ·intro h2 k hk
    by_cases e:k=n
    ·subst e
     cases hq:q k with
     | false=>rfl
     | true=>rw [hq,ZY rfl] at h2;cases h2
    exact h3 k (by omega)
   intro h2
   rw [h2 n (by omega),ZX (by simp)]
theorem ZfW {q:Nat->Bool}{j:Nat}:∀ {n:Nat},ZfJ q n=some j↔j<n/\q j=true/\∀ k,k<j->q k=false
 | 0=>by simp [ZfJ]
 | n+1=>by
  have ih:=ZfW (q:=q) (j:=j) (n:=n)
  simp only [ZfJ]
  cases h:ZfJ q n with
  | some j' =>
   simp only [ZS]
   rw [h] at ih
   simp only [ZS] at ih
   constructor
   ·intro e
    obtain ⟨a,b,c⟩:=ih.1 e
    exact ⟨by omega,b,c⟩
   rintro ⟨a,b,c⟩
   by_cases e:j=n
   ·subst e
    obtain ⟨a',b',_⟩:=ZfW.1 h
    rw [c j' a'] at b'
    cases b'
   exact ih.2 ⟨by omega,b,c⟩
  | none =>
   simp only
   have h3:=ZfX.1 h
   constructor
   ·intro h2
    split at h2
    ·rename_i hq
     cases h2
     exact ⟨by omega,hq,h3⟩
    cases h2
   rintro ⟨a,b,c⟩
   by_cases e:j=n
   ·subst e;rw [ZY b]
   rw [h3 j (by omega)] at b;cases b
section
variable {N:Nat} {p:Z4}
def byS (p:Z4)(i:Nat)(x:Int)(all:List Int):Int:=match ZfJ (λj=>Zdj p i x j (all.getD j 0)) (i+1) with
 | some j=>j
 | none => -1
theorem Zo7 (hN:2000<=N)(hp:VP p){i:Nat}(hi:i<1000){x:Int}(hx:0<=x)(hx2:x<=1000){all:List Int}(hl:all.length=i+1)(ha:∀ y∈all,0<=y/\y<=1000) :
  ZaQ (λy:Int×Int=>Zb3 N p i x all y.1 y.2) N (0,-1)=some (byS p i x all):=by
 obtain ⟨r,hr,e⟩:=ZcJ (body:=λy:Int×Int=>Zb3 N p i x all y.1 y.2)
  (λy=>∃ k:Nat,y.1=k/\k<=i+1/\((y.2 = -1/\∀ m,m<k->Zdj p i x m (all.getD m 0)=false)∨(∃ m:Nat,m<k/\y.2=m/\Zdj p i x m (all.getD m 0)=true/\∀ m',m'<m->Zdj p i x m' (all.getD m' 0)=false)))
  (λy=>((i:Int)+2-y.1).toNat) (λb=>b=byS p i x all) (λy hy=>by
   obtain ⟨j,b⟩:=y
   obtain ⟨k,rfl,k1,k2⟩:=hy
   simp only at k2 ⊢
   simp only [Zb3]
   rcases k2 with ⟨rfl,k3⟩|⟨m,m1,rfl,m2,m3⟩
   ·by_cases c:k<=i
    ·left
     rw [ZY (by simp;omega),ZbQ (by omega),ZQ]
     obtain ⟨a0,a1⟩:=ha _ (List.getElem_mem (by omega:k<all.length))
     rw [ZfG hN hp hx hx2 a0 a1,ZQ]
     have eg:all[k]'(by omega)=all.getD k 0:=(ZbG (by omega) 0).symm
     rw [eg]
     cases hm:Zdj p i x k (all.getD k 0) with
     | true=>exact ⟨_,by rw [ZY rfl,ZQ],⟨k+1,by simp only;rw [ZaX (by omega)],by omega,.inr ⟨k,by omega,rfl,hm,k3⟩⟩,by simp only;rw [ZaX (by omega)];omega⟩
     | false=>exact ⟨_,by rw [ZX (by simp),ZQ],⟨k+1,by simp only;rw [ZaX (by omega)],by omega,.inl ⟨rfl,λm hm'=>by
       by_cases e:m=k
       ·subst e;exact hm
       exact k3 m (by omega)⟩⟩,by simp only;rw [ZaX (by omega)];omega⟩
    right
    refine ⟨_,by rw [ZX (by simp;omega)],?_⟩
    unfold byS
    rw [ZfX.2 λm hm=>k3 m (by omega)]
   right
   refine ⟨_,by rw [ZX (by simp)],?_⟩
   unfold byS
   rw [ZfW.2 ⟨by omega,m2,m3⟩]) N (0,-1) ⟨0,rfl,by omega,.inl ⟨rfl,λm hm=>by omega⟩⟩ (by simp only;omega)
 rw [hr,e]
def c00:Z3:=⟨0,[]⟩
def a00:Zav:=⟨0,0,0,0⟩
def Znu (l:List Zav)(b:Int):Bool:=decide (b ≠ -1)&&decide (l≠[])&&decide ((l.getD (l.length-1) a00).By=b)
def Zo5 (l:List Zav)(t:Int):List Zav:=l.set (l.length-1) { l.getD (l.length-1) a00 with To:=t }
def bS (p:Z4)(given:List Int)(c x:Nat):Int:=if c=0/\0<x then -2 else byS p given.length x (given++[(x:Int)])
def Zki (p:Z4)(given:List Int)(c:Nat)(R:List Z3->List Int->Option (List Z3))(x:Nat)(s:List Z3):Option (List Z3):=
 if Znu (s.getD c c00).Arms (bS p given c x)=true then some (s.set c ⟨(s.getD c c00).Stream,Zo5 (s.getD c c00).Arms ((x:Int)+1)⟩)
 else if bS p given c x = -1 then (R s (given++[(x:Int)])).map λr=>r.set c ⟨(r.getD c c00).Stream,(r.getD c c00).Arms++[⟨x,(x:Int)+1,-1,s.length⟩]⟩
 else some (s.set c ⟨(s.getD c c00).Stream,(s.getD c c00).Arms++[⟨x,(x:Int)+1,bS p given c x,0⟩]⟩)
def Zj3 (p:Z4):Nat->List Z3->List Int->Option (List Z3)
 | 0,_,_=>none
 | n+1,f,given=>if 2000<=f.length then none else upF (Zki p given f.length (Zj3 p n)) (p.Periods.getD given.length 0).toNat (f++[⟨given.length,[]⟩])
def Zdk (s:List Z3):Prop:=∀ y∈s,y.Arms.length<=240
structure GI (f:List Z3) (i x:Nat) (s:List Z3):Prop where
 pre:f <+: s
 lt:f.length<s.length
 le:s.length<=2000
 st:(s.getD f.length c00).Stream=i
 ar:(s.getD f.length c00).Arms.length<=x
 sm:Zdk s
def RK (R:List Z3->List Int->Option (List Z3)):Prop:=∀ s g r,s.length<=2000->Zdk s->R s g=some r->s <+: r/\r.length<=2000/\Zdk r
theorem Zdk.set {s:List Z3}(h:Zdk s){c:Nat}{y:Z3}(hy:y.Arms.length<=240):Zdk (s.set c y):=λz hz=>by
 rcases List.mem_or_eq_of_mem_set hz with hz|rfl
 ·exact h z hz
 exact hy
theorem Zoc {α:Type}{l m:List α}{i:Nat}(x:α)(h:l <+: m)(hi:l.length<=i):l <+: m.set i x:=by
 obtain ⟨t,rfl⟩:=h
 rw [List.set_append_right _ _ hi]
 exact ⟨_,rfl⟩
theorem ZjO {α:Type}{l m:List α}{i:Nat}(d:α)(h:l <+: m)(hi:i<l.length):m.getD i d=l.getD i d:=by
 obtain ⟨t,rfl⟩:=h
 simp [Zq,Zr hi]
theorem Zgf {α:Type}{l:List α}{i:Nat}(d x:α)(hi:i<l.length):(l.set i x).getD i d=x:=by
 simp [Zq,hi]
theorem ZnF (l:List Zav)(t:Int):(Zo5 l t).length=l.length:=by simp [Zo5]
theorem GI.set {f:List Z3}{i x x':Nat}{s:List Z3}(h:GI f i x s){l:List Zav}(hl:l.length<=x')(hx:x'<=240):GI f i x' (s.set f.length ⟨(s.getD f.length c00).Stream,l⟩):=
 {pre:=Zoc _ h.pre (Nat.le_refl _)
  lt:=by rw [ZF];exact h.lt
  le:=by rw [ZF];exact h.le
  st:=by rw [Zgf _ _ h.lt];exact h.st
  ar:=by rw [Zgf _ _ h.lt];exact hl
  sm:=h.sm.set (by simp only;omega) }
theorem GI.step {f:List Z3}{given:List Int}{R:List Z3->List Int->Option (List Z3)}(hR:RK R){i x:Nat}{s s':List Z3}(h:GI f i x s)(hx:x<240)(hs:Zki p given f.length R x s=some s'):GI f i (x+1) s':=by
 unfold Zki at hs
 split at hs
 ·cases hs
  exact h.set (by rw [ZnF];have:=h.ar;omega) (by omega)
 split at hs
 ·cases hr:R s (given++[(x:Int)]) with
  | none=>rw [hr] at hs;cases hs
  | some r =>
   rw [hr] at hs
   cases hs
   obtain ⟨h1,h2,h3⟩:=hR s _ r h.le h.sm hr
   have h4:GI f i x r :=
    {pre:=h.pre.trans h1
     lt:=Nat.lt_of_lt_of_le h.lt h1.length_le
     le:=h2
     st:=by rw [ZjO _ h1 h.lt];exact h.st
     ar:=by rw [ZjO _ h1 h.lt];exact h.ar
     sm:=h3 }
   exact h4.set (by have:=h4.ar;rw [ZC,ZG];omega) (by omega)
 cases hs
 exact h.set (by have:=h.ar;rw [ZC,ZG];omega) (by omega)
theorem GI.start {f:List Z3}(i:Nat)(hf:f.length<2000)(hs:Zdk f):GI f i 0 (f++[⟨i,[]⟩]):=
 {pre:=List.prefix_append _ _
  lt:=by simp
  le:=by simp;omega
  st:=by simp [Zq]
  ar:=by simp [Zq]
  sm:=λy hy=>by
   rcases List.mem_append.1 hy with hy|hy
   ·exact hs y hy
   simp only [ZM] at hy;subst hy;simp }
theorem GI.loop {f:List Z3}{given:List Int}{R:List Z3->List Int->Option (List Z3)}(hR:RK R){i:Nat}{s0:List Z3}(h0:GI f i 0 s0) :
  ∀ {n:Nat} {s:List Z3},n<=240->upF (Zki p given f.length R) n s0=some s->GI f i n s
 | 0,s,_,h=>by simp only [upF,ZS] at h;subst h;exact h0
 | n+1,s,hn,h=>by
  simp only [upF] at h
  cases hu:upF (Zki p given f.length R) n s0 with
  | none=>rw [hu] at h;cases h
  | some s1 =>
   rw [hu] at h
   exact (GI.loop hR h0 (by omega) hu).step hR (by omega) h
theorem Zht (hp:VP p):∀ n,RK (Zj3 p n)
 | 0=>λs g r _ _ h=>by cases h
 | n+1=>λs g r h1 h2 h=>by
  simp only [Zj3] at h
  split at h
  ·cases h
  rename_i hc
  have hper:(p.Periods.getD g.length 0).toNat<=240:=by
   by_cases e:g.length<p.Periods.length
   ·rw [ZbG e]
    have:=hp.per _ (List.getElem_mem e)
    omega
   rw [Zq,Zx (by omega)];simp
  have hG:=GI.loop (Zht hp n) (GI.start g.length (by omega) h2) hper h
  exact ⟨hG.pre,hG.le,hG.sm⟩
def resS (o:Option (List Z3)):List Z3×Bool:=match o with
 | some r=>(r,true)
 | none=>([],false)
theorem ZkU {l:List Zav}(hl:l.length<=1000)(b:Int):Zc7 l b=some (Znu l b):=by
 unfold Zc7 Znu
 by_cases hb:b = -1
 ·subst hb;rfl
 rw [ZY (by simpa using hb),decide_eq_true hb,Zi]
 by_cases hn:l=[]
 ·subst hn;rfl
 have h0:0<l.length:=List.length_pos_iff.2 hn
 rw [ZY (by simp;omega),decide_eq_true hn,Zi]
 have e:w64 (((List.length l:Nat):Int)-1)=((l.length-1:Nat):Int):=by rw [Zbh (by omega) (by omega)];omega
 rw [e,ZbQ (by omega),ZQ,ZbG (by omega)]
 rfl
theorem ZnB (hp:VP p):∀ (n M:Nat) (f:List Z3) (given:List Int),2000<=M->given.length+n=p.Periods.length->(∀ y∈given,0<=y/\y<=1000)->f.length<=2000->Zdk f →
  Zdq (M+n+1) p f given=some (resS (Zj3 p n f given))
 | 0,M,f,given,hM,hg,ha,hf,hs=>by
  show Zcv _ _ p f given=_
  unfold Zcv
  rw [ZY (by rw [show given.length=p.Periods.length by omega];simp)]
  rfl
 | n+1,M,f,given,hM,hg,ha,hf,hs=>by
  show Zcv (M+(n+1)) (Zdq (M+n+1)) p f given=_
  unfold Zcv
  simp only [Zj3]
  have hP:=hp.len
  by_cases hc:2000<=f.length
  ·rw [ZY (by simp;omega),ZY hc]
   rfl
  rw [ZX (by simp;omega),ZX hc]
  have hap:appI 32 f [(⟨((List.length given:Nat):Int),[]⟩:Z3)]=some (f++[⟨((List.length given:Nat):Int),[]⟩]):=ZbA (by simp;omega) (by omega)
  rw [hap,ZQ]
  have hin:given.length<p.Periods.length:=by omega
  have hpe:=hp.per _ (List.getElem_mem hin)
  have hpg:p.Periods.getD given.length 0=p.Periods[given.length]:=ZbG hin 0
  have hup:=Zj1 (λk (s:List Z3)=>(k,s)) (·.1) (λ_ _=>rfl) (ρ:=List Z3⊕(List Z3×Bool)) (body:=λy:Int×List Z3=>Zb4 (M+(n+1)) (Zdq (M+n+1)) p given ((List.length given:Nat):Int) ((List.length f:Nat):Int) y.1 y.2)
   (step:=Zki p given f.length (Zj3 p n)) (n:=(p.Periods.getD given.length 0).toNat) (s0:=f++[⟨given.length,[]⟩]) (fin:=λs=>.inl s) (bad:=.inr ([],false)) (N:=M+(n+1)) (λk s hk hu=>by
    have hG:=GI.loop (Zht hp n) (GI.start given.length (by omega) hs) (by omega) hu
    simp only [Zb4]
    rw [ZbQ hin,ZQ,ZY (by simp;omega)]
    have ha1:appI 8 [] given=some ([]++given):=ZbA (by simp;omega) (by omega)
    have ha2:appI 8 ([]++given) [(k:Int)]=some (given++[(k:Int)]):=by rw [ZN];exact ZbA (by simp;omega) (by omega)
    have hall:∀ y∈given++[(k:Int)],0<=y/\y<=1000:=λy hy=>by
     rcases List.mem_append.1 hy with hy|hy
     ·exact ha y hy
     simp only [ZM] at hy;omega
    rw [ha1,ZQ,ha2,ZQ,Zo7 (by omega) hp (by omega) (by omega) (by omega) (by simp) hall,ZQ]
    have hb:(if (((List.length f:Nat):Int)==0&&decide ((k:Int)>0))=true then some (-2) else some (byS p given.length (k:Int) (given++[(k:Int)])))=some (bS p given f.length k):=by
     unfold bS
     by_cases e:f.length=0/\0<k
     ·rw [ZY e,ZY (by simp only [Ze,beq_iff_eq,ZV];omega)]
     rw [ZX e,ZX (by simp only [Ze,beq_iff_eq,ZV];omega)]
    rw [hb,ZQ,ZbQ hG.lt,ZQ]
    have hsg:s[f.length]'hG.lt=s.getD f.length c00:=(ZbG hG.lt _).symm
    have hal:=hG.ar
    rw [hsg,ZkU (by omega),ZQ]
    have hw1:w64 ((k:Int)+1)=(k:Int)+1:=Zbh (by omega) (by omega)
    have hk1:((k+1:Nat):Int)=(k:Int)+1:=by omega
    unfold Zki
    cases hlb:Znu (s.getD f.length c00).Arms (bS p given f.length k) with
    | true =>
     rw [ZY rfl,ZY rfl]
     have hne:(s.getD f.length c00).Arms≠[]:=by
      unfold Znu at hlb
      simp only [Ze,ZV] at hlb
      exact hlb.1.2
     have h0:0<(s.getD f.length c00).Arms.length:=List.length_pos_iff.2 hne
     have e:w64 (((List.length (s.getD f.length c00).Arms:Nat):Int)-1)=(((s.getD f.length c00).Arms.length-1:Nat):Int):=by rw [Zbh (by omega) (by omega)];omega
     rw [e,ZeO a00 (by omega) (by omega),ZQ,hw1]
     simp only [Zk,hk1]
     rfl
    | false =>
     simp only [Zf,ZW]
     by_cases hb1:bS p given f.length k = -1
     ·rw [ZY (by simpa using hb1),ZY hb1,ZnB hp n M s (given++[(k:Int)]) hM (by simp;omega) hall hG.le hG.sm,ZQ]
      cases hr:Zj3 p n s (given++[(k:Int)]) with
      | none=>rfl
      | some r =>
       obtain ⟨g1,g2,g3⟩:=Zht hp n s _ r hG.le hG.sm hr
       have hlr:f.length<r.length:=Nat.lt_of_lt_of_le hG.lt g1.length_le
       simp only [resS,Bool.not_true,Zf,ZW,ZQ,ZR]
       rw [ZbQ hlr,ZQ,← ZbG hlr c00,ZjO c00 g1 hG.lt]
       have ha3:∀ a:Zav,appI 32 (s.getD f.length c00).Arms [a]=some ((s.getD f.length c00).Arms++[a]):=λa=>ZbA (by rw [ZG];omega) (by omega)
       rw [ha3,ZQ,hb1,hw1]
       simp only [Zk,hk1]
     rw [ZX (by simpa using hb1),ZX hb1,ZQ]
     simp only
     rw [ZbQ hG.lt,ZQ,hsg]
     have ha3:∀ a:Zav,appI 32 (s.getD f.length c00).Arms [a]=some ((s.getD f.length c00).Arms++[a]):=λa=>ZbA (by rw [ZG];omega) (by omega)
     rw [ha3,ZQ,hw1]
     simp only [Zk,hk1]) (λs hu=>by
    simp only [Zb4]
    rw [ZbQ hin,ZQ,ZX (by rw [ZV];omega)]) (by omega)
  rw [hup,ZQ]
  cases upF (Zki p given f.length (Zj3 p n)) (p.Periods.getD given.length 0).toNat (f++[⟨given.length,[]⟩])<;>rfl
end
end Go.Sh

namespace Go.Sh
open Go Go.Eng
section
variable {N:Nat} {p:Z4}
def Zly (p:Z4):Option (List Z3):=if p.Periods.length=0 then none else Zj3 p p.Periods.length [] []
theorem ZjL (hN:3000<=N)(hp:VP p):Zev N p=some (resS (Zly p)):=by
 unfold Zev Zly
 by_cases h:p.Periods.length=0
 ·rw [ZY (by simpa using h),ZY h];rfl
 have hP:=hp.len
 rw [ZX (by simpa using h),ZX h]
 have:=ZnB hp p.Periods.length (N-p.Periods.length-1) [] [] (by omega) (by simp) (by simp) (by simp) (by intro y hy;cases hy)
 rw [show N-p.Periods.length-1+p.Periods.length+1=N by omega] at this
 rw [this]
 rfl
theorem Zlx (hp:VP p){r:List Z3}(h:Zly p=some r):r.length<=2000/\Zdk r:=by
 unfold Zly at h
 split at h
 ·cases h
 obtain ⟨_,h1,h2⟩:=Zht hp p.Periods.length [] [] r (by simp) (by intro y hy;cases hy) h
 exact ⟨h1,h2⟩
theorem ZrQ (hN:2000<=N)(a:List Z3):∃ l,Zd8 N a=some l/\l.length<=40/\Zdk l:=by
 unfold Zd8
 obtain ⟨r,hr,e⟩:=ZcJ (body:=λx:Int×(List Z3)=>ZcV N a x.1 x.2) (λx=>∃ k:Nat,x.1=k/\k<=40/\x.2.length=k/\Zdk x.2) (λx=>(41-x.1).toNat) (λl=>l.length<=40/\Zdk l) (λx hx=>by
  obtain ⟨i,l⟩:=x
  obtain ⟨k,rfl,k1,k2,k3⟩:=hx
  simp only at k2 k3 ⊢
  simp only [ZcV]
  by_cases c:k<a.length/\k<40
  ·left
   rw [ZY (by simp only [Ze,ZV];omega),ZbQ c.1]
   simp only [ZQ]
   obtain ⟨m,hm,hm2,hm3⟩:∃ m:Nat,(if 30<((List.length a[k].Arms:Nat):Int) then (30:Int) else ((List.length a[k].Arms:Nat):Int))=m/\m<=30/\m<=a[k].Arms.length:=by
    by_cases h:30<((List.length a[k].Arms:Nat):Int)
    ·exact ⟨30,by rw [ZY h];rfl,by omega,by omega⟩
    exact ⟨a[k].Arms.length,by rw [ZX h],by omega,by omega⟩
   have e1:subI a[k].Arms 0 (m:Int)=some (a[k].Arms.take m):=by
    unfold subI
    rw [ZY (by omega)]
    simp
   have e2:∀ y:Z3,appI 32 l [y]=some (l++[y]):=λy=>ZbA (by rw [ZG];omega) (by omega)
   rw [hm,e1,ZQ,e2,ZQ,ZaX (by omega)]
   refine ⟨_,rfl,⟨k+1,rfl,by omega,by simp;omega,λy hy=>?_⟩,by simp only;omega⟩
   rcases List.mem_append.1 hy with hy|hy
   ·exact k3 y hy
   simp only [ZM] at hy
   subst hy
   simp only [ZH]
   omega
  right
  exact ⟨_,by rw [ZX (by simp only [Ze,ZV];omega)],by omega,k3⟩) N (0,[]) ⟨0,rfl,by omega,rfl,by intro y hy;cases hy⟩ (by simp only;omega)
 exact ⟨r,by rw [hr];rfl,e⟩
def ZeD (b:ZaO)(f:List Z3):Nat:=(b.Choice%(f.length:Int)).toNat
def Zo8 (b:ZaO)(fc:Z3):Nat:=(b.Arm%(fc.Arms.length:Int)).toNat
def Zos (b:ZaO)(k m:Nat)(l:List Zav):List Zav :=
 if m=1 then l.set k { l.getD k a00 with From:=b.N_ }
 else if m=2 then l.set k { l.getD k a00 with To:=b.N_ }
 else if m=3 then l.set k { l.getD k a00 with By:=b.N_ }
 else if m=4 then l.set k { l.getD k a00 with Next:=b.N_ }
 else if m=5 then l.take k++l.drop (k+1)
 else if k+1<l.length then (l.set k { l.getD k a00 with To:=b.N_ }).set (k+1) { (l.set k { l.getD k a00 with To:=b.N_ }).getD (k+1) a00 with From:=b.N_ } else l
def ZnL (b:ZaO)(f:List Z3):List Z3 :=
 if f=[] then f
 else if (b.What%8).toNat=0∨(f.getD (ZeD b f) c00).Arms=[] then f.set (ZeD b f) ⟨b.N_,(f.getD (ZeD b f) c00).Arms⟩
 else if (b.What%8).toNat=7 then f++[f.getD (ZeD b f) c00]
 else f.set (ZeD b f) ⟨(f.getD (ZeD b f) c00).Stream,Zos b (Zo8 b (f.getD (ZeD b f) c00)) (b.What%8).toNat (f.getD (ZeD b f) c00).Arms⟩
theorem ZnM (b:ZaO)(k m:Nat)(l:List Zav):(Zos b k m l).length<=l.length:=by
 unfold Zos
 repeat' split
 all_goals first|(simp;done)|(simp;omega)|omega
theorem Zix {b:ZaO}{f:List Z3}(h:Zdk f):(ZnL b f).length<=f.length+1/\Zdk (ZnL b f):=by
 have hg:∀ c,(f.getD c c00).Arms.length<=240:=λc=>by
  by_cases e:c<f.length
  ·rw [ZbG e];exact h _ (List.getElem_mem e)
  rw [Zq,Zx (by omega)];simp [c00]
 unfold ZnL
 split
 ·exact ⟨by omega,h⟩
 split
 ·exact ⟨by simp,h.set (hg _)⟩
 split
 ·refine ⟨by simp,λy hy=>?_⟩
  rcases List.mem_append.1 hy with hy|hy
  ·exact h y hy
  simp only [ZM] at hy
  subst hy
  exact hg _
 exact ⟨by simp,h.set (Nat.le_trans (ZnM _ _ _ _) (hg _))⟩
theorem ZoX (f:List Z3)(hf:f.length<=10000)(hs:Zdk f)(hN:20000<=N):ZaQ (λx:Int×List Z3=>Zbt f x.1 x.2) N (0,[])=some f:=by
 obtain ⟨r,hr,e⟩:=ZcJ (body:=λx:Int×List Z3=>Zbt f x.1 x.2) (λx=>∃ k:Nat,x.1=k/\k<=f.length/\x.2=f.take k) (λx=>(f.length+1-x.1).toNat) (λl=>l=f) (λx hx=>by
  obtain ⟨i,l⟩:=x
  obtain ⟨k,rfl,k1,k2⟩:=hx
  simp only at k2 ⊢
  subst k2
  simp only [Zbt]
  by_cases c:k<f.length
  ·left
   have h1:=hs _ (List.getElem_mem c)
   have e1:appI 32 [] f[k].Arms=some ([]++f[k].Arms):=ZbA (by simp;omega) (by omega)
   have e2:∀ y:Z3,appI 32 (f.take k) [y]=some (f.take k++[y]):=λy=>ZbA (by simp;omega) (by omega)
   rw [ZY (by simpa using c),ZbQ c,ZQ,e1,ZQ,e2,ZQ,ZaX (by omega)]
   refine ⟨_,rfl,⟨k+1,rfl,by omega,?_⟩,by simp only;omega⟩
   simp only [ZN]
   rw [List.take_succ,Zw c]
   rfl
  right
  exact ⟨_,by rw [ZX (by simpa using c)],by rw [List.take_of_length_le (by omega)]⟩) N (0,[]) ⟨0,rfl,by omega,by simp⟩ (by simp only;omega)
 rw [hr,e]
theorem u8 {x:Int}(h:InK .u8 x):0<=x/\x<=255:=h.u8
theorem ZjG {a:Int}{n:Nat}(h0:0<=a)(hn:0<n):remI a (n:Int)=some (((a%(n:Int)).toNat:Nat):Int)/\(a%(n:Int)).toNat<n:=by
 have h1:=Int.emod_nonneg a (show (n:Int)≠0 by omega)
 have h2:=Int.emod_lt_of_pos a (show (0:Int)<n by omega)
 refine ⟨?_,by omega⟩
 rw [ZbJ (by omega),Zj h0]
 congr 1
 omega
theorem Zph {b:ZaO}(hb:ZcL b){f:List Z3}(hf:f.length<=10000)(hs:Zdk f)(hN:20000<=N):Zca N b f=some (ZnL b f):=by
 obtain ⟨b1,b2,b3,b4⟩:=hb
 have b1:=u8 b1
 have b2:=u8 b2
 have b3:=u8 b3
 unfold Zca ZnL
 rw [ZoX f hf hs hN,ZQ]
 by_cases h0:f=[]
 ·subst h0;rfl
 have hl:0<f.length:=List.length_pos_iff.2 h0
 rw [ZX (by simpa using h0),ZX h0,Zbh (by omega) (by omega)]
 obtain ⟨e1,e2⟩:=ZjG b1.1 hl
 have e3:ZeD b f=(b.Choice%(f.length:Int)).toNat:=rfl
 rw [← e3] at e1 e2
 rw [e1,ZQ,ZbQ e2,ZQ]
 have eg:f[ZeD b f]=f.getD (ZeD b f) c00:=(ZbG e2 _).symm
 rw [eg]
 have hfc:(f.getD (ZeD b f) c00).Arms.length<=240:=by rw [← eg];exact hs _ (List.getElem_mem e2)
 obtain ⟨m1,m2⟩:=ZjG (n:=8) b3.1 (by omega)
 have m3:remI b.What 8=some (((b.What%8).toNat:Nat):Int):=m1
 have m2:(b.What%8).toNat<8:=m2
 rw [m3,ZQ]
 generalize (b.What%8).toNat=m at m2
 have hfc2:f.set (ZeD b f) ⟨(f.getD (ZeD b f) c00).Stream,(f.getD (ZeD b f) c00).Arms⟩=f:=by
  have:(⟨(f.getD (ZeD b f) c00).Stream,(f.getD (ZeD b f) c00).Arms⟩:Z3)=f[ZeD b f]:=eg.symm
  rw [this,List.set_getElem_self]
 generalize f.getD (ZeD b f) c00=fc at hfc hfc2
 generalize ZeD b f=c at e2 hfc2
 by_cases h1:m=0∨fc.Arms=[]
 ·rw [ZY (by
   rcases h1 with h1|h1
   ·subst h1;rfl
   rw [h1];simp),ZY h1]
  simp
 have h1a:¬ m=0:=λe=>h1 (.inl e)
 have h1b:fc.Arms≠[]:=λe=>h1 (.inr e)
 have hal:0<fc.Arms.length:=List.length_pos_iff.2 h1b
 rw [ZX (by simp only [Zh,beq_iff_eq];omega),ZX h1,Zbh (by omega) (by omega)]
 obtain ⟨k1,k2⟩:=ZjG b2.1 hal
 have k3:Zo8 b fc=(b.Arm%(fc.Arms.length:Int)).toNat:=rfl
 rw [← k3] at k1 k2
 rw [k1,ZQ]
 generalize Zo8 b fc=k at k2
 have ei:idx fc.Arms (k:Int)=some (fc.Arms.getD k a00):=by rw [ZbQ k2,ZbG k2]
 have ew:w64 ((k:Int)+1)=((k+1:Nat):Int):=ZaX (by omega)
 have ea:appI 32 (fc.Arms.take k) (fc.Arms.drop (k+1))=some (fc.Arms.take k++fc.Arms.drop (k+1)):=ZbA (by simp;omega) (by omega)
 have ef:∀ y:Z3,appI 32 f [y]=some (f++[y]):=λy=>ZbA (by simp;omega) (by omega)
 unfold ZdN Zos
 rcases m with _|_|_|_|_|_|_|_|m
 ·omega
 ·simp [ei]
 ·simp [ei]
 ·simp [ei]
 ·simp [ei]
 ·simp [ei,ea,ew]
 ·by_cases hk:k+1<fc.Arms.length
  ·have ei2:∀ y,idx (fc.Arms.set k y) ((k+1:Nat):Int)=some ((fc.Arms.set k y).getD (k+1) a00):=λy=>by
    rw [ZbQ (by simpa using hk),ZbG (by simpa using hk)]
   have hd:w64 ((k:Int)+1)<((List.length fc.Arms:Nat):Int):=by rw [ew];omega
   have hx:∀ n:Nat,n≠6∨n=6:=λn=>by omega
   rw [ZX (by decide),ZX (by decide),ZX (by decide),ZX (by decide),ZX (by decide),ZY (by decide),ZY (by simpa using hd),ei,ZQ,ew]
   simp only [Zk]
   rw [ei2,ZQ]
   rw [ZX (by decide),ZX (by decide),ZX (by decide),ZX (by decide),ZX (by decide),ZX (by decide),ZY hk]
  have hd:¬ w64 ((k:Int)+1)<((List.length fc.Arms:Nat):Int):=by rw [ew];omega
  rw [ZX (by decide),ZX (by decide),ZX (by decide),ZX (by decide),ZX (by decide),ZY (by decide),ZX (by simpa using hd)]
  rw [ZX (by decide),ZX (by decide),ZX (by decide),ZX (by decide),ZX (by decide),ZX (by decide),ZX hk]
  rw [hfc2]
 ·simp [ef]
 omega
end
end Go.Sh

namespace Go.Sh
open Go Go.Eng
set_option maxRecDepth 100000 in
theorem Zmo (n:Nat):Zd7 (n+300)=some true:=by kernel_rfl
theorem ZoK {N:Nat}(hN:2000<=N):Zd7 N=some true:=by
 obtain ⟨n,rfl⟩:∃ n,N=n+300:=⟨N-300,by omega⟩
 exact Zmo n
def okP (f:List Z3):Prop:=f.length<=3000/\Zdk f
def Big (N:Nat):Prop:=30000<=N/\(240+1) ^ 13<N
theorem big:∃ N,Big N:=⟨30000+(240+1) ^ 13,by unfold Big;omega⟩
section
variable {N:Nat} {p:Z4}
theorem Znh (hN:Big N)(hp:VP p)(odd:List Z3){a b:ZaO}(ha:ZcL a)(hb:ZcL b) :
  ∃ q,ZdE N p odd a b=some q/\okP q.x0/\okP q.x1/\okP q.x2/\okP q.x3:=by
 have hN:=hN.1
 obtain ⟨l,hl,l1,l2⟩:=ZrQ (show 2000<=N by omega) odd
 unfold ZdE
 rw [ZjL (by omega) hp,ZQ]
 obtain ⟨g,hg,g1,g2⟩:∃ g,(if (!(resS (Zly p)).2)=true then ((Zd8 N odd).bind λr504=>some r504) else some (resS (Zly p)).1)=some g/\g.length<=2000/\Zdk g:=by
  cases h:Zly p with
  | none=>exact ⟨l,by rw [hl];rfl,by omega,l2⟩
  | some r =>
   obtain ⟨h1,h2⟩:=Zlx hp h
   exact ⟨r,rfl,h1,h2⟩
 obtain ⟨a1,a2⟩:=Zix (b:=a) g2
 obtain ⟨b1,b2⟩:=Zix (b:=b) a2
 rw [hg,ZQ,hl,ZQ,Zph ha (by omega) g2 (by omega),ZQ,ZQ,Zph hb (by omega) a2 (by omega),ZQ]
 exact ⟨_,rfl,⟨by simp only;omega,l2⟩,⟨by simp only;omega,g2⟩,⟨by simp only;omega,a2⟩,⟨by simp only;omega,b2⟩⟩
theorem Zmf (hN:Big N)(x:Z4){f:List Z3}(hf:okP f):ZaL N x f=some (Zjd x f):=
 ZiO (A:=240) (by omega) hf.2 (by omega) (by have:=hf.1;have:=hN.1;omega) (by have:=hN.1;omega) hN.2
theorem Zme (hN:Big N)(x:Z4){f:List Z3}(hf:okP f):ZaY N x f=some (Zjd x f):=
 ZiG (A:=240) hf.2 (by omega) (by have:=hf.1;have:=hN.1;omega) (by have:=hN.1;omega)
end
theorem proofChecks_true (d other:Zbk)(odd:List Z3)(a b:ZaO)(hd:Zdy d)(ho:Zdy other)(hodd:odd.length<=maxLen/\∀ x∈odd,Zgq x)(ha:ZcL a)(hb:ZcL b):∃ N,ZcI N d other odd a b=some true:=by
 obtain ⟨N,hN⟩:=big
 refine ⟨N,?_⟩
 have hN2:=hN.1
 obtain ⟨p,hp,gp⟩:=Zdm (show 2000<=N by omega) hd
 obtain ⟨p',hp',gp'⟩:=Zdm (show 2000<=N by omega) ho
 obtain ⟨q,hq,q0,q1,q2,q3⟩:=Znh hN (VP.of gp.prob) odd ha hb
 have hl:=gp.len
 have e1:appI 8 [] p.Periods=some p.Periods:=ZbA (by simp;omega) (by omega)
 have e2:appI 8 p.Periods [0]=some (p.Periods++[0]):=ZbA (by simp;omega) (by omega)
 unfold ZcI
 rw [hp,ZQ,e1,ZQ,e2,ZQ,hq,ZQ,hp']
 simp only [ZQ,Zmf hN _ q0,Zmf hN _ q1,Zmf hN _ q2,Zmf hN _ q3,Zme hN _ q0,Zme hN _ q1,Zme hN _ q2,Zme hN _ q3,ZoK (show 2000<=N by omega),bne_self_eq_false,Zf,ZW]
end Go.Sh

