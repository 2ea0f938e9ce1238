/- Part of the proof. -/
import Derived.Test.YtddgnfnfojoljaaProofMadeBase
import Derived.Test.YtddgnfnfojoljaaProofMadeRd
import Derived.KernelRfl
set_option linter.all false
namespace Go.Sh
open Go Go.Eng
section
variable {N:Nat} {p:Z5}
def Zla (p:Z5):Option (List Z4):=if p.Periods.length=0 then none else Zg4 p p.Periods.length [] []
theorem Zjp (hN:3000<=N)(hp:VP p):Zd9 N p=some (resS (Zla p)):=by
 unfold Zd9 Zla
 by_cases h:p.Periods.length=0
 ·rw [Z0 (by simpa using h),Z0 h];rfl
 have hP:=hp.len
 rw [ZZ (by simpa using h),ZZ h]
 have:=Znk hp p.Periods.length (N-p.Periods.length-1) [] [] (by omega) (by simp) (by simp) (by simp) (by intro y hy;cases hy)
 rw [show N-p.Periods.length-1+p.Periods.length+1=N by omega] at this
 rw [this]
 rfl
theorem ZhV (hp:VP p){r:List Z4}(h:Zla p=some r):r.length<=2000/\Zdf r:=by
 unfold Zla at h
 split at h
 ·cases h
 obtain ⟨_,h1,h2⟩:=Zg7 hp p.Periods.length [] [] r (by simp) (by intro y hy;cases hy) h
 exact ⟨h1,h2⟩
def ZdN (b:Zbe)(f:List Z4):Nat:=(b.Choice%(f.length:Int)).toNat
def Znz (b:Zbe)(fc:Z4):Nat:=(b.Arm%(fc.Arms.length:Int)).toNat
def ZnB (b:Zbe)(k m:Nat)(l:List Zak):List Zak :=
 if m=1 then l.set k { l.getD k a00 with From:=b.N_ }
 else if m=2 then l.set k { l.getD k a00 with To:=b.N_ }
 else if m=3 then l.set k { l.getD k a00 with By:=b.N_ }
 else if m=4 then l.set k { l.getD k a00 with Next:=b.N_ }
 else if m=5 then l.take k++l.drop (k+1)
 else if k+1<l.length then (l.set k { l.getD k a00 with To:=b.N_ }).set (k+1) { (l.set k { l.getD k a00 with To:=b.N_ }).getD (k+1) a00 with From:=b.N_ } else l
def ZjK (b:Zbe)(f:List Z4):List Z4 :=
 if f=[] then f
 else if (b.What%8).toNat=0∨(f.getD (ZdN b f) c00).Arms=[] then f.set (ZdN b f) ⟨b.N_,(f.getD (ZdN b f) c00).Arms⟩
 else if (b.What%8).toNat=7 then f++[f.getD (ZdN b f) c00]
 else f.set (ZdN b f) ⟨(f.getD (ZdN b f) c00).Stream,ZnB b (Znz b (f.getD (ZdN b f) c00)) (b.What%8).toNat (f.getD (ZdN b f) c00).Arms⟩
theorem ZnA (b:Zbe)(k m:Nat)(l:List Zak):(ZnB b k m l).length<=l.length:=by
 unfold ZnB
 repeat' split
 all_goals first|(simp;done)|(simp;omega)|omega
theorem Zlr {b:Zbe}{f:List Z4}(h:Zdf f):(ZjK b f).length<=f.length+1/\Zdf (ZjK b f):=by
 have hg:∀ c,(f.getD c c00).Arms.length<=240:=λc=>by
  by_cases e:c<f.length
  ·rw [Za5 e];exact h _ (List.getElem_mem e)
  rw [Zq,Zx (by omega)];simp [c00]
 unfold ZjK
 split
 ·exact ⟨by omega,h⟩
 split
 ·exact ⟨by simp,h.set (hg _)⟩
 split
 ·refine ⟨by simp,λy hy=>?_⟩
  rcases List.mem_append.1 hy with hy|hy
  ·exact h y hy
  simp only [ZN] at hy
  subst hy
  exact hg _
 exact ⟨by simp,h.set (Nat.le_trans (ZnA _ _ _ _) (hg _))⟩
theorem ZoQ (f:List Z4)(hf:f.length<=10000)(hs:Zdf f)(hN:20000<=N):ZaS (λx:Int×List Z4=>Zbn f x.1 x.2) N (0,[])=some f:=by
 obtain ⟨r,hr,e⟩:=ZcX (body:=λx:Int×List Z4=>Zbn f x.1 x.2) (λx=>∃ k:Nat,x.1=k/\k<=f.length/\x.2=f.take k) (λx=>(f.length+1-x.1).toNat) (λl=>l=f) (λx hx=>by
  obtain ⟨i,l⟩:=x
  obtain ⟨k,rfl,k1,k2⟩:=hx
  simp only at k2 ⊢
  subst k2
  simp only [Zbn]
  by_cases c:k<f.length
  ·left
   have h1:=hs _ (List.getElem_mem c)
   have e1:appI 32 [] f[k].Arms=some ([]++f[k].Arms):=ZbQ (by simp;omega) (by omega)
   have e2:∀ y:Z4,appI 32 (f.take k) [y]=some (f.take k++[y]):=λy=>ZbQ (by simp;omega) (by omega)
   rw [Z0 (by simpa using c),Zcn c,ZS,e1,ZS,e2,ZS,Zbj (by omega)]
   refine ⟨_,rfl,⟨k+1,rfl,by omega,?_⟩,by simp only;omega⟩
   simp only [ZO]
   rw [List.take_succ,Zw c]
   rfl
  right
  exact ⟨_,by rw [ZZ (by simpa using c)],by rw [List.take_of_length_le (by omega)]⟩) N (0,[]) ⟨0,rfl,by omega,by simp⟩ (by simp only;omega)
 rw [hr,e]
theorem u8 {x:Int}(h:InK .u8 x):0<=x/\x<=255:=h.u8
theorem Ze0 {a:Int}{n:Nat}(h0:0<=a)(hn:0<n):remI a (n:Int)=some (((a%(n:Int)).toNat:Nat):Int)/\(a%(n:Int)).toNat<n:=by
 have h1:=Int.emod_nonneg a (show (n:Int)≠0 by omega)
 have h2:=Int.emod_lt_of_pos a (show (0:Int)<n by omega)
 refine ⟨?_,by omega⟩
 rw [ZbJ (by omega),Zj h0]
 congr 1
 omega
theorem Zq1 {b:Zbe}(hb:Zf7 b){f:List Z4}(hf:f.length<=10000)(hs:Zdf f)(hN:20000<=N):ZcW N b f=some (ZjK b f):=by
 obtain ⟨b1,b2,b3,b4⟩:=hb
 have b1:=u8 b1
 have b2:=u8 b2
 have b3:=u8 b3
 unfold ZcW ZjK
 rw [ZoQ f hf hs hN,ZS]
 by_cases h0:f=[]
 ·subst h0;rfl
 have hl:0<f.length:=List.length_pos_iff.2 h0
 rw [ZZ (by simpa using h0),ZZ h0,Za9 (by omega) (by omega)]
 obtain ⟨e1,e2⟩:=Ze0 b1.1 hl
 have e3:ZdN b f=(b.Choice%(f.length:Int)).toNat:=rfl
 rw [← e3] at e1 e2
 rw [e1,ZS,Zcn e2,ZS]
 have eg:f[ZdN b f]=f.getD (ZdN b f) c00:=(Za5 e2 _).symm
 rw [eg]
 have hfc:(f.getD (ZdN b f) c00).Arms.length<=240:=by rw [← eg];exact hs _ (List.getElem_mem e2)
 obtain ⟨m1,m2⟩:=Ze0 (n:=8) b3.1 (by omega)
 have m3:remI b.What 8=some (((b.What%8).toNat:Nat):Int):=m1
 have m2:(b.What%8).toNat<8:=m2
 rw [m3,ZS]
 generalize (b.What%8).toNat=m at m2
 have hfc2:f.set (ZdN b f) ⟨(f.getD (ZdN b f) c00).Stream,(f.getD (ZdN b f) c00).Arms⟩=f:=by
  have:(⟨(f.getD (ZdN b f) c00).Stream,(f.getD (ZdN b f) c00).Arms⟩:Z4)=f[ZdN b f]:=eg.symm
  rw [this,List.set_getElem_self]
 generalize f.getD (ZdN b f) c00=fc at hfc hfc2
 generalize ZdN b f=c at e2 hfc2
 by_cases h1:m=0∨fc.Arms=[]
 ·rw [Z0 (by
   rcases h1 with h1|h1
   ·subst h1;rfl
   rw [h1];simp),Z0 h1]
  simp
 have h1a:¬ m=0:=λe=>h1 (.inl e)
 have h1b:fc.Arms≠[]:=λe=>h1 (.inr e)
 have hal:0<fc.Arms.length:=List.length_pos_iff.2 h1b
 rw [ZZ (by simp only [Zh,beq_iff_eq];omega),ZZ h1,Za9 (by omega) (by omega)]
 obtain ⟨k1,k2⟩:=Ze0 b2.1 hal
 have k3:Znz b fc=(b.Arm%(fc.Arms.length:Int)).toNat:=rfl
 rw [← k3] at k1 k2
 rw [k1,ZS]
 generalize Znz b fc=k at k2
 have ei:idx fc.Arms (k:Int)=some (fc.Arms.getD k a00):=by rw [Zcn k2,Za5 k2]
 have ew:w64 ((k:Int)+1)=((k+1:Nat):Int):=Zbj (by omega)
 have ea:appI 32 (fc.Arms.take k) (fc.Arms.drop (k+1))=some (fc.Arms.take k++fc.Arms.drop (k+1)):=ZbQ (by simp;omega) (by omega)
 have ef:∀ y:Z4,appI 32 f [y]=some (f++[y]):=λy=>ZbQ (by simp;omega) (by omega)
 unfold Zdu ZnB
 rcases m with _|_|_|_|_|_|_|_|m
 ·omega
 ·simp [ei]
 ·simp [ei]
 ·simp [ei]
 ·simp [ei]
 ·simp [ei,ea,ew]
 ·by_cases hk:k+1<fc.Arms.length
  ·have ei2:∀ y,idx (fc.Arms.set k y) ((k+1:Nat):Int)=some ((fc.Arms.set k y).getD (k+1) a00):=λy=>by
    rw [Zcn (by simpa using hk),Za5 (by simpa using hk)]
   have hd:w64 ((k:Int)+1)<((List.length fc.Arms:Nat):Int):=by rw [ew];omega
   have hx:∀ n:Nat,n≠6∨n=6:=λn=>by omega
   rw [ZZ (by decide),ZZ (by decide),ZZ (by decide),ZZ (by decide),ZZ (by decide),Z0 (by decide),Z0 (by simpa using hd),ei,ZS,ew]
   simp only [Zk]
   rw [ei2,ZS]
   rw [ZZ (by decide),ZZ (by decide),ZZ (by decide),ZZ (by decide),ZZ (by decide),ZZ (by decide),Z0 hk]
  have hd:¬ w64 ((k:Int)+1)<((List.length fc.Arms:Nat):Int):=by rw [ew];omega
  rw [ZZ (by decide),ZZ (by decide),ZZ (by decide),ZZ (by decide),ZZ (by decide),Z0 (by decide),ZZ (by simpa using hd)]
  rw [ZZ (by decide),ZZ (by decide),ZZ (by decide),ZZ (by decide),ZZ (by decide),ZZ (by decide),ZZ hk]
  rw [hfc2]
 ·simp [ef]
 omega
end
end Go.Sh

namespace Go.Sh
open Go Go.Eng
section
variable {N:Nat} {p:Z5} {f:List Z4}
theorem ZfG {σ:Type}{step step':Nat->σ->Option σ}:∀ {n:Nat} {s:σ},(∀ k,k<n->step k=step' k)->upF step n s=upF step' n s
 | 0,_,_=>rfl
 | n+1,s,h=>by
  simp only [upF]
  rw [ZfG (n:=n) λk hk=>h k (by omega),h n (by omega)]
theorem Zi6 {σ:Type}{step step':Nat->σ->Option σ}(h:∀ k s s',step k s=some s'->step' k s=some s'):∀ {n:Nat} {s0 s:σ},upF step n s0=some s->upF step' n s0=some s
 | 0,_,_,e=>e
 | n+1,s0,s,e=>by
  simp only [upF] at e ⊢
  obtain ⟨s1,h1,h2⟩:=bind_some e
  rw [Zi6 h h1,ZS]
  exact h _ _ _ h2
theorem ZiW {nP len c per:Int}{l:List Zak}{k:Nat}(hk:k<l.length){e e':Int}(h:ZaQ nP len c per l k e=some e'):Zer nP len c per e l[k]=true/\e'=l[k].To:=by
 unfold ZaQ at h
 rw [Zw hk,ZS] at h
 split at h
 ·rename_i hok
  cases h
  exact ⟨hok,rfl⟩
 cases h
theorem ZnG {nP len c per:Int}{l:List Zak}(hp:1<=per)(h:Zd6 nP len c per l=true):l≠[]:=λe=>by
 subst e
 unfold Zd6 at h
 simp only [upF,ZF,beq_iff_eq] at h
 omega
theorem Zmv {nP len c per:Int}{l:List Zak}(h:Zd6 nP len c per l=true){k:Nat}(hk:k<l.length):Zd6 nP len c per (l.take k++l.drop (k+1))=false:=by
 unfold Zd6 at h
 cases hu:upF (ZaQ nP len c per l) l.length 0 with
 | none=>rw [hu] at h;cases h
 | some e =>
  rw [hu] at h
  simp only [beq_iff_eq] at h
  obtain ⟨s1,s2,h1,h2⟩:=Zhi hu k hk
  obtain ⟨h3,h4⟩:=ZiW hk h2
  obtain ⟨o1,o2,o3,_⟩:=ZcG h3
  have hlen:(l.take k++l.drop (k+1)).length=l.length-1:=by simp;omega
  have hst:∀ j,j<k->ZaQ nP len c per (l.take k++l.drop (k+1)) j=ZaQ nP len c per l j:=λj hj=>by
   funext e
   unfold ZaQ
   rw [Zr (by simp;omega),List.getElem?_take_of_lt hj]
  have hk1:upF (ZaQ nP len c per (l.take k++l.drop (k+1))) k 0=some s1:=by rw [ZfG hst,h1]
  unfold Zd6
  rw [hlen]
  by_cases c1:k+1=l.length
  ·have e1:l.length-1=k:=by omega
   rw [e1,hk1]
   simp only
   have:s2=e:=by
    rw [← c1] at hu
    simp only [upF] at hu
    rw [h1,ZS,h2] at hu
    exact Option.some.inj hu
   rw [beq_eq_false_iff_ne]
   omega
  have c2:k+1<l.length:=by omega
  obtain ⟨t1,t2,g1,g2⟩:=Zhi hu (k+1) c2
  have:t1=s2:=by
   simp only [upF] at g1
   rw [h1,ZS,h2] at g1
   exact (Option.some.inj g1).symm
  subst this
  obtain ⟨h5,h6⟩:=ZiW c2 g2
  obtain ⟨q1,_,_,_⟩:=ZcG h5
  have hn:upF (ZaQ nP len c per (l.take k++l.drop (k+1))) (k+1) 0=none:=by
   simp only [upF]
   rw [hk1,ZS]
   unfold ZaQ
   rw [Zs (by simp;omega)]
   have e1:k-(l.take k).length=0:=by simp;omega
   rw [e1,Zv,Nat.add_zero,Zw c2,ZS,ZZ]
   intro hc
   have:=(ZcG hc).1
   omega
  rw [Zlz hn _ (by omega)]
theorem ZgF (h:∃ c,c<f.length/\ZaU p f c=false):Zen p f=false:=by
 obtain ⟨c,hc,h⟩:=h
 cases hf:Zen p f with
 | false=>rfl
 | true =>
  rw [(ZeT hf).2.2 c hc] at h
  cases h
theorem ZiM (hp:VP p)(h:Zen p f=true){c:Nat}(hc:c<f.length):f[c].Arms≠[]:=by
 obtain ⟨_,h0,h1,h2⟩:=Zc9 ((ZeT h).2.2 c hc)
 obtain ⟨s,hs⟩:∃ s:Nat,f[c].Stream=s:=⟨f[c].Stream.toNat,by omega⟩
 rw [hs,Zk] at h2
 have hsl:s<p.Periods.length:=by omega
 refine ZnG ?_ h2
 rw [Za5 hsl]
 exact (hp.per _ (List.getElem_mem hsl)).1
theorem Zny (hp:VP p)(h:Zen p f=true){c k:Int}(hc:0<=c)(hk:0<=k):Zen p (ZjK ⟨c,k,5,0⟩ f)=false:=by
 obtain ⟨h1,h2,hall⟩:=ZeT h
 have hne:f≠[]:=λe=>by subst e;simp at h1
 obtain ⟨_,hcl⟩:=Ze0 hc (show 0<f.length by omega)
 have ec:ZdN ⟨c,k,5,0⟩ f=(c%(f.length:Int)).toNat:=rfl
 rw [← ec] at hcl
 unfold ZjK
 rw [ZZ hne]
 generalize ZdN ⟨c,k,5,0⟩ f=m at hcl
 have ha:=ZiM hp h hcl
 rw [Za5 hcl]
 have e5:((5:Int)%8).toNat=5:=rfl
 simp only [e5]
 rw [ZZ (by intro e;rcases e with e|e;cases e;exact ha e),ZZ (by decide)]
 obtain ⟨_,hkl⟩:=Ze0 hk (List.length_pos_iff.2 ha)
 have ek:Znz ⟨c,k,5,0⟩ f[m]=(k%(f[m].Arms.length:Int)).toNat:=rfl
 rw [← ek] at hkl
 generalize Znz ⟨c,k,5,0⟩ f[m]=j at hkl
 have eb:ZnB ⟨c,k,5,0⟩ j 5 f[m].Arms=f[m].Arms.take j++f[m].Arms.drop (j+1):=rfl
 rw [eb]
 obtain ⟨_,_,_,h5⟩:=Zc9 (hall m hcl)
 refine ZgF ⟨m,by rw [ZG];exact hcl,?_⟩
 unfold ZaU
 rw [List.getElem?_set_self hcl]
 simp only [ZG]
 rw [Zmv h5 hkl,Bool.and_false]
def cntA (as:List Zak)(m:Nat):Nat:=as.countP λa=>a.By == -1&&a.Next==(m:Int)
def cntC (f:List Z4)(m:Nat):Nat:=(f.map λx=>cntA x.Arms m).sum
theorem Zcy (a b:List Z4)(m:Nat):cntC (a++b) m=cntC a m+cntC b m:=by simp [cntC]
theorem ZfZ (x:Z4)(m:Nat):cntC [x] m=cntA x.Arms m:=by simp [cntC]
theorem ZkH {m:Nat}:∀ {f:List Z4},(∀ x∈f,cntA x.Arms m=0)->cntC f m=0
 | [],_=>rfl
 | x::f,h=>by
  have h1:=ZkH (f:=f) (m:=m) λy hy=>h y (by simp [hy])
  have h2:=h x (by simp)
  rw [show x::f=[x]++f from rfl,Zcy,ZfZ]
  omega
theorem ZkJ {nP len c:Int}{m:Nat}:∀ {as:List Zak} {l:List Int},(∀ a∈as,Zbm nP len c a=true)->0<=c->(l.length:Int)=len->m<l.length->0<=l.getD m 0->l.getD m 0+as.length<=1000000000->(as.foldl bump l).getD m 0=l.getD m 0+cntA as m
 | [],l,_,_,_,_,_,_=>by simp [cntA]
 | a::as,l,h,h0,hl,hm,hn,hb=>by
  rw [List.foldl_cons]
  have ha:=h a (by simp)
  have hb':(bump l a).getD m 0=l.getD m 0+(if a.By = -1/\a.Next=(m:Int) then 1 else 0):=by
   unfold bump
   by_cases e:a.By = -1
   ·unfold Zbm at ha
    rw [Z0 e,ZX] at ha
    rw [Z0 e]
    by_cases d:a.Next=(m:Int)
    ·rw [d,Zk,Z0 ⟨e,rfl⟩]
     rw [ZD] at hb
     rw [Zco _ _ hm,Za9 (by omega) (by omega)]
    rw [ZZ (λq=>d q.2)]
    rw [Zq,ZA (by omega),← Zq]
    omega
   rw [ZZ e,ZZ (λq=>e q.1)]
   omega
  rw [ZD] at hb
  rw [ZkJ (nP:=nP) (len:=len) (c:=c) (λb hb=>h b (by simp [hb])) h0 (by rw [ZjJ];exact hl) (by rw [ZjJ];exact hm) (by rw [hb'];split<;>omega) (by rw [hb'];split<;>omega),hb']
  unfold cntA
  rw [List.countP_cons]
  by_cases e:a.By = -1/\a.Next=(m:Int)
  ·rw [Z0 e,Z0 (by simp [e.1,e.2])]
   omega
  rw [ZZ e,ZZ (by simpa using e)]
  omega
theorem Zkq {m:Nat}(hs:Zdf f)(hfl:f.length<=2000)(hall:∀ c,c<f.length->ZaU p f c=true)(hm:m<f.length):∀ {k:Nat},k<=f.length->(Zdl f k (List.replicate f.length 0)).getD m 0=cntC (f.take k) m/\cntC (f.take k) m<=240*k
 | 0,_=>by
  simp [Zdl,cntC,Zq,List.getElem?_replicate,hm]
 | k+1,hk=>by
  obtain ⟨ih,ih2⟩:=Zkq hs hfl hall hm (k:=k) (by omega)
  have hkl:k<f.length:=by omega
  obtain ⟨_,_,_,h5⟩:=Zc9 (hall k hkl)
  have hsm:=hs _ (List.getElem_mem hkl)
  have ht:cntC (f.take (k+1)) m=cntC (f.take k) m+cntA f[k].Arms m:=by
   rw [List.take_add_one,Zw hkl,Option.toList_some,Zcy,ZfZ]
  have hc:cntA f[k].Arms m<=f[k].Arms.length:=List.countP_le_length
  simp only [Zdl,Zmr]
  rw [Zw hkl]
  simp only
  have hln:(Zdl f k (List.replicate f.length 0)).length=f.length:=by rw [ZdC];simp
  rw [ZkJ (nP:=p.Periods.length) (len:=f.length) (c:=k) (ZeW h5) (by omega) (by rw [hln]) (by rw [hln];exact hm) (by rw [ih];omega) (by rw [ih];omega),ih,ht]
  exact ⟨by omega,by omega⟩
theorem ZkE (hs:Zdf f):Zen p f=true↔(1<=f.length/\f.length<=2000)/\(∀ c,c<f.length->ZaU p f c=true)/\∀ m,1<=m->m<f.length->cntC f m=1:=by
 unfold Zen
 simp only [Ze,ZX]
 rw [and_assoc]
 refine and_congr_right λh1=>?_
 rw [ZcY]
 refine and_congr_right λhall=>?_
 have hg:∀ m,m<f.length->(Zdl f f.length (List.replicate f.length 0)).getD m 0=cntC f m:=λm hm=>by
  have:=(Zkq hs h1.2 hall hm (k:=f.length) (Nat.le_refl _)).1
  rwa [List.take_length] at this
 have hln:(Zdl f f.length (List.replicate f.length 0)).length=f.length:=by rw [ZdC];simp
 rw [Zm]
 constructor
 ·intro h m m1 m2
  have h2:=h ((Zdl f f.length (List.replicate f.length 0)).getD m 0) (by
   rw [Za5 (by omega)]
   rw [List.mem_drop_iff_getElem]
   exact ⟨m-1,by omega,by congr 1;omega⟩)
  rw [hg m m2,beq_iff_eq] at h2
  omega
 intro h x hx
 rw [List.mem_drop_iff_getElem] at hx
 obtain ⟨i,hi,rfl⟩:=hx
 have h2:=hg (i+1) (by omega)
 rw [Za5 (by omega)] at h2
 have h3:=h (i+1) (by omega) (by omega)
 rw [beq_iff_eq]
 have e:(Zdl f f.length (List.replicate f.length 0))[1+i]'(by omega)=(Zdl f f.length (List.replicate f.length 0))[i+1]'(by omega):=by congr 1;omega
 rw [e,h2,h3]
 rfl
theorem Znd (hs:Zdf f)(h:Zen p f=true):Zen p (f.take (f.length-1))=false:=by
 obtain ⟨⟨h1,h2⟩,hall,hcnt⟩:=(ZkE hs).1 h
 by_cases e:f.length=1
 ·rw [e]
  unfold Zen
  simp
 have hc:=hcnt (f.length-1) (by omega) (by omega)
 have hex:∃ c,∃ hc:c<f.length,cntA f[c].Arms (f.length-1)≠0:=Classical.byContradiction λhn=>by
  have:cntC f (f.length-1)=0:=ZkH λy hy=>by
   obtain ⟨c,hc,rfl⟩:=List.getElem_of_mem hy
   exact Classical.byContradiction λq=>hn ⟨c,hc,q⟩
  omega
 obtain ⟨c,hcl,hne⟩:=hex
 obtain ⟨a,ha,hab⟩:=List.countP_pos_iff.1 (Nat.pos_of_ne_zero hne)
 simp only [Ze,beq_iff_eq] at hab
 obtain ⟨_,_,_,h5⟩:=Zc9 (hall c hcl)
 have hr:=ZeW h5 a ha
 unfold Zbm at hr
 rw [Z0 hab.1,ZX] at hr
 have hcl2:c<f.length-1:=by omega
 refine ZgF ⟨c,by simp;omega,?_⟩
 unfold ZaU
 rw [List.getElem?_take_of_lt hcl2,Zw hcl]
 simp only
 have hl:(f.take (f.length-1)).length=f.length-1:=by simp
 rw [hl]
 cases hb:Zd6 p.Periods.length ((f.length-1:Nat):Int) c (p.Periods.getD f[c].Stream.toNat 0) f[c].Arms with
 | false=>rw [Bool.and_false]
 | true =>
  have hr2:=ZeW hb a ha
  unfold Zbm at hr2
  rw [Z0 hab.1,ZX] at hr2
  omega
end
end Go.Sh

namespace Go.Sh
open Go Go.Eng
section
variable {p:Z5}
theorem Zj6 {nP L L' c:Int}{a:Zak}(hL:L<=L')(h:Zbm nP L c a=true):Zbm nP L' c a=true:=by
 unfold Zbm at h ⊢
 split
 ·rename_i hb
  rw [Z0 hb,ZX] at h
  rw [ZX]
  omega
 rename_i hb
 rw [ZZ hb] at h
 exact h
theorem Zmx {nP L L' c per e:Int}{a:Zak}(hL:L<=L')(h:Zer nP L c per e a=true):Zer nP L' c per e a=true:=by
 unfold Zer at h ⊢
 rw [Ze] at h ⊢
 exact ⟨h.1,Zj6 hL h.2⟩
theorem ZgM {nP L L' c per:Int}{l:List Zak}(hL:L<=L')(k:Nat)(e e':Int)(h:ZaQ nP L c per l k e=some e'):ZaQ nP L' c per l k e=some e':=by
 unfold ZaQ at h ⊢
 cases hk:l[k]? with
 | none=>rw [hk] at h;cases h
 | some a =>
  rw [hk,ZS] at h
  rw [ZS]
  split at h
  ·rename_i hok
   rw [Z0 (Zmx hL hok)]
   exact h
  cases h
theorem Zmu {nP L L' c per:Int}{l:List Zak}(hL:L<=L')(h:Zd6 nP L c per l=true):Zd6 nP L' c per l=true:=by
 unfold Zd6 at h ⊢
 cases hu:upF (ZaQ nP L c per l) l.length 0 with
 | none=>rw [hu] at h;cases h
 | some e =>
  rw [hu] at h
  rw [Zi6 (ZgM hL) hu]
  exact h
theorem Zln {s r:List Z4}{d:Nat}(h:s <+: r)(hd:ZaU p s d=true):ZaU p r d=true:=by
 obtain ⟨hc,_⟩:=Zc9 hd
 have hl:=h.length_le
 have hc':d<r.length:=by omega
 have e:r[d]=s[d]:=by
  obtain ⟨t,rfl⟩:=h
  exact List.getElem_append_left hc
 rw [ZcE hc,Ze] at hd
 rw [ZcE hc',e,Ze]
 exact ⟨hd.1,Zmu (by omega) hd.2⟩
theorem Zlm {s:List Z4}{c d:Nat}(y:Z4)(h:d≠c):ZaU p (s.set c y) d=ZaU p s d:=by
 unfold ZaU
 rw [ZA (Ne.symm h),ZG]
theorem Zie {nP L c per e:Int}{l:List Zak}{a:Zak}(h:upF (ZaQ nP L c per l) l.length 0=some e)(ha:Zer nP L c per e a=true):upF (ZaQ nP L c per (l++[a])) (l++[a]).length 0=some a.To:=by
 rw [ZC,ZH]
 simp only [upF]
 rw [ZfG (step':=ZaQ nP L c per l) (λk hk=>by
  funext e
  unfold ZaQ
  rw [Zr hk]),h,ZS]
 unfold ZaQ
 rw [Zs (Nat.le_refl _),Nat.sub_self]
 simp only [Zu,ZS]
 rw [Z0 ha]
theorem ZnE {nP L c per e:Int}{l:List Zak}{a:Zak}(h:upF (ZaQ nP L c per (l++[a])) (l++[a]).length 0=some e):∃ e0,upF (ZaQ nP L c per l) l.length 0=some e0/\Zer nP L c per e0 a=true/\e=a.To:=by
 rw [ZC,ZH] at h
 simp only [upF] at h
 rw [ZfG (step':=ZaQ nP L c per l) (λk hk=>by
  funext e
  unfold ZaQ
  rw [Zr hk])] at h
 obtain ⟨e0,h1,h2⟩:=bind_some h
 unfold ZaQ at h2
 rw [Zs (Nat.le_refl _),Nat.sub_self] at h2
 simp only [Zu,ZS] at h2
 split at h2
 ·rename_i hok
  cases h2
  exact ⟨e0,h1,hok,rfl⟩
 cases h2
inductive HV (p:Z5) (s:List Z4):Nat->Z8->Prop
 | mk {c:Nat} {g:Z8} {ch:Z4} (hc:s[c]?=some ch) (hg:g.l.getD ch.Stream.toNat 0 = -1) (h1:∀ a∈ch.Arms,a.By = -1->c<a.Next.toNat) (h2:∀ a∈ch.Arms,a.By = -1->HV p s a.Next.toNat (g.set ch.Stream.toNat a.From))
   (h3:∀ a∈ch.Arms,a.By ≠ -1->0<=a.By->refB p ch.Stream.toNat g a=true):HV p s c g
theorem HV.ext {s s':List Z4}{c:Nat}{g:Z8}(h:HV p s c g):(∀ d y,c<=d->s[d]?=some y->s'[d]?=some y)->HV p s' c g:=by
 induction h with
 | mk hc hg h1 h2 h3 ih =>
  intro he
  exact .mk (he _ _ (Nat.le_refl _) hc) hg h1 (λa ha hb=>ih a ha hb λd y hd=>he d y (by have:=h1 a ha hb;omega)) h3
theorem HV.hB {s:List Z4}:∀ {n c:Nat} {g:Z8},HV p s c g->s.length<=c+n->hB p s n c g=true
 | 0,c,g,h,hn=>by
  cases h with
  | mk hc=>have:=(List.getElem?_eq_some_iff.1 hc).1;omega
 | n+1,c,g,h,hn=>by
  cases h with
  | mk hc hg h1 h2 h3 =>
   simp only [Go.Sh.hB]
   rw [hc]
   simp only [Ze,beq_iff_eq]
   refine ⟨hg,List.all_eq_true.2 λa ha=>?_⟩
   unfold armH
   by_cases hb:a.By = -1
   ·rw [Z0 hb]
    exact (h2 a ha hb).hB (by have:=h1 a ha hb;omega)
   rw [ZZ hb]
   by_cases h0:0<=a.By
   ·rw [Z0 h0];exact h3 a ha hb h0
   rw [ZZ h0]
def GA (given:List Int)(g:Z8):Prop:=∀ k,k<12->g.l.getD k 0=if k<given.length then given.getD k 0 else -1
theorem GA.snoc {given:List Int}{g:Z8}(h:GA given g)(hl:given.length<12)(x:Int):GA (given++[x]) (g.set given.length x):=λk hk=>by
 rw [Zf3 g _ k _ hl]
 by_cases e:k=given.length
 ·subst e
  rw [Z0 rfl,Z0 (by simp)]
  simp [Zq]
 rw [ZZ e,h k hk]
 by_cases c:k<given.length
 ·rw [Z0 c,Z0 (by simp;omega)]
  simp [Zq,Zr c]
 rw [ZZ c,ZZ (by simp;omega)]
structure GS (p:Z5) (f:List Z4) (given:List Int) (r:List Z4):Prop where
 pre:f <+: r
 lt:f.length<r.length
 ch:∀ d,f.length<=d->d<r.length->ZaU p r d=true
 nm:∀ m,cntC r m=cntC f m+if f.length<m/\m<r.length then 1 else 0
 hv:∀ g,GA given g->HV p r f.length g
structure GL (p:Z5) (f:List Z4) (given:List Int) (x:Nat) (s:List Z4):Prop where
 pre:f <+: s
 lt:f.length<s.length
 st:(s.getD f.length c00).Stream=given.length
 ch:∀ d,f.length<d->d<s.length->ZaU p s d=true
 nm:∀ m,cntC s m=cntC f m+if f.length<m/\m<s.length then 1 else 0
 arms:upF (ZaQ p.Periods.length s.length f.length (p.Periods.getD given.length 0) (s.getD f.length c00).Arms) (s.getD f.length c00).Arms.length 0=some (x:Int)
 hv:∀ g,GA given g->∀ a∈(s.getD f.length c00).Arms,(a.By = -1->f.length<a.Next.toNat/\HV p s a.Next.toNat (g.set given.length a.From))/\(a.By ≠ -1->0<=a.By->refB p given.length g a=true)
theorem Zoh {s:List Z4}{c:Nat}(hc:c<s.length)(y:Z4)(m:Nat):cntC (s.set c y) m+cntA (s.getD c c00).Arms m=cntC s m+cntA y.Arms m:=by
 have e1:s=s.take c++([s.getD c c00]++s.drop (c+1)):=by
  rw [Za5 hc]
  simp
 have e2:s.set c y=s.take c++([y]++s.drop (c+1)):=by
  rw [List.set_eq_take_append_cons_drop,Z0 hc]
  rfl
 have h1:cntC s m=cntC (s.take c) m+(cntA (s.getD c c00).Arms m+cntC (s.drop (c+1)) m):=by
  conv=>lhs;rw [e1]
  rw [Zcy,Zcy,ZfZ]
 rw [e2,Zcy,Zcy,ZfZ]
 omega
theorem GL.put {f:List Z4}{given:List Int}{x:Nat}{s:List Z4}{r:List Z4}{l:List Zak}{x':Nat}(hsr:s <+: r)(h:GL p f given x s)
  (hch:∀ d,s.length<=d->d<r.length->ZaU p r d=true)
  (hnm:∀ m,cntC r m+cntA l m=cntC f m+cntA (s.getD f.length c00).Arms m+if f.length<m/\m<r.length then 1 else 0)
  (harms:upF (ZaQ p.Periods.length r.length f.length (p.Periods.getD given.length 0) l) l.length 0=some (x':Int))
  (hhv:∀ g,GA given g->∀ a∈l,(a.By = -1->f.length<a.Next.toNat/\HV p r a.Next.toNat (g.set given.length a.From))/\(a.By ≠ -1->0<=a.By->refB p given.length g a=true)) :
  GL p f given x' (r.set f.length ⟨(r.getD f.length c00).Stream,l⟩):=by
 have hl:=hsr.length_le
 have hlr:f.length<r.length:=by have:=h.lt;omega
 have eg:r.getD f.length c00=s.getD f.length c00:=ZfO c00 hsr h.lt
 exact
  {pre:=ZlL _ (h.pre.trans hsr) (Nat.le_refl _)
   lt:=by rw [ZG];exact hlr
   st:=by rw [Zco _ _ hlr,eg];exact h.st
   ch:=λd h1 h2=>by
    rw [ZG] at h2
    rw [Zlm _ (by omega)]
    by_cases c:d<s.length
    ·exact Zln hsr (h.ch d h1 c)
    exact hch d (by omega) h2
   nm:=λm=>by
    have h1:=Zoh hlr ⟨(r.getD f.length c00).Stream,l⟩ m
    have h2:=hnm m
    rw [eg] at h1
    simp only at h1
    rw [ZG]
    rw [eg]
    omega
   arms:=by rw [Zco _ _ hlr,ZG];exact harms
   hv:=λg hg a ha=>by
    rw [Zco _ _ hlr] at ha
    obtain ⟨h1,h2⟩:=hhv g hg a ha
    refine ⟨λhb=>⟨(h1 hb).1,(h1 hb).2.ext λd y hd hy=>?_⟩,h2⟩
    have:=(h1 hb).1
    rw [ZA (by omega)]
    exact hy }
theorem Zol (given:List Int)(c x:Nat):(bS p given c x = -2/\c=0/\0<x)∨bS p given c x = -1∨∃ j:Nat,bS p given c x=j/\j<=given.length/\Zcx p given.length x j ((given++[(x:Int)]).getD j 0)=true:=by
 unfold bS
 by_cases h:c=0/\0<x
 ·left;rw [Z0 h];exact ⟨rfl,h⟩
 right
 rw [ZZ h]
 unfold byS
 cases hf:ZeU (λj=>Zcx p given.length x j ((given++[(x:Int)]).getD j 0)) (given.length+1) with
 | none=>left;rfl
 | some j =>
  right
  obtain ⟨h1,h2,_⟩:=Zeo.1 hf
  exact ⟨j,rfl,by omega,h2⟩
theorem ZmR {given:List Int}{x:Int}{j:Nat}{g:Z8}(hg:GA given g)(hl:given.length<12)(hj:j<=given.length):(given++[x]).getD j 0=othO g given.length j x/\(j≠given.length->g.l.getD j 0=given.getD j 0):=by
 unfold othO
 by_cases e:j=given.length
 ·subst e
  exact ⟨by rw [Z0 rfl];simp [Zq],λh=>absurd rfl h⟩
 have h1:=hg j (by omega)
 rw [Z0 (by omega)] at h1
 rw [ZZ e]
 exact ⟨by rw [h1];simp [Zq,Zr (show j<given.length by omega)],λ_=>h1⟩
theorem ZlG {given:List Int}(hl:given.length<12)(ha:∀ y∈given,0<=y){g:Z8}(hg:GA given g){x:Nat}{j:Nat}(hj:j<=given.length)(hm:Zcx p given.length x j ((given++[(x:Int)]).getD j 0)=true):refB p given.length g ⟨x,(x:Int)+1,j,0⟩=true:=by
 unfold refB
 simp only [Zk]
 have e1:((x:Int)+1-(x:Int)).toNat=1:=by omega
 rw [e1,Ze]
 obtain ⟨s1,s2⟩:=ZmR (x:=(x:Int)) hg hl hj
 refine ⟨?_,ZcY.2 λk hk=>?_⟩
 ·by_cases e:j=given.length
  ·rw [decide_eq_true e];rfl
  rw [s2 e,decide_eq_false e,Bool.false_or,Zg,beq_eq_false_iff_ne]
  have hjl:j<given.length:=by omega
  rw [Za5 hjl]
  have:=ha _ (List.getElem_mem hjl)
  omega
 obtain rfl:k=0:=by omega
 rw [show (x:Int)+((0:Nat):Int)=x by omega,← s1]
 exact hm
end
end Go.Sh

namespace Go.Sh
open Go Go.Eng
set_option maxRecDepth 100000 in
theorem Zl3 (n:Nat):ZdJ (n+300)=some true:=by kernel_rfl
theorem ZoB {N:Nat}(hN:2000<=N):ZdJ N=some true:=by
 obtain ⟨n,rfl⟩:∃ n,N=n+300:=⟨N-300,by omega⟩
 exact Zl3 n
def okP (f:List Z4):Prop:=f.length<=3000/\Zdf f
def Big (N:Nat):Prop:=30000<=N/\(240+1) ^ 13<N
theorem big:∃ N,Big N:=⟨30000+(240+1) ^ 13,by unfold Big;omega⟩
section
variable {N:Nat} {p:Z5}
theorem Znw (hN:Big N)(x:Z5){f:List Z4}(hf:okP f):Zbd N x f=some (Zf0 x f):=
 Zis (A:=240) (by omega) hf.2 (by omega) (by have:=hf.1;have:=hN.1;omega) (by have:=hN.1;omega) hN.2
end
end Go.Sh

namespace Go.Sh
open Go Go.Eng
section
variable {p:Z5}
theorem ZoM (hp:VP p)(s:Nat):p.Periods.getD s 0<=240:=by
 by_cases e:s<p.Periods.length
 ·rw [Za5 e];exact (hp.per _ (List.getElem_mem e)).2
 rw [Zq,Zx (by omega)];simp
theorem Zeq (a b:List Zak)(m:Nat):cntA (a++b) m=cntA a m+cntA b m:=by simp [cntA]
theorem Zg9 (a:Zak)(m:Nat):cntA [a] m=if a.By = -1/\a.Next=(m:Int) then 1 else 0:=by
 unfold cntA
 rw [List.countP_cons,List.countP_nil]
 by_cases e:a.By = -1/\a.Next=(m:Int)
 ·rw [Z0 e,Z0 (by simp [e.1,e.2])]
 rw [ZZ e,ZZ (by simpa using e)]
theorem Zmk {l:List Zak}{b:Int}(h:Zld l b=true):∃ l0 a,l=l0++[a]/\a.By=b/\b ≠ -1/\∀ t,Znq l t=l0++[{ a with To:=t }]:=by
 unfold Zld at h
 simp only [Ze,ZX] at h
 obtain ⟨⟨h1,h2⟩,h3⟩:=h
 rcases List.eq_nil_or_concat l with rfl|⟨l0,a,rfl⟩
 ·exact absurd rfl h2
 rw [List.concat_eq_append] at h3 ⊢
 have e:(l0++[a]).length-1=l0.length:=by simp
 rw [e] at h3
 have e2:(l0++[a]).getD l0.length a00=a:=by simp [Zq]
 rw [e2] at h3
 refine ⟨l0,a,rfl,h3,h1,λt=>?_⟩
 unfold Znq
 rw [e,e2,ZP _ _ (Nat.le_refl _),Nat.sub_self]
 rfl
theorem GL.step (hp:VP p){f:List Z4}{given:List Int}{R:List Z4->List Int->Option (List Z4)}{x:Nat}{s s':List Z4}(hi:given.length<p.Periods.length)(ha:∀ y∈given,0<=y)
  (hx:(x:Int)<p.Periods.getD given.length 0) (h:GL p f given x s) (hR:∀ r,R s (given++[(x:Int)])=some r->GS p s (given++[(x:Int)]) r) (hs:Zhl p given f.length R x s=some s'):GL p f given (x+1) s':=by
 have hP:=hp.len
 have h240:=ZoM hp given.length
 unfold Zhl at hs
 have hbc:=Zol (p:=p) given f.length x
 split at hs
 ·rename_i hl
  cases hs
  obtain ⟨l0,a,hla,hab,hb1,hend⟩:=Zmk hl
  have hhv:=h.hv
  have harm:=h.arms
  have hnm:=h.nm
  rw [hla] at hhv harm
  obtain ⟨e0,g1,g2,g3⟩:=ZnE harm
  obtain ⟨o1,o2,o3,o4⟩:=ZcG g2
  rw [hend]
  refine GL.put (List.prefix_refl s) h (λd h1 h2=>by omega) (λm=>?_) ?_ (λg hg a' ha'=>?_)
  ·rw [hnm m,hla,Zeq,Zeq,Zg9,Zg9]
   simp only
   omega
  ·have:=Zie (a:={ a with To:=(x:Int)+1 }) g1 (by
    unfold Zer
    rw [Ze,ZX]
    refine ⟨⟨o1,by simp only;omega,by simp only;omega⟩,?_⟩
    unfold Zbm at o4 ⊢
    simp only
    rw [ZZ (by rw [hab];exact hb1)] at o4 ⊢
    exact o4)
   rw [this]
   rfl
  rcases List.mem_append.1 ha' with hm|hm
  ·exact hhv g hg a' (List.mem_append_left _ hm)
  simp only [ZN] at hm
  subst hm
  obtain ⟨_,q2⟩:=hhv g hg a (List.mem_append_right _ (by simp))
  simp only
  refine ⟨λe=>absurd (hab.symm.trans e) hb1,λe1 e2=>?_⟩
  have q3:=q2 e1 e2
  rcases hbc with ⟨hb,_⟩|hb|⟨j,hb,hj,hm⟩
  ·omega
  ·exact absurd hb hb1
  have hby:a.By=(j:Int):=by rw [hab,hb]
  have q4:=ZlG (p:=p) (by omega) ha hg hj hm
  unfold refB at q3 q4 ⊢
  rw [hby,Zk] at q3
  simp only [hby,Zk] at q4 ⊢
  rw [Ze] at q3 q4 ⊢
  refine ⟨q3.1,ZcY.2 λk hk=>?_⟩
  by_cases c:k<(a.To-a.From).toNat
  ·exact ZcY.1 q3.2 k c
  have e5:=ZcY.1 q4.2 0 (by omega)
  have e6:a.From+(k:Int)=(x:Int)+((0:Nat):Int):=by omega
  rw [e6]
  exact e5
 rename_i hl
 split at hs
 ·rename_i hb
  cases hr:R s (given++[(x:Int)]) with
  | none=>rw [hr] at hs;cases hs
  | some r =>
   rw [hr] at hs
   cases hs
   have hG:=hR r hr
   have eg:r.getD f.length c00=s.getD f.length c00:=ZfO c00 hG.pre h.lt
   have hlsr:=hG.lt
   refine GL.put hG.pre h hG.ch (λm=>?_) ?_ (λg hg a' ha'=>?_)
   ·rw [hG.nm m,h.nm m,eg,Zeq,Zg9]
    have:=h.lt
    simp only [true_and]
    split<;>split<;>split<;>split<;>omega
   ·rw [eg]
    have:=Zie (a:=⟨x,(x:Int)+1,-1,s.length⟩) (Zi6 (ZgM (L':=(r.length:Int)) (by omega)) h.arms) (by
     unfold Zer
     rw [Ze,ZX]
     refine ⟨⟨rfl,by simp only;omega,by simp only;omega⟩,?_⟩
     unfold Zbm
     have:=h.lt
     rw [Z0 rfl,ZX,Za9 (by simp only;omega) (by simp only;omega)]
     exact ⟨rfl,by simp only;omega,by simp only;omega⟩)
    rw [this]
    rfl
   rw [eg] at ha'
   rcases List.mem_append.1 ha' with hm|hm
   ·obtain ⟨q1,q2⟩:=h.hv g hg a' hm
    refine ⟨λe=>⟨(q1 e).1,(q1 e).2.ext λd y hd hy=>?_⟩,q2⟩
    obtain ⟨t,ht⟩:=hG.pre
    rw [← ht,Zr (List.getElem?_eq_some_iff.1 hy).1]
    exact hy
   simp only [ZN] at hm
   subst hm
   refine ⟨λ_=>⟨by simp only [Zk];exact h.lt,?_⟩,λe=>absurd rfl e⟩
   simp only [Zk]
   exact hG.hv _ (hg.snoc (by omega) _)
 rename_i hb
 cases hs
 refine GL.put (List.prefix_refl s) h (λd h1 h2=>by omega) (λm=>?_) ?_ (λg hg a' ha'=>?_)
 ·rw [h.nm m,Zeq,Zg9]
  simp only
  have hz:(if bS p given f.length x = -1/\(0:Int)=(m:Int) then (1:Nat) else 0)=0:=ZZ λq=>hb q.1
  rw [hz]
  omega
 ·have:=Zie (a:=⟨x,(x:Int)+1,bS p given f.length x,0⟩) h.arms (by
   unfold Zer
   rw [Ze,ZX]
   refine ⟨⟨rfl,by simp only;omega,by simp only;omega⟩,?_⟩
   unfold Zbm
   simp only
   rw [ZZ hb,Z0 trivial]
   rcases hbc with ⟨hb',hc,hx0⟩|hb' | ⟨j,hb',hj,hm⟩
   ·rw [Z0 hb',ZX]
    omega
   ·exact absurd hb' hb
   rw [ZZ (by omega),ZX]
   omega)
  rw [this]
  rfl
 rcases List.mem_append.1 ha' with hm|hm
 ·exact h.hv g hg a' hm
 simp only [ZN] at hm
 subst hm
 refine ⟨λe=>absurd e hb,λe1 e2=>?_⟩
 simp only at e2 ⊢
 rcases hbc with ⟨hb',hc,hx0⟩|hb' | ⟨j,hb',hj,hm⟩
 ·omega
 ·exact absurd hb' hb
 rw [hb']
 exact ZlG (by omega) ha hg hj hm
theorem GL.start (f:List Z4)(given:List Int):GL p f given 0 (f++[⟨given.length,[]⟩]):=by
 have e:(f++[(⟨given.length,[]⟩:Z4)]).getD f.length c00=⟨given.length,[]⟩:=by simp [Zq]
 exact
  {pre:=List.prefix_append _ _
   lt:=by simp
   st:=by rw [e]
   ch:=λd h1 h2=>by rw [ZC,ZH] at h2;omega
   nm:=λm=>by
    rw [Zcy,ZfZ,ZZ (by rw [ZC,ZH];omega)]
    simp [cntA]
   arms:=by rw [e];rfl
   hv:=λg hg a ha=>by rw [e] at ha;cases ha }
theorem ZlS (hp:VP p):∀ (n:Nat) (f:List Z4) (given:List Int) (r:List Z4),(∀ y∈given,0<=y)->given.length+n=p.Periods.length->Zg4 p n f given=some r->GS p f given r
 | 0,f,given,r,_,_,h=>by cases h
 | n+1,f,given,r,ha,hn,h=>by
  simp only [Zg4] at h
  split at h
  ·cases h
  have hP:=hp.len
  have hi:given.length<p.Periods.length:=by omega
  have hper:1<=p.Periods.getD given.length 0:=by rw [Za5 hi];exact (hp.per _ (List.getElem_mem hi)).1
  have loop:∀ (k:Nat) (s:List Z4),k<=(p.Periods.getD given.length 0).toNat->upF (Zhl p given f.length (Zg4 p n)) k (f++[⟨given.length,[]⟩])=some s->GL p f given k s:=by
   intro k
   induction k with
   | zero=>intro s _ hs;simp only [upF,ZU] at hs;subst hs;exact GL.start f given
   | succ k ih =>
    intro s hk hs
    simp only [upF] at hs
    obtain ⟨s1,h1,h2⟩:=bind_some hs
    refine (ih s1 (by omega) h1).step hp hi ha (by omega) (λr hr=>ZlS hp n s1 _ r (λy hy=>?_) (by simp;omega) hr) h2
    rcases List.mem_append.1 hy with hy|hy
    ·exact ha y hy
    simp only [ZN] at hy;omega
  have hG:=loop _ r (Nat.le_refl _) h
  have hlt:=hG.lt
  have hst:=hG.st
  have harm:=hG.arms
  have hch:ZaU p r f.length=true:=by
   rw [ZcE hlt,← Za5 hlt c00,hst,Ze,ZX,Zk]
   refine ⟨by omega,?_⟩
   unfold Zd6
   rw [harm]
   simp only [beq_iff_eq]
   omega
  exact
   {pre:=hG.pre
    lt:=hlt
    ch:=λd h1 h2=>by
     by_cases c:d=f.length
     ·rw [c];exact hch
     exact hG.ch d (by omega) h2
    nm:=hG.nm
    hv:=λg hg=>by
     have hv:=hG.hv g hg
     have e1:(r.getD f.length c00).Stream.toNat=given.length:=by rw [hst,Zk]
     refine .mk (ch:=r.getD f.length c00) (by rw [Za5 hlt];exact Zw hlt) ?_ (λa ha hb=>((hv a ha).1 hb).1) (λa ha hb=>?_) (λa ha hb h0=>?_)
     ·rw [e1,hg _ (by omega),ZZ (by omega)]
     ·rw [e1];exact ((hv a ha).1 hb).2
     rw [e1];exact (hv a ha).2 hb h0 }
theorem ZoU (hp:Zd5 p=true){r:List Z4}(h:Zla p=some r):Zen p r=true/\Zf0 p r=0:=by
 have vp:=VP.of hp
 obtain ⟨h1,h2⟩:=ZhV vp h
 unfold Zla at h
 split at h
 ·cases h
 have hG:=ZlS vp p.Periods.length [] [] r (by simp) (by simp) h
 have hlt:0<r.length:=hG.lt
 have hf:Zen p r=true:=(ZkE h2).2 ⟨⟨by omega,h1⟩,λc hc=>hG.ch c (by simp) hc,λm m1 m2=>by
  rw [hG.nm m,Z0 ⟨by simp only [ZF];omega,m2⟩]
  rfl⟩
 have hv:Zhh p r=true:=by
  unfold Zhh
  exact (hG.hv g0 λk hk=>by rw [Znn k hk];simp).hB (by simp)
 refine ⟨hf,?_⟩
 unfold Zf0
 rw [Z0 hp,Z0 hf,Z0 hv]
end
theorem proofMade_true (d:Zbx)(c k:Int)(hd:Zd7 d)(hc:InK .u8 c)(hk:InK .u8 k):∃ N,ZcV N d c k=some true:=by
 obtain ⟨N,hN⟩:=big
 refine ⟨N,?_⟩
 have hN2:=hN.1
 obtain ⟨p,hp,gp⟩:=ZeA (show 2000<=N by omega) hd
 have vp:=VP.of gp.prob
 have hc8:=hc.u8
 have hk8:=hk.u8
 unfold ZcV
 rw [ZoB (by omega),ZS,ZZ (by simp),hp,ZS,Zjp (by omega) vp,ZS]
 cases hm:Zla p with
 | none=>rfl
 | some r =>
  obtain ⟨hf,hch⟩:=ZoU gp.prob hm
  obtain ⟨r1,r2⟩:=ZhV vp hm
  have hlen:=(ZeT hf).1
  simp only [resS]
  obtain ⟨m1,m2⟩:=Ze0 hc8.1 hlen
  have hbend:=Zny vp hf hc8.1 hk8.1
  have hlast:=Znd r2 hf
  obtain ⟨b1,b2⟩:=Zlr (b:=⟨c,k,5,0⟩) r2
  have e1:w64 (((List.length r:Nat):Int)-1)=((r.length-1:Nat):Int):=by rw [Za9 (by omega) (by omega)];omega
  have e2:subI r 0 ((r.length-1:Nat):Int)=some (r.take (r.length-1)):=by
   unfold subI
   rw [Z0 (by omega)]
   simp
  have e3:appI 32 [] (r.take (r.length-1))=some (r.take (r.length-1)):=ZbQ (by simp;omega) (by omega)
  have k1:Zf0 p (ZjK ⟨c,k,5,0⟩ r)=350:=by
   unfold Zf0
   rw [Z0 gp.prob,hbend,ZZ (by simp)]
  have k2:Zf0 p (r.take (r.length-1))=350:=by
   unfold Zf0
   rw [Z0 gp.prob,hlast,ZZ (by simp)]
  have o1:okP r:=⟨by omega,r2⟩
  have o2:okP (ZjK ⟨c,k,5,0⟩ r):=⟨by omega,b2⟩
  have o3:okP (r.take (r.length-1)):=⟨by simp;omega,λy hy=>r2 y (List.mem_of_mem_take hy)⟩
  have hR:Zf7 ⟨c,k,5,0⟩:=⟨hc,hk,by simp [InK,Lit.wf,IntKind.min,IntKind.max,IntKind.signed,IntKind.bits],by simp [InK,Lit.wf,IntKind.min,IntKind.max,IntKind.signed,IntKind.bits]⟩
  simp only [Bool.not_true,Zf,ZY]
  rw [Za9 (by omega) (by omega),m1,ZS,Zq1 hR (by omega) r2 (by omega),ZS,e1,e2,ZS,e3,ZS,Znw hN p o1,ZS,hch,Z0 (by simp),Znw hN p o2,ZS,k1,Z0 (by simp),Znw hN p o3,ZS,k2,Z0 (by simp),Zcn m2,ZS,ZS]
  congr 1
  have:=List.length_pos_iff.2 (ZiM vp hf m2)
  rw [ZX]
  omega
end Go.Sh

