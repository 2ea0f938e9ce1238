/- Part of the proof. -/
import Derived.Test.YthhhjjjbpcaadaaSolveSearchesBase
set_option linter.all false
namespace Go.Sh
open Go Go.Eng
section
variable {N:Nat} {p:Z3}
theorem ZkC (hN:2000<=N)(hp:Zdr p=true){given:List Int}(hg:preB p given){x:Int}(hx:offB p given.length x=true):ZfC N p given x=some (byS p given.length x (given++[x])):=by
 have h:=VP.of hp
 obtain ⟨i0,i1,x0,x1⟩:=Zbx.1 hx
 have xl:=Zin h hx
 have hl:=h.len
 obtain ⟨r,hr,e⟩:=Zeb (body:=λy:Int=>ZcT N p given x y)
  (λy=>∃ k:Nat,y=k/\k<=given.length/\∀ m,m<k->Zct p given.length x m ((given++[x]).getD m 0)=false)
  (λy=>((given.length:Int)+1-y).toNat)
  (λo=>(o=.inl ()/\∀ m,m<given.length->Zct p given.length x m ((given++[x]).getD m 0)=false)∨(∃ j:Nat,o=.inr (j:Int)/\j<given.length/\Zct p given.length x j ((given++[x]).getD j 0)=true/\∀ m,m<j->Zct p given.length x m ((given++[x]).getD m 0)=false)) (λy hy=>by
   obtain ⟨k,rfl,k1,k3⟩:=hy
   simp only [ZcT]
   by_cases c:k<given.length
   ·have yl:=Zin h (hg k c)
    have eg:given[k]'c=(given++[x]).getD k 0:=by rw [ZbL c];exact (ZbG c 0).symm
    rw [Z0 (by simpa using c),ZcX c,ZR,eg,show (given++[x]).getD k 0=given.getD k 0 from ZbL c,Zfa hN h (by omega) (by omega) (by omega) (by omega),ZR]
    cases hmt:Zct p given.length x k (given.getD k 0) with
    | true=>exact .inr ⟨_,by rw [Z0 rfl],.inr ⟨k,rfl,c,by rw [ZbL c];exact hmt,k3⟩⟩
    | false=>exact .inl ⟨_,by rw [ZZ (by simp)],⟨k+1,by rw [Zbq (by omega)],by omega,λm hm'=>by
       by_cases e:m=k
       ·subst e;rw [ZbL c];exact hmt
       exact k3 m (by omega)⟩,by rw [Zbq (by omega)];omega⟩
   exact .inr ⟨_,by rw [ZZ (by simp;omega)],.inl ⟨rfl,λm hm'=>k3 m (by omega)⟩⟩) N 0 ⟨0,rfl,by omega,λm hm=>by omega⟩ (by omega)
 unfold ZfC
 rw [hr,ZR]
 unfold byS
 rcases e with ⟨rfl,e3⟩|⟨j,rfl,e3,e4,e5⟩
 ·simp only
  rw [Zfa hN h (by omega) (by omega) (by omega) (by omega),ZR]
  cases hmt:Zct p given.length x given.length x with
  | true =>
   rw [Zcu.2 ⟨show given.length<given.length+1 by omega,by rw [Zb6];exact hmt,e3⟩]
   rw [Z0 rfl]
  | false =>
   rw [Zdv.2 λk hk=>by
    by_cases e:k=given.length
    ·subst e;rw [Zb6];exact hmt
    exact e3 k (by omega)]
   rw [ZZ (by simp)]
 rw [Zcu.2 ⟨by omega,e4,e5⟩]
def addT (l:List Zag)(z:Zag):List Zag:=if (decide (0<=z.By)&&ZeB l z.By)=true then ZkQ l z.To else l++[z]
theorem ZkG {f t:List Z5}{y:Z5}:(f++y::t).getD f.length c00=y:=by
 rw [Zp];simp
theorem ZmR {f t:List Z5}{y z:Z5}:(f++y::t).set f.length z=f++z::t:=by
 rw [List.set_append_right _ _ (Nat.le_refl _),Nat.sub_self,List.set_cons_zero]
theorem Zjn {f t:List Z5}{i:Int}{arms:List Zag}(z:Zag):addA (f++(⟨i,arms⟩:Z5)::t) f.length z=f++⟨i,addT arms z⟩::t:=by
 unfold addA addT
 rw [ZkG,ZmR]
theorem ZjH {l:List Zag}(hl:l.length<=1000){x:Nat}(hx:x<=1000){b:Int}(hb:0<=b) :
  ((((if (decide (((List.length l:Nat):Int)>0)) then ((idx l (w64 (((List.length l:Nat):Int)-1))).bind λe1038=>(some (e1038.By==b))) else (some false))).bind λ(j1042:Bool) =>
 (if j1042 then ((idx l (w64 (((List.length l:Nat):Int)-1))).bind λe1045 =>
 (some (List.set l (Int.toNat (w64 (((List.length l:Nat):Int)-1))) (Zag.mk e1045.From (w64 ((x:Int)+1)) e1045.By e1045.Next)))) else ((appI 32 l [(Zag.mk (x:Int) (w64 ((x:Int)+1)) b 0)]).bind λl1051 =>
 (some l1051)))))=some (addT l ⟨x,(x:Int)+1,b,0⟩):=by
 have hw:w64 ((x:Int)+1)=(x:Int)+1:=Za7 (by omega) (by omega)
 unfold addT
 rw [hw]
 by_cases hn:l=[]
 ·subst hn
  simp [ZeB,ZbH]
 have h0:0<l.length:=List.length_pos_iff.2 hn
 have e:w64 (((List.length l:Nat):Int)-1)=((l.length-1:Nat):Int):=by rw [Za7 (by omega) (by omega)];omega
 rw [Z0 (by simp;omega),e,ZcX (by omega),ZR,ZR,Zk,← ZbG (show l.length-1<l.length by omega) a00]
 have hlb:(decide (0<=b)&&ZeB l b)=((l.getD (l.length-1) a00).By==b):=by
  unfold ZeB
  rw [decide_eq_true hb,decide_eq_true hn,decide_eq_true (show b ≠ -1 by omega)]
  simp only [Zi]
  rfl
 simp only [hlb]
 cases hc:((l.getD (l.length-1) a00).By==b) with
 | true =>
  simp only [Z1,ZR]
  rfl
 | false =>
  simp only [Zf,ZY]
  rw [ZbH (by rw [ZG];omega) (by omega),ZR]
def outR (f f':List Z5)(q:SR)(st:Zaq):Prop:=match q with
 | none=>st.What=2
 | some (.inl r)=>st.What=0/\st.Offsets=[]/\∃ t,r=f++t/\st.Proof=f'++t
 | some (.inr g)=>st.What=1/\st.Offsets=g
theorem ZgJ {fuel:Int}(hp:Zdr p=true)(hf:fuel<=1999)(hN:2000<=N){R:Z3->Zaq->List Int->Int->Option Zaq}{n:Nat}{f f':List Z5}{given:List Int}(hl:given.length+(n+1)=p.Periods.length)(hpre:preB p given)(hf2:f.length<=2000)(he:f'.length=f.length)(hs:ZcC f)(h0:given.length=0↔f.length=0)
  (hR:n≠0->∀ (s s':List Z5) (x:Int),s'.length=s.length->s.length<=2000->ZcC s->s.length≠0->offB p given.length x=true->∃ st,R p ⟨s',[],0⟩ (given++[x]) fuel=some st/\outR s s' (srch p fuel n s (given++[x])) st) :
  ∃ st,Zce N R p ⟨f',[],0⟩ given fuel=some st/\outR f f' (srch p fuel (n+1) f given) st:=by
 unfold Zce
 simp only [srch,he]
 by_cases hc:fuel<(f.length:Int)
 ·rw [Z0 (by simpa using hc),Z0 hc]
  exact ⟨_,rfl,rfl⟩
 rw [ZZ (by simpa using hc),ZZ hc,ZbH (by simp;omega) (by omega),ZR]
 have h:=VP.of hp
 have hP:=h.len
 have hin:given.length<p.Periods.length:=by omega
 have hpe:=h.per _ (List.getElem_mem hin)
 have hpg:p.Periods.getD given.length 0=p.Periods[given.length]:=ZbG hin 0
 have hmp:ZcK p given.length<=240/\(ZcK p given.length:Int)<=p.Periods.getD given.length 0/\(given.length=0->ZcK p given.length=1)/\(given.length≠0->(ZcK p given.length:Int)=p.Periods.getD given.length 0):=by
  unfold ZcK
  split<;>omega
 obtain ⟨m1,m2,m3,m4⟩:=hmp
 obtain ⟨most,hmo⟩:∃ k,k=ZcK p given.length:=⟨_,rfl⟩
 obtain ⟨per,hper⟩:∃ k,k=p.Periods.getD given.length 0:=⟨_,rfl⟩
 have hG:=λk s (hk:k<=most) hu=>Zmu h hf hl h0 (by omega) hs k s (λe=>by have:=m3 e;omega) (by omega) hu
 rw [← hmo] at m1 m2 m3 m4 ⊢
 rw [← hper] at m2 m4 hpg
 obtain ⟨s0,hs0⟩:∃ s0,s0=f++[(⟨given.length,[]⟩:Z5)]:=⟨_,rfl⟩
 rw [← hs0] at hG ⊢
 obtain ⟨step,hst⟩:∃ st,st=ZdA p given f.length (Zdu p given) (srch p fuel n):=⟨_,rfl⟩
 rw [← hst] at hG ⊢
 obtain ⟨r,hr,e⟩:=Zeb (body:=λx:Int×Int×(List Zag)×(List Z5)×(List Int)=>ZbX N R p given fuel x.1 x.2.1 x.2.2.1 x.2.2.2.1 x.2.2.2.2)
  (λy=>∃ (k:Nat) (arms:List Zag) (t:List Z5),y=((k:Int),0,arms,f'++⟨given.length,[]⟩::t,[])/\k<=most/\upS step k s0=some (.inl (f++⟨given.length,arms⟩::t)))
  (λy=>((most:Int)+1-y.1).toNat)
  (λr=>(∃ (arms:List Zag) (t s:List Z5),r=.inl (0,arms,f'++⟨given.length,[]⟩::t,[])/\upS step most s0=some (.inl s)/\endS p f.length given.length s=f++⟨given.length,arms⟩::t)∨(∃ st:Zaq,r=.inr st/\st.What=2/\upS step most s0=none)∨(∃ (st:Zaq) (g:List Int),r=.inr st/\st.What=1/\st.Offsets=g/\upS step most s0=some (.inr g))) (λy hy=>by
   obtain ⟨k,arms,t,rfl,k1,k3⟩:=hy
   simp only [ZbX]
   have hg:=hG k _ k1 k3
   have hlt:=hg.lt;have hle:=hg.le;have har:=hg.ar
   rw [ZkG] at har
   simp only at har
   rw [ZcX hin,ZR,← hpg]
   by_cases c:k<most
   ·rw [Z0 (by simp only [ZX];omega),ZZ (by
     simp only [Ze,beq_iff_eq,not_and]
     intro a b
     have:=m3 (by omega)
     omega)]
    have hx:offB p given.length (k:Int)=true:=Zbx.2 ⟨by omega,by omega,by omega,by rw [Zk,← hper];omega⟩
    rw [ZkC hN hp hpre hx,ZR]
    have hk1:((k+1:Nat):Int)=(k:Int)+1:=by omega
    have hw:w64 ((k:Int)+1)=((k+1:Nat):Int):=by rw [Za7 (by omega) (by omega)];omega
    have hnext:=ZgR k3
    have hss:step k (f++⟨given.length,arms⟩::t)=ZdA p given f.length (Zdu p given) (srch p fuel n) k (f++⟨given.length,arms⟩::t):=by rw [hst]
    unfold ZdA at hss
    rcases ZeJ (p:=p) given.length (k:Int) (given++[(k:Int)]) with ⟨hb,_⟩|⟨j,hb,_⟩
    ·rw [Z0 hb] at hss
     rw [hb,ZZ (by simp),ZbH (by simp;omega) (by omega),ZR,ZL,ZbH (by simp;omega) (by omega),ZR]
     by_cases hla:n=0
     ·rw [Z0 (by simp;omega)]
      rw [Z0 (by unfold Zdu;rw [ZX];omega)] at hss
      rw [hss] at hnext
      exact .inr ⟨_,rfl,.inr (.inr ⟨_,_,rfl,rfl,rfl,ZeL hnext (λs1 h=>by cases h) _ (by omega)⟩)⟩
     rw [ZZ (by simp;omega),ZbH (by rw [ZG];omega) (by omega),ZR]
     rw [ZZ (by unfold Zdu;rw [ZX];omega)] at hss
     obtain ⟨st,ho1,ho2⟩:=hR hla (f++⟨given.length,arms⟩::t) (f'++⟨given.length,[]⟩::t) k (by simp [he]) hle hg.sm (by simp) hx
     rw [ho1,ZR]
     cases hq:srch p fuel n (f++⟨given.length,arms⟩::t) (given++[(k:Int)]) with
     | none =>
      rw [hq] at ho2 hss
      simp only [outR] at ho2
      simp only at hss
      rw [hss] at hnext
      rw [Z0 (by rw [ho2];rfl)]
      exact .inr ⟨_,rfl,.inr (.inl ⟨st,rfl,ho2,ZeL hnext (λs1 h=>by cases h) _ (by omega)⟩)⟩
     | some q =>
      cases q with
      | inr g =>
       rw [hq] at ho2 hss
       simp only [outR] at ho2
       simp only at hss
       rw [hss] at hnext
       rw [Z0 (by rw [ho2.1];rfl)]
       exact .inr ⟨_,rfl,.inr (.inr ⟨st,g,rfl,ho2.1,ho2.2,ZeL hnext (λs1 h=>by cases h) _ (by omega)⟩)⟩
      | inl f2 =>
       rw [hq] at ho2 hss
       simp only [outR] at ho2
       obtain ⟨o1,o2,t2,rfl,o3⟩:=ho2
       simp only at hss
       rw [List.append_assoc,Zo,Zjn] at hss
       rw [List.append_assoc,Zo] at o3
       rw [hss] at hnext
       rw [ZZ (by rw [o1];simp),o1,o2,o3]
       refine .inl ⟨_,rfl,⟨k+1,_,t++t2,?_,by omega,hnext⟩,by rw [hw];simp only;omega⟩
       rw [hw]
       unfold addT
       rw [ZZ (by simp)]
       simp only [ZC,ZD,he,hk1]
    rw [ZZ (by omega)] at hss
    rw [Z0 (by rw [hb,bne_iff_ne];omega),hb,ZjH (by omega) (by omega) (by omega),ZR]
    rw [hb,Zjn] at hss
    rw [hss] at hnext
    exact .inl ⟨_,rfl,⟨k+1,_,t,by rw [hw],by omega,hnext⟩,by rw [hw];simp only;omega⟩
   obtain rfl:k=most:=by omega
   by_cases z:given.length=0
   ·have hk:=m3 z
    by_cases c2:1<per
    ·rw [Z0 (by simp only [ZX];omega),Z0 (by simp only [Ze,beq_iff_eq];omega)]
     have hi0:idx p.Periods 0=some per:=by
      have:=ZcX hin
      rw [← hpg] at this
      rw [← this,z]
      rfl
     rw [hi0,ZR,ZbH (by rw [ZG];omega) (by omega),ZR]
     refine .inr ⟨_,rfl,.inl ⟨_,t,_,rfl,k3,?_⟩⟩
     unfold endS
     rw [← hper,Z0 ⟨z,c2⟩,Zjn]
     rfl
    rw [ZZ (by simp only [ZX];omega)]
    refine .inr ⟨_,rfl,.inl ⟨arms,t,_,rfl,k3,?_⟩⟩
    unfold endS
    rw [← hper,ZZ (λhh=>c2 hh.2)]
   have:=m4 z
   rw [ZZ (by simp only [ZX];omega)]
   refine .inr ⟨_,rfl,.inl ⟨arms,t,_,rfl,k3,?_⟩⟩
   unfold endS
   rw [ZZ (λhh=>z hh.1)]) N (0,0,[],f'++[⟨given.length,[]⟩],[]) ⟨0,[],[],rfl,by omega,by rw [hs0];rfl⟩ (by simp only;omega)
 rw [hr,ZR]
 rcases e with ⟨arms,t,s,rfl,e2,e3⟩|⟨st,rfl,e2,e3⟩|⟨st,g,rfl,e1,e2,e3⟩
 ·simp only
  rw [e2]
  simp only [outR]
  rw [e3,ZcX (by simp;omega),ZR]
  refine ⟨_,rfl,rfl,rfl,_,rfl,?_⟩
  simp only [Zk]
  rw [← ZbG (show f.length<(f'++(⟨given.length,[]⟩:Z5)::t).length by simp;omega) c00,← he,ZmR,ZkG]
 ·simp only
  rw [e3]
  exact ⟨_,rfl,e2⟩
 simp only
 rw [e3]
 exact ⟨_,rfl,e1,e2⟩
theorem Ze8 {fuel:Int}(hp:Zdr p=true)(hf:fuel<=1999){M:Nat}(hM:2000<=M):∀ (n:Nat) (f f':List Z5) (given:List Int),given.length+n=p.Periods.length->n≠0->preB p given->f.length<=2000->f'.length=f.length->ZcC f->(given.length=0↔f.length=0) →
  ∃ st,ZcS (M+n) p ⟨f',[],0⟩ given fuel=some st/\outR f f' (srch p fuel n f given) st
 | 0,f,f',given,_,h,_,_,_,_,_=>absurd rfl h
 | n+1,f,f',given,hl,_,hpre,hf2,he,hs,h0=>by
  show ∃ o,Zce (M+n) (ZcS (M+n)) p ⟨f',[],0⟩ given fuel=some o/\_
  refine ZgJ hp hf (by omega) hl hpre hf2 he hs h0 (λhn s s' x h1 h2 h3 h4 h5=>?_)
  exact Ze8 hp hf hM n s s' (given++[x]) (by simp;omega) hn (hpre.snoc h5) h2 h1 h3 ⟨λh=>by simp at h,λh=>absurd h h4⟩
theorem Zh3 (hN:3000<=N)(p:Z3)(fuel:Int):ZbA N p fuel=some (ZcB p fuel):=by
 unfold ZbA ZcB
 rw [Zh5 (by omega),ZR]
 by_cases hp:Zdr p=true
 ·rw [Z0 hp,ZZ (by simp [hp])]
  by_cases c:fuel<0∨fuel>1999
  ·rw [Z0 (by simp only [Zh,ZX];omega),Z0 c]
  rw [ZZ (by simp only [Zh,ZX];omega),ZZ c]
  by_cases z:p.Periods.length=0
  ·rw [Z0 (by simpa using z),Z0 z]
  rw [ZZ (by simpa using z),ZZ z]
  have hP:=(VP.of hp).len
  obtain ⟨M,hM⟩:∃ M,N=M+p.Periods.length:=⟨N-p.Periods.length,by omega⟩
  obtain ⟨st,h1,h2⟩:=Ze8 hp (show fuel<=1999 by omega) (show 2000<=M by omega) p.Periods.length [] [] [] (by simp) z (λk hk=>by simp at hk) (by simp) rfl (λy hy=>by simp at hy) (by simp)
  rw [← hM] at h1
  rw [h1,ZR]
  cases hq:srch p fuel p.Periods.length [] [] with
  | none =>
   rw [hq] at h2
   simp only [outR] at h2
   rw [h2]
   rfl
  | some q =>
   cases q with
   | inl f =>
    rw [hq] at h2
    simp only [outR] at h2
    obtain ⟨e1,e2,t,e3,e4⟩:=h2
    rw [e1,e4,e3]
    rfl
   | inr g =>
    rw [hq] at h2
    simp only [outR] at h2
    rw [h2.1,h2.2]
    rfl
 rw [ZZ hp,Z0 (by simpa using hp)]
theorem Zjz (p:Z3)(fuel:Int):(ZcB p fuel).1.length<=12/\(ZcB p fuel).2.1.length<=2000/\ZcC (ZcB p fuel).2.1:=by
 have hnil:ZcC []:=λy hy=>by simp at hy
 by_cases hp:Zdr p=true
 ·by_cases c:fuel<0∨fuel>1999
  ·unfold ZcB
   rw [Z0 hp,Z0 c]
   exact ⟨by simp,by simp,hnil⟩
  have:=(VP.of hp).len
  rcases Zku hp (show 0<=fuel by omega) (show fuel<=1999 by omega) with e|⟨f,e,_,_,e2,e3,_⟩|⟨o,e,e1⟩
  ·rw [e];exact ⟨by simp,by simp,hnil⟩
  ·rw [e];exact ⟨by simp,by simp only;omega,e3⟩
  rw [e];exact ⟨by simp only;rw [e1.len];exact this,by simp,hnil⟩
 unfold ZcB
 rw [ZZ hp]
 exact ⟨by simp,by simp,hnil⟩
theorem Zl1 (hN:20000<=N)(p:Z3)(fuel:Int):(if ((ZcB p fuel).2.2 != (ZcB p fuel).2.2) then (some true) else ((Zau N (ZcB p fuel).1 (ZcB p fuel).1).bind λr8=>(if (!r8) then (some true) else ((Zbp N (ZcB p fuel).2.1 (ZcB p fuel).2.1).bind λr11=>(some (!r11))))))=some false:=by
 obtain ⟨h1,h2,h3⟩:=Zjz p fuel
 rw [ZZ (by simp),Zl5 (by omega) (by omega),ZR,ZZ (by simp),ZmC (by omega) (by omega) h3 (by omega)]
 rfl
end
theorem solveSearches_true (d:Zbn)(odd:Z3)(fuel:Int)(hd:ZdO d)(hodd:Zfh odd)(hf:InK .i64 fuel):∃ N,ZbQ N d odd fuel=some true:=by
 refine ⟨20000,?_⟩
 have hN:20000<=20000:=Nat.le_refl _
 obtain ⟨p,hp,gp⟩:=Zem (show 2000<=20000 by omega) hd
 obtain ⟨l1,hl1⟩:∃ l,subI odd.Periods 0 (if 13<((List.length odd.Periods:Nat):Int) then 13 else ((List.length odd.Periods:Nat):Int))=some l:=by
  unfold subI
  split<;>exact ⟨_,Z0 (by omega)⟩
 obtain ⟨l2,hl2⟩:∃ l,subI odd.Uses 0 (if 200<((List.length odd.Uses:Nat):Int) then 200 else ((List.length odd.Uses:Nat):Int))=some l:=by
  unfold subI
  split<;>exact ⟨_,Z0 (by omega)⟩
 unfold ZbQ
 rw [hl1,ZR,hl2,ZR,hp,ZR]
 simp only [ZhX (show 3000<=20000 by omega),Zh3 (show 3000<=20000 by omega),ZR,Zl1 hN,Zf,ZY]
 rw [Zn3 (by omega)]
 rfl
end Go.Sh

