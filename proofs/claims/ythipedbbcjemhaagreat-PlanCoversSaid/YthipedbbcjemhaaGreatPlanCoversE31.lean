/- Part of the proof; written by a program out of the texts in wip/. -/
import Derived.Test.YthipedbbcjemhaaGreatPlanCoversE30
import Derived.KernelRfl
set_option linter.unusedVariables false
set_option linter.unusedSimpArgs false
namespace Go.Eng
open Go
def opAt (ops:List IOp) (m:Nat):Ins:=match ops[m]? with
 | some o=>o.i
 | none=>.newH 0 []
def okAt (ops:List IOp) (m:Nat) (s:St):Bool:=match ops[m]? with
 | some o=>bnOK o s.fr&&(match o.g with
  | none=>true
  | some (t,b)=>match get s.fr t with
   | .p (.bool b')=>b==b'
   | _=>false)
 | none=>false
def preB (ops:List IOp) (m:Nat) (s:St):Bool:=(opsF Zip (ops.take m) s).isSome&&okAt ops m (opsD (ops.take m) s)
section
variable {P:Program} {n:Nat} {s s1 s2:St} {ops:List IOp} {keep:List Nat} {Q:Exit→St→Prop} {K:St→Prop}
theorem Za.o0 (m:Nat) (hs:ZI P (opAt ops m) (opsD (ops.take m) s) s1) (rest:Za P (ops.drop (m+1)) s1 s2) (hm:preB ops m s=true:=by kernel_rfl):Za P ops s s2:=by
 simp only [preB,Bool.and_eq_true] at hm
 obtain ⟨h1,h2⟩:=hm
 refine Za.chunk m h1 ?_
 unfold okAt at h2
 unfold opAt at hs
 cases ho:ops[m]? with
 | none=>rw [ho] at h2;cases h2
 | some o =>
  rw [ho] at h2 hs
  simp only [Bool.and_eq_true] at h2 hs
  have hd:ops.drop m=o::ops.drop (m+1):=by
   obtain ⟨hlt,e⟩:=List.getElem?_eq_some_iff.1 ho
   rw [List.drop_eq_getElem_cons hlt,e]
  rw [hd]
  refine ⟨s1,?_,rest⟩
  have hbn:bnOK o (opsD (ops.take m) s).fr=true:=h2.1
  unfold AOp
  cases hg:o.g with
  | none=>exact ⟨hbn,hs⟩
  | some p =>
   obtain ⟨t,b⟩:=p
   rw [hg] at h2
   simp only at h2 ⊢
   have hx:∃ b',get (opsD (ops.take m) s).fr t = .p (.bool b')∧(b==b')=true:=by
    have h3:=h2.2
    split at h3
    ·rename_i b' hv;exact ⟨b',hv,h3⟩
    ·cases h3
   obtain ⟨b',hv,h3⟩:=hx
   rw [hv]
   have:=eq_of_beq h3
   subst this
   simp only [if_true]
   exact ⟨hbn,hs⟩
def AK (P:Program) (ops:List IOp) (k:Nat) (s s1:St):Prop:=Za P (ops.drop k) s s1
def segO (ops:List IOp) (k m:Nat):List IOp:=(ops.drop k).take m
def preK (ops:List IOp) (k m:Nat) (s:St):Bool:=preB (ops.drop k) m s
theorem Za.o {k:Nat} (m:Nat) (hs:ZI P (opAt ops (k+m)) (opsD (segO ops k m) s) s1) (rest:AK P ops (k+m+1) s1 s2) (hm:preK ops k m s=true:=by kernel_rfl):AK P ops k s s2:=by
 refine Za.o0 (s1:=s1) m ?_ ?_ hm
 ·have:opAt (ops.drop k) m=opAt ops (k+m):=by unfold opAt;rw [List.getElem?_drop]
  rw [this];exact hs
 ·rw [List.drop_drop,← Nat.add_assoc];exact rest
def upd (s:St) (d:Nat) (r:AV):St:=⟨put s.fr d r,s.bx,s.H⟩
def updH (s:St) (d:Nat) (r:AV) (H:List HO):St:=⟨put s.fr d r,s.bx,H⟩
def updO (s:St) (d:Option Nat) (r:AV) (H:List HO):St:=⟨putO s.fr d r,s.bx,H⟩
theorem Za.u {k d:Nat} {r:AV} (m:Nat) (hs:ZI P (opAt ops (k+m)) (opsD (segO ops k m) s) ⟨put (opsD (segO ops k m) s).fr d r,(opsD (segO ops k m) s).bx,(opsD (segO ops k m) s).H⟩) (rest:AK P ops (k+m+1) (upd (opsD (segO ops k m) s) d r) s2) (hm:preK ops k m s=true:=by kernel_rfl):AK P ops k s s2:=Za.o m hs rest hm
theorem Za.h {k d:Nat} {r:AV} {H:List HO} (m:Nat) (hs:ZI P (opAt ops (k+m)) (opsD (segO ops k m) s) ⟨put (opsD (segO ops k m) s).fr d r,(opsD (segO ops k m) s).bx,H⟩) (rest:AK P ops (k+m+1) (updH (opsD (segO ops k m) s) d r H) s2) (hm:preK ops k m s=true:=by kernel_rfl):AK P ops k s s2:=Za.o m hs rest hm
theorem Za.v {k:Nat} {d:Option Nat} {r:AV} {H:List HO} (m:Nat) (hs:ZI P (opAt ops (k+m)) (opsD (segO ops k m) s) ⟨putO (opsD (segO ops k m) s).fr d r,(opsD (segO ops k m) s).bx,H⟩) (rest:AK P ops (k+m+1) (updO (opsD (segO ops k m) s) d r H) s2) (hm:preK ops k m s=true:=by kernel_rfl):AK P ops k s s2:=Za.o m hs rest hm
theorem Za.f {k:Nat} (h:(opsF Zip (ops.drop k) s).isSome=true:=by kernel_rfl):AK P ops k s (opsD (ops.drop k) s):=ZkF h
def EP (P:Program) (ops:List IOp) (k:Nat) (s:St) (K:St→Prop):Prop:=∃ s1,AK P ops k s s1∧K s1
theorem EP.o {k:Nat} (m:Nat) (hs:ZI P (opAt ops (k+m)) (opsD (segO ops k m) s) s1) (rest:EP P ops (k+m+1) s1 K) (hm:preK ops k m s=true:=by kernel_rfl):EP P ops k s K :=
 let ⟨s2,h1,h2⟩:=rest; ⟨s2,.o m hs h1 hm,h2⟩
theorem EP.u {k d:Nat} {r:AV} (m:Nat) (hs:ZI P (opAt ops (k+m)) (opsD (segO ops k m) s) ⟨put (opsD (segO ops k m) s).fr d r,(opsD (segO ops k m) s).bx,(opsD (segO ops k m) s).H⟩) (rest:EP P ops (k+m+1) (upd (opsD (segO ops k m) s) d r) K) (hm:preK ops k m s=true:=by kernel_rfl):EP P ops k s K:=EP.o m hs rest hm
theorem EP.h {k d:Nat} {r:AV} {H:List HO} (m:Nat) (hs:ZI P (opAt ops (k+m)) (opsD (segO ops k m) s) ⟨put (opsD (segO ops k m) s).fr d r,(opsD (segO ops k m) s).bx,H⟩) (rest:EP P ops (k+m+1) (updH (opsD (segO ops k m) s) d r H) K) (hm:preK ops k m s=true:=by kernel_rfl):EP P ops k s K:=EP.o m hs rest hm
theorem EP.v {k:Nat} {d:Option Nat} {r:AV} {H:List HO} (m:Nat) (hs:ZI P (opAt ops (k+m)) (opsD (segO ops k m) s) ⟨putO (opsD (segO ops k m) s).fr d r,(opsD (segO ops k m) s).bx,H⟩) (rest:EP P ops (k+m+1) (updO (opsD (segO ops k m) s) d r H) K) (hm:preK ops k m s=true:=by kernel_rfl):EP P ops k s K:=EP.o m hs rest hm
theorem EP.f {k:Nat} (hk:K (opsD (ops.drop k) s)) (h:(opsF Zip (ops.drop k) s).isSome=true:=by kernel_rfl):EP P ops k s K:=⟨_,Za.f h,hk⟩
theorem ZN {d:Nat} {x:IX} {m:Nat} {isA:Bool} (h:ZI P (.load d x m isA) s s1) (hl:ZnG (ev s.fr x)=false:=by kernel_rfl):ZI P (.loadH d x m isA) s s1:=by
 simp only [ZI,Z5] at h ⊢
 rw [if_neg (by rw [hl];decide)]
 have:rd s.bx s.H m (ev s.fr x)=rd [] s.H m (ev s.fr x):=by
  cases he:ev s.fr x with
  | loc t o=>rw [he] at hl;simp [ZnG] at hl
  | _=>rfl
 rw [← this];exact h
theorem rg (h:AK P ops 0 s s1) (hq:Q .normal (Zeu keep s1)):vc P n (.reg ops keep) Q s:=⟨s1,h,hq⟩
theorem rq (h:AK P ops 0 s s1) (hq:Q .normal (Zeu keep s1)) (hs:Zke s.fr ops=true:=by kernel_rfl):vc P n (.regD ops keep) Q s:=⟨hs,s1,h,hq⟩
theorem rgS (S:St) (h:AK P ops 0 s s1) (hk:Zeu keep s1=S) (hq:Q .normal S):vc P n (.reg ops keep) Q s:=⟨s1,h,hk ▸ hq⟩
theorem rqS (S:St) (h:AK P ops 0 s s1) (hk:Zeu keep s1=S) (hq:Q .normal S) (hs:Zke s.fr ops=true:=by kernel_rfl):vc P n (.regD ops keep) Q s:=⟨hs,s1,h,hk ▸ hq⟩
theorem rfS {fs:List Nat} {s0:St} (S:St) (h0:frzS fs s=some s0) (h:AK P ops 0 s0 s1) (hk:Zeu keep s1=S) (hq:Q .normal S) (hs:Zke s0.fr ops=true:=by kernel_rfl):vc P n (.regF fs ops keep) Q s:=⟨s0,h0,hs,s1,h,hk ▸ hq⟩
theorem rgX (S:St) (h:EP P ops 0 s (fun s1=>Zeu keep s1=S)) (hq:Q .normal S):vc P n (.reg ops keep) Q s:=let ⟨s1,h1,h2⟩:=h; ⟨s1,h1,h2 ▸ hq⟩
theorem rgR (R:St→Prop) (h:EP P ops 0 s (fun s1=>R (Zeu keep s1))) (hq:∀ S,R S→Q .normal S):vc P n (.reg ops keep) Q s:=let ⟨s1,h1,h2⟩:=h; ⟨s1,h1,hq _ h2⟩
theorem rqR (R:St→Prop) (h:EP P ops 0 s (fun s1=>R (Zeu keep s1))) (hq:∀ S,R S→Q .normal S) (hs:Zke s.fr ops=true:=by kernel_rfl):vc P n (.regD ops keep) Q s:=let ⟨s1,h1,h2⟩:=h; ⟨hs,s1,h1,hq _ h2⟩
theorem sq {a b:IC} (h:vc P n a (ZhQ (vc P n b Q) Q) s):vc P n (.seq a b) Q s:=h
theorem bk {id:Nat} {a:IC} (h:vc P n a (Zdw id Q) s):vc P n (.block id a) Q s:=h
theorem kq {ks:List Nat} {a:IC} (h:vc P n a Q (Zeu ks s)):vc P n (.kp ks a) Q s:=h
theorem sk (h:Q .normal s):vc P n .skip Q s:=h
theorem rt (h:Q .ret s):vc P n .ret Q s:=h
theorem xq {id:Nat} (h:Q (.exit id) s):vc P n (.exit id) Q s:=h
theorem tq {next:St→Prop} (h:next s):ZhQ next Q .normal s:=h
theorem tr {next:St→Prop} (h:Q .ret s):ZhQ next Q .ret s:=h
theorem tx {next:St→Prop} {j:Nat} (h:Q (.exit j) s):ZhQ next Q (.exit j) s:=h
theorem tg {next:St→Prop} {j:Nat} (h:Q (.goto j) s):ZhQ next Q (.goto j) s:=h
theorem bn {id:Nat} (h:Q .normal s):Zdw id Q .normal s:=h
theorem br {id:Nat} (h:Q .ret s):Zdw id Q .ret s:=h
theorem bx {id:Nat} (h:Q .normal s):Zdw id Q (.exit id) s:=by simp only [Zdw,if_true];exact h
theorem bo {id j:Nat} (h:Q (.exit j) s) (hj:(j==id)=false:=by kernel_rfl):Zdw id Q (.exit j) s:=by
 have:¬ j=id:=by simpa using hj
 simp only [Zdw,if_neg this];exact h
theorem kr {α:Sort _} {a b:α} (h:a=b:=by kernel_rfl):a=b:=h
theorem nn (h:Q .normal s):ZmC Q .normal s:=h
theorem it {x:IX} {a b:IC} {c:Bool} {α:Type} {A B:Option α} {r:α} (h:(if c=true then A else B)=some r)
  (h1:c=true→A=some r→vc P n a Q (Zhf x s)) (h2:c=false→B=some r→vc P n b Q (Zhf x s)) (hx:ev s.fr x = .p (.bool c):=by kernel_rfl):vc P n (.cond x a b) Q s:=vc_ite hx h h1 h2
theorem bs {α β:Type} {x:Option α} {f:α→Option β} {r:β} (h:x.bind f=some r):∃ a,x=some a∧f a=some r:=bind_some h
theorem rbd {K:List HO→Prop} {k id:Nat} {L:LC} {fr0:List (Nat × AV)} {e:Exit} {b:Bool} {H0 H1:List HO} {f0 items:List Z8} (st:LS) (hF:Fp H0 H1 f0 items) (hk:items[k]? = some (.lp id L fr0 .busy)) (he:ZmK e=some (b,st))
  (h:∀ H6,Fp H0 H6 f0 (items.set k (.lp id L fr0 st))→K H6) (hs:s.H=H1:=by kernel_rfl):∃ H',Zoz id L fr0 b H' e s∧K H':=rb_done st (hs.symm ▸ hF) hk he h
theorem Fp.pk {H0 H H':List HO} {f0 items L:List Z8} (h:Fp H0 H f0 items) (ks:List Nat) (hn:Znw ks=true) (hL:(ks.filterMap fun k=>items[k]?)=L:=by kernel_rfl) (hH:H=H':=by kernel_rfl):Fp H0 H' f0 L:=by
 subst hL hH;exact h.pick ks hn
theorem Fp.at {H0 H H':List HO} {f0 items L:List Z8} (h:Fp H0 H f0 items) (hL:items=L:=by kernel_rfl) (hH:H=H':=by kernel_rfl):Fp H0 H' f0 L:=by
 subst hL hH;exact h
end
end Go.Eng

