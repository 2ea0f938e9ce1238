/- Part of the proof; written by a program out of the texts in wip/. -/
import Derived.Test.YthipedbbcjemhaaGreatPlanCoversE17
import Derived.KernelRfl
set_option linter.unusedVariables false
set_option linter.unusedSimpArgs false
namespace Go.Eng
open Go
def idx {α:Type} (l:List α) (i:Int):Option α:=if 0≤i then l[i.toNat]? else none
def quoI (k:IntKind) (a b:Int):Option Int:=if b=0 then none else some (k.wrap (a.tdiv b))
def remI (a b:Int):Option Int:=if b=0 then none else some (a.tmod b)
def subI {α:Type} (l:List α) (lo hi:Int):Option (List α):=if 0≤lo∧lo≤hi∧hi≤l.length then some ((l.take hi.toNat).drop lo.toNat) else none
def appI {α:Type} (bytes:Nat) (l m:List α):Option (List α):=if (l.length+m.length) * bytes≤140737488355328∧l.length+m.length≤140737488355328 then some (l++m) else none
def Zh2 {α:Type} (bytes:Nat) (n c:Int) (z:α):Option (List α):=if 0≤n∧n≤c∧c * bytes≤140737488355328∧c≤140737488355328 then some (List.replicate n.toNat z) else none
def w64 (x:Int):Int:=IntKind.i64.wrap x
def eI (k:IntKind) (x:Int):List PC:=[.int k x]
def eI64 (x:Int):List PC:=[.int .i64 x]
def eB (b:Bool):List PC:=[.bool b]
def eSl {α:Type} (sz:Nat) (enc:α→List PC) (l:List α):List PC:=[.sl sz false (l.map enc)]
def Z2 {σ ρ:Type} (body:σ→Option (σ ⊕ ρ)):Nat→σ→Option ρ
 | 0,_=>none
 | m+1,x=>match body x with
  | none=>none
  | some (.inl y)=>Z2 body m y
  | some (.inr r)=>some r
theorem bind_some {α β:Type} {o:Option α} {f:α→Option β} {r:β} (h:o.bind f=some r):∃ v,o=some v∧f v=some r:=by
 cases o with
 | none=>simp at h
 | some v=>exact ⟨v,rfl,h⟩
theorem Zb {α:Type} {a b:α} (h:some a=some b):a=b:=Option.some.inj h
theorem ZkO {α:Type} {l:List α} {i:Int} {e:α} (enc:α→List PC) (h:idx l i=some e):(0≤i∧i<(l.map enc).length)∧(l.map enc)[i.toNat]? = some (enc e):=by
 unfold idx at h
 split at h
 ·rename_i h0
  have h1:=(List.getElem?_eq_some_iff.1 h).1
  refine ⟨⟨h0,?_⟩,by rw [List.getElem?_map,h];rfl⟩
  simp only [List.length_map]
  omega
 ·cases h
theorem Zk {α:Type} {l:List α} {sz:Nat} {f:Bool} {k:IntKind} {i:Int} {e:α} (enc:α→List PC) (h:idx l i=some e) :
  Z7 (.iaddrS sz) [.p (.sl sz f (l.map enc)),.p (.int k i)]=some (.ppt sz (l.map enc) i.toNat 0):=by
 have h1:=(ZkO enc h).1
 simp only [Z7,true_and]
 rw [if_pos ⟨h1.1,h1.2⟩]
theorem Zh8 {k:IntKind} {a b r:Int} (h:quoI k a b=some r):Z7 (.bin .quo) [.p (.int k a),.p (.int k b)]=some (.p (.int k r)):=by
 unfold quoI at h
 simp only [Z7,binI,if_true]
 split at h
 ·cases h
 ·rename_i hb
  cases h
  rw [if_neg hb];rfl
theorem Zce {k:IntKind} {a b r:Int} (h:remI a b=some r):Z7 (.bin .rem) [.p (.int k a),.p (.int k b)]=some (.p (.int k r)):=by
 unfold remI at h
 simp only [Z7,binI,if_true]
 split at h
 ·cases h
 ·rename_i hb
  cases h
  rw [if_neg hb];rfl
theorem Zr {α:Type} {l:List α} {sz:Nat} {f:Bool} (enc:α→List PC):Z7 .len [.p (.sl sz f (l.map enc))]=some (.p (.int .i64 l.length)):=by
 simp [Z7]
theorem ZpP {α:Type} {l r:List α} {lo hi:Int} (enc:α→List PC) (h:subI l lo hi=some r):0≤lo∧lo≤hi∧hi≤l.length∧r=(l.take hi.toNat).drop lo.toNat∧r.map enc=((l.map enc).take hi.toNat).drop lo.toNat:=by
 unfold subI at h
 split at h
 ·rename_i h1
  cases h
  exact ⟨h1.1,h1.2.1,h1.2.2,rfl,by simp [List.map_drop,List.map_take]⟩
 ·cases h
theorem Zf4 {α:Type} {l r:List α} {sz:Nat} {f:Bool} {hi:Int} {k':IntKind} (enc:α→List PC) (h:subI l 0 hi=some r) :
  Z7 (.slice sz false true false) [.p (.sl sz f (l.map enc)),.p (.int k' hi)]=some (.p (.sl sz false (r.map enc))):=by
 obtain ⟨h1,h2,h3,_,h5⟩:=ZpP enc h
 simp only [Z7,ZhF,Zey,if_true,Option.bind_some,h2,Bool.false_eq_true,if_false,List.isEmpty_nil,List.length_map]
 rw [if_pos ⟨trivial,by omega,by omega,trivial,trivial,by simp⟩,h5]
 rfl
abbrev iv (x:Int):AV:=.p (.int .i64 x)
abbrev bv (b:Bool):AV:=.p (.bool b)
inductive Z8 where
 | arr (a:AV) (sz:Nat) (frz:Bool) (rows:List (List PC))
 | cel (id:Nat) (cs:List AV)
 | lp (id:Nat) (L:LC) (fr:List (Nat × AV)) (st:LS)
def Lies (H:List HO):Z8→Prop
 | .arr a sz frz rows=>(a = .p (.sl sz true [])∧rows=[])∨∃ id ver,a = .osl sz id ver 0 rows.length∧∃ f,(frz=false→f=false)∧H[id]? = some (.arr sz ver f rows)
 | .cel id cs=>H[id]? = some (.cells cs)
 | .lp id L fr st=>H[id]? = some (.lp L fr st)
def Occ:Z8→Nat→Prop
 | .arr a _ _ _,id=>∃ sz ver off len,a = .osl sz id ver off len
 | .cel id' _,id=>id'=id
 | .lp id' _ _ _,id=>id'=id
def HP (H:List HO):List Z8→Prop
 | []=>True
 | i::is=>Lies H i∧(∀ id,Occ i id→∀ j ∈ is,¬ Occ j id)∧HP H is
theorem HP.nil (H:List HO):HP H []:=trivial
section
variable {P:Program} {n:Nat} {s s1 s2:St}
def Zip:Zn1:=fun _ _ _=>none
theorem Zpy:Zj0 P Zip:=fun _ _ _ _ _ h=>by cases h
def opsD (ops:List IOp) (s:St):St:=(opsF Zip ops s).getD s
theorem Za.append {a b:List IOp}:∀ {s:St},Za P a s s1→Za P b s1 s2→Za P (a++b) s s2:=by
 induction a with
 | nil=>intro s h1 h2;simp only [Za] at h1;subst h1;exact h2
 | cons o os ih =>
  intro s h1 h2
  obtain ⟨s',h3,h4⟩:=h1
  exact ⟨s',h3,ih h4 h2⟩
theorem ZkF {ops:List IOp} (h:(opsF Zip ops s).isSome=true):Za P ops s (opsD ops s):=by
 cases hs:opsF Zip ops s with
 | none=>rw [hs] at h;cases h
 | some s'=>unfold opsD;rw [hs];exact ZlI Zpy hs
theorem Za.chunk {ops:List IOp} (m:Nat) (h:(opsF Zip (ops.take m) s).isSome=true) (rest:Za P (ops.drop m) (opsD (ops.take m) s) s2):Za P ops s s2:=by
 have:=(ZkF (P:=P) h).append rest
 rwa [List.take_append_drop] at this
theorem Zm {d:Nat} {v:VI} {xs:List IX} {ys:List AV} {r:AV} (hx:xs.map (ev s.fr)=ys:=by kernel_rfl) (h:Z7 v ys=some r):ZI P (.val d v xs) s ⟨put s.fr d r,s.bx,s.H⟩:=by
 simp only [ZI,Z5,hx,h,Option.map_some]
theorem Zi {d:Nat} {v:VI} {xs:List IX} {c b:Bool} (hx:Z7 v (xs.map (ev s.fr))=some (.p (.bool c)):=by kernel_rfl) (h:c=b):ZI P (.val d v xs) s ⟨put s.fr d (.p (.bool b)),s.bx,s.H⟩:=by
 subst h
 simp only [ZI,Z5,hx,Option.map_some]
theorem Zow {d:Nat} {x:IX} {m:Nat} {isA:Bool} {c b:Bool} (hx:Z5 (.load d x m isA) s=some ⟨put s.fr d (.p (.bool c)),s.bx,s.H⟩) (h:c=b):ZI P (.load d x m isA) s ⟨put s.fr d (.p (.bool b)),s.bx,s.H⟩:=by
 subst h
 exact hx
theorem Zu {α:Type} {l:List α} {i:Int} {e:α} {d:Nat} {x:IX} {m sz off:Nat} {isA:Bool} {cs:List PC} {r:AV} (enc:α→List PC) (h:idx l i=some e)
  (hx:ev s.fr x = .ppt sz (l.map enc) i.toNat off:=by kernel_rfl) (hs:sub off m (enc e)=some cs:=by kernel_rfl) (hm:mk isA (cs.map .p)=some r:=by kernel_rfl):ZI P (.load d x m isA) s ⟨put s.fr d r,s.bx,s.H⟩:=by
 have h2:=(ZkO enc h).2
 have hok:∀ cs:List PC,ZO (cs.map .p)=true:=fun cs=>by
  induction cs with
  | nil=>rfl
  | cons c cs ih=>simp [ZO,ZcQ,ih]
 simp only [ZI,Z5,hx,rd,h2,Option.bind_some,hs,Option.map_some,hok,if_true,hm]
theorem Zw {d:Option Nat} {f:Nat} {xs:List IX} {args:List AV} {r:AV} (hx:frzL s.H (xs.map (ev s.fr))=some (args,s.H):=by kernel_rfl) (hc:Zac P f args r):ZI P (.call d f xs) s ⟨putO s.fr d r,s.bx,s.H⟩ :=
 ⟨args,s.H,r,s.H,.frz hx,hc.frame _,rfl⟩
theorem ZaK {d:Nat} {f:Nat} {xs:List IX} {args:List AV} {r:AV} (hx:weakVs (xs.map (ev s.fr))=args:=by kernel_rfl) (hc:Zac P f args r):ZI P (.callP d f xs) s ⟨put s.fr d r,s.bx,s.H⟩ :=
 ⟨r,hx ▸ hc,rfl⟩
theorem ZqM {l:Nat} {Q:Exit→St→Prop} (h:Q .normal s):vc P n (.label l) Q s:=h
theorem ZS {a:IC} {Q:Exit→St→Prop} (h:EvX P n (.loop a) s Q):vc P n (.loop a) Q s:=h
theorem ZqL {a:IC} {Q:Exit→St→Prop} (h:EvX P n (.scope a) s Q):vc P n (.scope a) Q s:=h
theorem Zd1 {x:IX} {a b:IC} {Q:Exit→St→Prop} (hx:ev s.fr x = .p (.bool true)) (h:vc P n a Q (Zhf x s)):vc P n (.cond x a b) Q s:=by
 simp only [vc,hx,if_true];exact h
theorem ZjN {x:IX} {a b:IC} {Q:Exit→St→Prop} (hx:ev s.fr x = .p (.bool false)) (h:vc P n b Q (Zhf x s)):vc P n (.cond x a b) Q s:=by
 simp only [vc,hx,Bool.false_eq_true,if_false];exact h
theorem vc_ite {x:IX} {a b:IC} {Q:Exit→St→Prop} {c:Bool} {α:Type} {A B:Option α} {r:α} (hx:ev s.fr x = .p (.bool c)) (h:(if c=true then A else B)=some r)
  (h1:c=true→A=some r→vc P n a Q (Zhf x s)) (h2:c=false→B=some r→vc P n b Q (Zhf x s)):vc P n (.cond x a b) Q s:=by
 simp only [vc,hx]
 cases c with
 | true=>simp only [if_true] at h ⊢;exact h1 rfl h
 | false=>simp only [Bool.false_eq_true,if_false] at h ⊢;exact h2 rfl h
theorem Zz {α:Type} {c:Bool} {A B:Option α} {r:α} (h:(if c=true then A else B)=some r):(c=true∧A=some r)∨(c=false∧B=some r):=by
 cases c with
 | true=>exact .inl ⟨rfl,by simpa using h⟩
 | false=>exact .inr ⟨rfl,by simpa using h⟩
theorem Zcf:∀ (ic:IC) {Q Q':Exit→St→Prop} {s:St},(∀ e s,Q e s→Q' e s)→vc P n ic Q s→vc P n ic Q' s
 | .skip,Q,Q',s,hq,h=>hq _ _ h
 | .reg ops keep,Q,Q',s,hq,h=>let ⟨s',h1,h2⟩:=h; ⟨s',h1,hq _ _ h2⟩
 | .regD ops keep,Q,Q',s,hq,h=>let ⟨h0,s',h1,h2⟩:=h; ⟨h0,s',h1,hq _ _ h2⟩
 | .regF fs ops keep,Q,Q',s,hq,h=>let ⟨s0,h0,h00,s',h1,h2⟩:=h; ⟨s0,h0,h00,s',h1,hq _ _ h2⟩
 | .seq a b,Q,Q',s,hq,h=>Zcf a (fun e s h=>by
   cases e with
   | normal=>exact Zcf b hq h
   | _=>exact hq _ _ h) h
 | .cond x a b,Q,Q',s,hq,h=>by
  simp only [vc] at h ⊢
  split
  ·rename_i t hx
   rw [hx] at h
   simp only at h
   split
   ·rename_i ht;rw [if_pos ht] at h;exact Zcf a hq h
   ·rename_i ht;rw [if_neg ht] at h;exact Zcf b hq h
  ·rename_i hx
   split at h
   ·rename_i t hx';exact absurd hx' (hx t)
   ·exact h
 | .block id a,Q,Q',s,hq,h=>Zcf a (fun e s h=>by
   cases e with
   | exit j =>
    simp only [Zdw] at h ⊢
    split
    ·rename_i e;rw [if_pos e] at h;exact hq _ _ h
    ·rename_i e;rw [if_neg e] at h;exact hq _ _ h
   | _=>exact hq _ _ h) h
 | .loop a,Q,Q',s,hq,h=>EvX.mono h hq
 | .exit id,Q,Q',s,hq,h=>hq _ _ h
 | .rangeF x ps a b,Q,Q',s,hq,h=>EvX.mono h hq
 | .box a,Q,Q',s,hq,h=>EvX.mono h hq
 | .scope a,Q,Q',s,hq,h=>EvX.mono h hq
 | .label l,Q,Q',s,hq,h=>hq _ _ h
 | .goto l,Q,Q',s,hq,h=>hq _ _ h
 | .ret,Q,Q',s,hq,h=>hq _ _ h
 | .kp ks a,Q,Q',s,hq,h=>Zcf a hq h
 | .pu fs a,Q,Q',s,hq,h=>Zcf a (fun e s h=>by
   cases e with
   | normal=>obtain ⟨s2,h3,h4⟩:=h;exact ⟨s2,h3,hq _ _ h4⟩
   | _=>exact hq _ _ h) h
@[reducible] def normR (R:St→Prop):Exit→St→Prop:=fun e s'=>e = .normal∧R s'
theorem Zx {res:List RV} {r:AV} (h:(resL s res).map ZaW=some r):∃ xs,resL s res=some xs∧ZaW xs=r:=by
 cases hs:resL s res with
 | none=>rw [hs] at h;cases h
 | some xs=>rw [hs] at h;exact ⟨xs,rfl,by simpa using h⟩
@[reducible] def isQ (e:Exit) (s:St):Exit→St→Prop:=fun e1 s1=>e1=e∧s1=s
theorem vcd:∀ (ic:IC) {Q:Exit→St→Prop} {s:St},vc P n ic Q s→∃ e s',vc P n ic (isQ e s') s∧Q e s'
 | .skip,Q,s,h=>⟨.normal,s,⟨rfl,rfl⟩,h⟩
 | .reg ops keep,Q,s,h=>let ⟨s',h1,h2⟩:=h; ⟨.normal,_,⟨s',h1,rfl,rfl⟩,h2⟩
 | .regD ops keep,Q,s,h=>let ⟨h0,s',h1,h2⟩:=h; ⟨.normal,_,⟨h0,s',h1,rfl,rfl⟩,h2⟩
 | .regF fs ops keep,Q,s,h=>let ⟨s0,h0,h00,s',h1,h2⟩:=h; ⟨.normal,_,⟨s0,h0,h00,s',h1,rfl,rfl⟩,h2⟩
 | .seq a b,Q,s,h=>by
  obtain ⟨e1,s1,h1,h2⟩:=vcd a h
  cases e1 with
  | normal =>
   obtain ⟨e,s',h3,h4⟩:=vcd b h2
   exact ⟨e,s',Zcf a (fun e1 s2 ⟨x,y⟩=>by subst x y;exact h3) h1,h4⟩
  | _=>exact ⟨_,s1,Zcf a (fun e1 s2 ⟨x,y⟩=>by subst x y;exact ⟨rfl,rfl⟩) h1,h2⟩
 | .cond x a b,Q,s,h=>by
  simp only [vc] at h
  split at h
  ·rename_i t hx
   cases t with
   | true =>
    simp only [if_true] at h
    obtain ⟨e,s',h1,h2⟩:=vcd a h
    exact ⟨e,s',by simp only [vc,hx];exact h1,h2⟩
   | false =>
    simp only [Bool.false_eq_true,if_false] at h
    obtain ⟨e,s',h1,h2⟩:=vcd b h
    exact ⟨e,s',by simp only [vc,hx];exact h1,h2⟩
  ·exact h.elim
 | .block id a,Q,s,h=>by
  obtain ⟨e1,s1,h1,h2⟩:=vcd a (Q:=Zdw id Q) h
  cases e1 with
  | exit j =>
   simp only [Zdw] at h2
   by_cases e:j=id
   ·rw [if_pos e] at h2
    exact ⟨.normal,s1,Zcf a (fun e1 s2 ⟨x,y⟩=>by subst x y;simp only [Zdw,e,if_true];exact ⟨rfl,rfl⟩) h1,h2⟩
   ·rw [if_neg e] at h2
    exact ⟨.exit j,s1,Zcf a (fun e1 s2 ⟨x,y⟩=>by subst x y;simp only [Zdw,e,if_false];exact ⟨rfl,rfl⟩) h1,h2⟩
  | _=>exact ⟨_,s1,Zcf a (fun e1 s2 ⟨x,y⟩=>by subst x y;exact ⟨rfl,rfl⟩) h1,h2⟩
 | .loop a,Q,s,h=>let ⟨e,s',h1,h2⟩:=h; ⟨e,s',⟨e,s',h1,rfl,rfl⟩,h2⟩
 | .scope a,Q,s,h=>let ⟨e,s',h1,h2⟩:=h; ⟨e,s',⟨e,s',h1,rfl,rfl⟩,h2⟩
 | .rangeF x ps a b,Q,s,h=>let ⟨e,s',h1,h2⟩:=h; ⟨e,s',⟨e,s',h1,rfl,rfl⟩,h2⟩
 | .box a,Q,s,h=>let ⟨e,s',h1,h2⟩:=h; ⟨e,s',⟨e,s',h1,rfl,rfl⟩,h2⟩
 | .exit id,Q,s,h=>⟨_,s,⟨rfl,rfl⟩,h⟩
 | .label l,Q,s,h=>⟨_,s,⟨rfl,rfl⟩,h⟩
 | .goto l,Q,s,h=>⟨_,s,⟨rfl,rfl⟩,h⟩
 | .ret,Q,s,h=>⟨_,s,⟨rfl,rfl⟩,h⟩
 | .kp ks a,Q,s,h=>by
  obtain ⟨e,s',h1,h2⟩:=vcd a (Q:=Q) (s:=Zeu ks s) h
  exact ⟨e,s',h1,h2⟩
 | .pu fs a,Q,s,h=>by
  obtain ⟨e,s',h1,h2⟩:=vcd a (Q:=puQ fs Q) (s:=s) h
  cases e with
  | normal =>
   obtain ⟨s2,h3,h4⟩:=h2
   exact ⟨.normal,s2,Zcf a (fun e1 s1 ⟨x,y⟩=>by subst x y;exact ⟨s2,h3,rfl,rfl⟩) h1,h4⟩
  | _=>exact ⟨_,s',Zcf a (fun e1 s1 ⟨x,y⟩=>by subst x y;exact ⟨rfl,rfl⟩) h1,h2⟩
def RunD (P:Program) (n:Nat) (b:IC) (back e:Exit) (sF:St):Nat→St→Prop
 | 0,_=>False
 | m+1,s=>∃ e1 s1,vc P n b (isQ e1 s1) s∧((e1=back∧RunD P n b back e sF m s1)∨(e1 ≠ back∧e1=e∧s1=sF))
theorem RunD.loop {b:IC} {e:Exit} {sF:St} {m:Nat} {s:St} (h:RunD P n b .normal e sF m s):EvI P n (.loop b) s (isQ e sF):=by
 refine EvI.loopR (R:=fun (m:Nat) s=>RunD P n b .normal e sF m s) (fun m=>m) (fun m s h => ?_) m s h
 cases m with
 | zero=>exact h.elim
 | succ m =>
  obtain ⟨e1,s1,h1,h2⟩:=h
  refine (Zt b _ s h1).mono fun e' s' ⟨x,y⟩ => ?_
  subst x y
  rcases h2 with ⟨rfl,h2⟩ | ⟨hne,rfl,rfl⟩
  ·exact ⟨m,h2,by omega⟩
  ·cases e' with
   | normal=>exact absurd rfl hne
   | _=>exact ⟨rfl,rfl⟩
theorem ZL {σ ρ:Type} {b:IC} (R:σ→St→Prop) (body:σ→Option (σ ⊕ ρ)) (Qr:ρ→Exit→St→Prop)
  (hb:∀ x o s,body x=some o→R x s→vc P n b (ZhQ (fun s'=>∃ y,o = .inl y∧R y s') (fun e s'=>∃ r,o = .inr r∧Qr r e s')) s) :
  ∀ (N:Nat) (x:σ) (r:ρ) (s:St),Z2 body N x=some r→R x s→EvX P n (.loop b) s (Qr r):=by
 intro N x r s h hR
 have key:∃ m e sF,RunD P n b .normal e sF m s∧Qr r e sF:=by
  induction N generalizing x s with
  | zero=>simp [Z2] at h
  | succ N ih =>
   rw [Z2] at h
   cases ho:body x with
   | none=>simp [ho] at h
   | some o =>
    rw [ho] at h
    obtain ⟨e1,s1,h1,h2⟩:=vcd b (hb x o s ho hR)
    cases e1 with
    | normal =>
     obtain ⟨y,rfl,hy⟩:=h2
     obtain ⟨m,e,sF,h3,h4⟩:=ih y s1 h hy
     exact ⟨m+1,e,sF,⟨.normal,s1,h1,.inl ⟨rfl,h3⟩⟩,h4⟩
    | _ =>
     obtain ⟨r',rfl,hr⟩:=h2
     simp only [Option.some.injEq] at h
     subst h
     exact ⟨1,_,s1,⟨_,s1,h1,.inr ⟨by simp,rfl,rfl⟩⟩,hr⟩
 obtain ⟨m,e,sF,h1,h2⟩:=key
 exact ⟨e,sF,h1.loop,h2⟩
theorem EvI.scope {b:IC} {Q:Exit→St→Prop} {s:St} (h:vc P n b (ZmC Q) s):EvX P n (.scope b) s Q:=by
 obtain ⟨e,s',h1,h2⟩:=vcd b h
 have h3:vc P n b (ZmC (isQ e s')) s:=by
  refine Zcf b (fun e1 s1 h => ?_) h1
  obtain ⟨x,y⟩:=h
  subst x y
  cases e1 with
  | goto l=>exact h2.elim
  | _=>exact ⟨rfl,rfl⟩
 refine ⟨e,s',EvI.scope0 h3,?_⟩
 cases e with
 | goto l=>exact h2.elim
 | _=>exact h2
end
end Go.Eng

