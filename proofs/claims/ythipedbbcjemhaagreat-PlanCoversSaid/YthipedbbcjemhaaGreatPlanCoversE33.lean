/- Part of the proof; written by a program out of the texts in wip/. -/
import Derived.Test.YthipedbbcjemhaaGreatPlanCoversE32
set_option linter.unusedVariables false
set_option linter.unusedSimpArgs false
namespace Go.Eng
open Go
section
variable {H0 H H':List HO} {f0 items fix:List Z8} {α:Type}
theorem HP.snocNil (sz:Nat) (frz:Bool):∀ {items:List Z8},HP H items→HP H (items++[.arr (.p (.sl sz true [])) sz frz []])
 | [],_=>(HP.nil H).nilArr sz frz
 | i::is,h=>by
  refine HP.cons (HP.snocNil sz frz h.2.2) h.1 ?_
  intro id hi j hj hjo
  rcases List.mem_append.1 hj with hj | hj
  ·exact h.2.1 id hi j hj hjo
  ·simp only [List.mem_singleton] at hj
   subst hj
   obtain ⟨_,_,_,_,e⟩:=hjo
   cases e
theorem Fp.snocNil (h:Fp H0 H f0 items) (sz:Nat) (frz:Bool):Fp H0 H f0 (items++[.arr (.p (.sl sz true [])) sz frz []]) :=
 h.trans
  {size:=Nat.le_refl _
   same:=fun _ _ _=>rfl
   now:=h.now.snocNil sz frz
   occ:=fun x hx id hxo=>by
    rcases List.mem_append.1 hx with hx | hx
    ·exact .inl ⟨x,hx,hxo⟩
    ·simp only [List.mem_singleton] at hx
     subst hx
     obtain ⟨_,_,_,_,e⟩:=hxo
     cases e }
theorem Fp.push (h:Fp H0 H f0 items) (o:HO):Fp H0 (H++[o]) f0 items :=
 h.trans
  {size:=by simp
   same:=fun id hlt _=>List.getElem?_append_left hlt
   now:=h.now.push o
   occ:=fun x hx id hxo=>.inl ⟨x,hx,hxo⟩ }
def zipT (sz:Nat) (enc:α→List PC):List (Int × List α)→List AV→List Z8
 | p::m,a::as=>.arr a sz false (p.2.map enc)::zipT sz enc m as
 | _,_=>[]
def zipE:List (Int × List α)→List AV→Ent
 | p::m,a::as=>([p.1],a)::zipE m as
 | _,_=>[]
def mapT (id sz:Nat) (enc:α→List PC) (m:List (Int × List α)) (as:List AV):List Z8:=mpT id 0 (zipE m as)::zipT sz enc m as
theorem Zi0 {κ υ:Type} [DecidableEq κ] (p:κ × υ) (m:List (κ × υ)) (x:κ) (z:υ):ZfJ (p::m) x z=if p.1=x then p.2 else ZfJ m x z:=by
 unfold ZfJ ZnA
 rw [List.find?_cons]
 by_cases h:p.1=x
 ·simp [h]
 ·simp [h]
theorem Zi1 (p:List Int × AV) (es:Ent) (x:List Int):Zhz (p::es) x=if p.1=x then some p.2 else Zhz es x:=by
 unfold Zhz
 rw [List.find?_cons]
 by_cases h:p.1=x
 ·simp [h]
 ·simp [h]
theorem ZoF {a:AV} {sz:Nat} {frz:Bool} {rows:List (List PC)} (h:Lies H (.arr a sz frz rows)):ZcQ a=true∧ZX a=true:=by
 rcases ZjS h with rfl | ⟨id,ver,rfl⟩
 ·exact ⟨rfl,rfl⟩
 ·exact ⟨rfl,rfl⟩
def mval (sz:Nat) (m:List (Int × List α)) (as:List AV) (x:Int):AV:=(Zhz (zipE m as) [x]).getD (.p (.sl sz true []))
theorem ZlL {sz:Nat} {enc:α→List PC} {x:Int}:∀ {m:List (Int × List α)} {as:List AV} {pre:List Z8},Fp H0 H f0 (pre++zipT sz enc m as)→ZX (mval sz m as x)=true
 | [],as,pre,h=>by cases as<;>rfl
 | p::m,[],pre,h=>rfl
 | p::m,a::as,pre,h=>by
  unfold mval
  simp only [zipE,Zi1]
  by_cases e:[p.1]=[x]
  ·rw [if_pos e]
   have:=h.get pre.length (i:=.arr a sz false (p.2.map enc)) (by rw [List.getElem?_append_right (Nat.le_refl _)];simp [zipT])
   exact (ZoF this).2
  ·rw [if_neg e]
   exact ZlL (pre:=pre++[.arr a sz false (p.2.map enc)]) (by simpa [zipT] using h)
theorem ZoZ {sz bytes:Nat} (enc:α→List PC) {x:Int} {e:α} {r:List α}:∀ {m:List (Int × List α)} {as:List AV} {pre:List Z8},as.length=m.length→Fp H0 H f0 (pre++zipT sz enc m as)→appI bytes (ZfJ m x []) [e]=some r →
  ∃ a1 H1 as',appV H sz bytes (mval sz m as x) [enc e]=some (a1,H1)∧ZcQ a1=true∧as'.length=(ZcT m x r).length∧mset (zipE m as) [x] a1=zipE (ZcT m x r) as'∧Fp H0 H1 f0 (pre++zipT sz enc (ZcT m x r) as')
 | [],[],pre,_,h,hr=>by
  have hn:=h.snocNil sz false
  simp only [zipT,List.append_nil] at hn
  obtain ⟨a',H',h1,h2⟩:=Fp.app (k:=pre.length) (a:=.p (.sl sz true [])) (sz:=sz) (frz:=false) (l:=[]) (m:=[e]) enc hn (by rw [List.getElem?_append_right (Nat.le_refl _)];simp) hr
  rw [ZlJ] at h2
  have hl:=h2.get pre.length (i:=.arr a' sz false (r.map enc)) (by rw [List.getElem?_append_right (Nat.le_refl _)];simp)
  exact ⟨a',H',[a'],h1,(ZoF hl).1,rfl,rfl,h2⟩
 | [],a::as,pre,hl,_,_=>by simp at hl
 | p::m,[],pre,hl,_,_=>by simp at hl
 | p::m,a::as,pre,hl,h,hr=>by
  rw [Zi0] at hr
  by_cases hx:p.1=x
  ·rw [if_pos hx] at hr
   obtain ⟨a',H',h1,h2⟩:=Fp.app (k:=pre.length) (a:=a) (sz:=sz) (frz:=false) (l:=p.2) (m:=[e]) enc h (by rw [List.getElem?_append_right (Nat.le_refl _)];simp [zipT]) hr
   have e1:(pre++zipT sz enc (p::m) (a::as)).set pre.length (.arr a' sz false (r.map enc))=pre++zipT sz enc ((x,r)::m) (a'::as):=by
    rw [List.set_append_right _ _ (Nat.le_refl _),Nat.sub_self];rfl
   rw [e1] at h2
   have hl2:=h2.get pre.length (i:=.arr a' sz false (r.map enc)) (by rw [List.getElem?_append_right (Nat.le_refl _)];simp [zipT])
   refine ⟨a',H',a'::as,?_,(ZoF hl2).1,?_,?_,?_⟩
   ·unfold mval
    simp only [zipE,Zi1]
    rw [if_pos (by rw [hx])]
    exact h1
   ·simp only [ZcT,hx,if_true,List.length_cons] at hl ⊢;exact hl
   ·simp only [zipE,mset,ZcT,hx,if_true]
   ·simp only [ZcT,hx,if_true];exact h2
  ·rw [if_neg hx] at hr
   obtain ⟨a1,H1,as',h1,h2,h3,h4,h5⟩:=ZoZ enc (m:=m) (as:=as) (pre:=pre++[.arr a sz false (p.2.map enc)]) (by simpa using hl) (by simpa [zipT] using h) hr
   have hx':¬ [p.1]=[x]:=fun e=>hx (by simpa using e)
   refine ⟨a1,H1,a::as',?_,h2,?_,?_,?_⟩
   ·unfold mval at h1 ⊢
    simp only [zipE,Zi1]
    rw [if_neg hx']
    exact h1
   ·simp only [ZcT,hx,if_false,List.length_cons,h3]
   ·simp only [zipE,mset,ZcT,hx,hx',if_false,h4]
   ·simp only [ZcT,hx,if_false]
    simpa [zipT] using h5
theorem Fp.mapApp {id sz bytes:Nat} (enc:α→List PC) {x:Int} {e:α} {r:List α} {m:List (Int × List α)} {as:List AV} (hF:Fp H0 H f0 (fix++mapT id sz enc m as)) (hl:as.length=m.length) (hr:appI bytes (ZfJ m x []) [e]=some r) :
  H[id]? = some (.lp mapL [] (.mp 0 (zipE m as)))∧ZX (mval sz m as x)=true∧∃ a1 H1 as' H2,appV H sz bytes (mval sz m as x) [enc e]=some (a1,H1)∧H1[id]? = some (.lp mapL [] (.mp 0 (zipE m as)))∧ZcQ a1=true ∧
   as'.length=(ZcT m x r).length∧H2=H1.set id (.lp mapL [] (.mp 0 (mset (zipE m as) [x] a1)))∧Fp H0 H2 f0 (fix++mapT id sz enc (ZcT m x r) as'):=by
 have hid:H[id]? = some (.lp mapL [] (.mp 0 (zipE m as))):=hF.get fix.length (i:=mpT id 0 (zipE m as)) (by rw [List.getElem?_append_right (Nat.le_refl _)];simp [mapT])
 have hF':Fp H0 H f0 ((fix++[mpT id 0 (zipE m as)])++zipT sz enc m as):=by simpa [mapT] using hF
 obtain ⟨a1,H1,as',h1,h2,h3,h4,h5⟩:=ZoZ enc hl hF' hr
 have hid1:H1[id]? = some (.lp mapL [] (.mp 0 (zipE m as))):=h5.get fix.length (i:=mpT id 0 (zipE m as)) (by rw [List.append_assoc,List.getElem?_append_right (Nat.le_refl _)];simp)
 obtain ⟨H2,e2,h6⟩:=Fp.setMp (k:=fix.length) (id:=id) (kn:=0) (es:=zipE m as) h5 (by rw [List.append_assoc,List.getElem?_append_right (Nat.le_refl _)];simp) (zipE (ZcT m x r) as')
 refine ⟨hid,ZlL hF',a1,H1,as',H2,h1,hid1,h2,h3,by rw [h4];exact e2,?_⟩
 have e3:(fix++[mpT id 0 (zipE m as)]++zipT sz enc (ZcT m x r) as').set fix.length (mpT id 0 (zipE (ZcT m x r) as'))=fix++mapT id sz enc (ZcT m x r) as':=by
  rw [List.append_assoc,List.set_append_right _ _ (Nat.le_refl _),Nat.sub_self];rfl
 rwa [e3] at h6
theorem Fp.mapNew {sz:Nat} (enc:α→List PC) (hF:Fp H0 H f0 items):∃ id H',id=H.length∧H'=H++[.lp mapL [] (.mp 0 [])]∧Fp H0 H' f0 (mapT id sz enc ([]:List (Int × List α)) []++items):=Fp.newMp hF 0
theorem hIt_HP {id sz kn:Nat} {enc:α→List PC} {m:List (Int × List α)} {as:List AV} {bs:List Nat} {clock:Nat} {seen:List Nat} {es:Ent} (hF:Fp H0 H f0 (fix++mapT id sz enc m as)) :
  HP (hIt H id mapL [] kn es bs clock seen) (fix++zipT sz enc m as):=by
 have hid:H[id]? = some (.lp mapL [] (.mp 0 (zipE m as))):=hF.get fix.length (i:=mpT id 0 (zipE m as)) (by rw [List.getElem?_append_right (Nat.le_refl _)];simp [mapT])
 have h1:HP H (fix++zipT sz enc m as):=by
  have:=hF.now.drop fix.length
  rwa [List.eraseIdx_append_of_length_le (Nat.le_refl _),Nat.sub_self] at this
 refine h1.same fun i hi q ho => ?_
 have hlt:=(h1.lies i hi).lt q ho
 have hne:q ≠ id:=by
  intro e
  subst e
  obtain ⟨j,hj,hji⟩:=List.getElem_of_mem hi
  have hk:(fix++mapT q sz enc m as)[fix.length]? = some (mpT q 0 (zipE m as)):=by rw [List.getElem?_append_right (Nat.le_refl _)];simp [mapT]
  by_cases hjf:j<fix.length
  ·have h2:(fix++mapT q sz enc m as)[j]? = some i:=by
    rw [List.getElem?_append_left hjf,← hji,List.getElem_append_left hjf,List.getElem?_eq_getElem hjf]
   exact hF.now.apart h2 hk (by omega) ho rfl
  ·have h2:(fix++mapT q sz enc m as)[j+1]? = some i:=by
    rw [List.getElem?_append_right (by omega),← hji,List.getElem_append_right (by omega)]
    simp only [mapT]
    rw [show j+1 - fix.length=(j - fix.length)+1 by omega,List.getElem?_cons_succ,List.getElem?_eq_getElem]
   exact hF.now.apart h2 hk (by omega) ho rfl
 unfold hIt
 rw [List.getElem?_append_left (by simpa using hlt),List.getElem?_set_ne (Ne.symm hne)]
theorem Zru {sz:Nat} {enc:α→List PC}:∀ {m:List (Int × List α)} {as:List AV},as.length=m.length→∀ (i:Nat) (p:List Int × AV),(zipE m as)[i]? = some p→∃ q,m[i]? = some q∧p.1=[q.1]∧(zipT sz enc m as)[i]? = some (.arr p.2 sz false (q.2.map enc))
 | [],[],_,i,p,h=>by simp [zipE] at h
 | [],_::_,hl,_,_,_=>by simp at hl
 | _::_,[],hl,_,_,_=>by simp at hl
 | q::m,a::as,hl,0,p,h=>by
  simp only [zipE,List.getElem?_cons_zero,Option.some.injEq] at h
  subst h
  exact ⟨q,rfl,rfl,rfl⟩
 | q::m,a::as,hl,i+1,p,h=>Zru (m:=m) (as:=as) (by simpa using hl) i p (by simpa [zipE] using h)
theorem Zot:∀ {m:List (Int × List α)} {as:List AV},as.length=m.length→(zipE m as).length=m.length
 | [],[],_=>rfl
 | [],_::_,hl=>by simp at hl
 | _::_,[],hl=>by simp at hl
 | q::m,a::as,hl=>by simp only [zipE,List.length_cons];rw [Zot (by simpa using hl)]
def rgF (f:List α→Option Bool):List (Int × List α)→Option Bool
 | []=>some false
 | p::m=>(f p.2).bind fun b=>(rgF f m).bind fun c=>some (b||c)
def ZmR (f:List α→Option Bool) (m:List (Int × List α)) (i:Nat):Bool:=match m[i]? with
 | some p=>f p.2==some true
 | none=>false
theorem Zrw {f:List α→Option Bool}:∀ {m:List (Int × List α)} {b:Bool},rgF f m=some b→(∀ (i:Nat) p,m[i]? = some p→∃ c,f p.2=some c)∧(List.range m.length).any (ZmR f m)=b
 | [],b,h=>by simp only [rgF,Option.some.injEq] at h;subst h;exact ⟨by simp,rfl⟩
 | p::m,b,h=>by
  obtain ⟨c,h1,h2⟩:=bind_some h
  obtain ⟨d,h3,h4⟩:=bind_some h2
  simp only [Option.some.injEq] at h4
  obtain ⟨i1,i2⟩:=Zrw h3
  refine ⟨fun i q hq => ?_,?_⟩
  ·cases i with
   | zero=>simp only [List.getElem?_cons_zero,Option.some.injEq] at hq;subst hq;exact ⟨c,h1⟩
   | succ i=>exact i1 i q (by simpa using hq)
  ·rw [List.length_cons,List.range_succ_eq_map,List.any_cons,List.any_map]
   have e1:ZmR f (p::m) 0=c:=by
    unfold ZmR
    simp only [List.getElem?_cons_zero,h1]
    cases c<;>rfl
   have e2:(ZmR f (p::m)) ∘ Nat.succ=ZmR f m:=by
    funext i
    simp only [Function.comp,ZmR,List.getElem?_cons_succ]
   rw [e1,e2,i2,h4]
end
section
variable {P:Program} {n:Nat} {s s0 s1:St} {H H':List HO} {items:List Z8}
theorem HP.two (h:HP H items) {i j:Nat} {x y:Z8} (hi:items[i]? = some x) (hj:items[j]? = some y) (hne:i ≠ j):HP H [x,y] :=
 ⟨h.get i hi,fun id hx z hz hzo=>by
  simp only [List.mem_singleton] at hz
  subst hz
  exact h.apart hi hj hne hx hzo,h.get j hj,by simp,trivial⟩
theorem HP.three (h:HP H items) {i j k:Nat} {x y z:Z8} (hi:items[i]? = some x) (hj:items[j]? = some y) (hk:items[k]? = some z) (hij:i ≠ j) (hik:i ≠ k) (hjk:j ≠ k):HP H [x,y,z] :=
 ⟨h.get i hi,fun id hx w hw hwo=>by
  rcases List.mem_cons.1 hw with rfl | hw
  ·exact h.apart hi hj hij hx hwo
  ·simp only [List.mem_singleton] at hw
   subst hw
   exact h.apart hi hk hik hx hwo,h.two hj hk hjk⟩
theorem vc_box {a:IC} {Q:Exit→St→Prop} (h:EvX P n a s Q):vc P n (.box a) Q s:=h
theorem vc_at {a:IC} {Q:Exit→St→Prop} (s1:St) (he:s=s1) (h:vc P n a Q s1):vc P n a Q s:=he ▸ h
theorem path_to {ops:List IOp} (h:(opsF Zip ops s).isSome=true) (he:opsD ops s=s0):Za P ops s s0:=he ▸ ZkF h
theorem hIt_map {id kn:Nat} {L:LC} {fr:List (Nat × AV)} {es:Ent} {bs:List Nat} {clock:Nat} {seen:List Nat} (hid:id<H.length):(hIt H id L fr kn es bs clock seen)[id]? = some (.lp L fr (.mps kn es bs clock)):=by
 unfold hIt
 rw [List.getElem?_append_left (by simpa using hid),List.getElem?_set_self hid]
theorem hIt_it {id kn:Nat} {L:LC} {fr:List (Nat × AV)} {es:Ent} {bs:List Nat} {clock:Nat} {seen:List Nat}:(hIt H id L fr kn es bs clock seen)[H.length]? = some (.lp itL [] (.it id clock seen clock)):=by
 unfold hIt
 rw [List.getElem?_append_right (by simp)];simp
theorem ZqS {d id:Nat} {xs:List IX} {es:Ent} {x:Int} {zero r:AV} (hs:s.H=H) (hy:xs.map (ev s.fr)=[.map id,keyA 0 [x]]) (hH:H[id]? = some (.lp mapL [] (.mp 0 es))) (hr:r=(Zhz es [x]).getD zero) (hno:ZX r=true) :
  ZI P (.sp (some d) (.mapGet 0 false zero) xs) s ⟨put s.fr d r,s.bx,s.H⟩:=by
 subst hs
 exact Zm8 (d:=some d) hy hH rfl (by rw [hr];rfl) hno rfl
theorem ZqR {id:Nat} {xs:List IX} {es:Ent} {x:Int} {y:AV} (hs:s.H=H) (hy:xs.map (ev s.fr)=[.map id,keyA 0 [x],y]) (hH:H[id]? = some (.lp mapL [] (.mp 0 es))) (hok:ZcQ y=true) (hH':H'=H.set id (.lp mapL [] (.mp 0 (mset es [x] y)))) :
  ZI P (.sp none (.mapSet 0) xs) s ⟨s.fr,s.bx,H'⟩:=by
 subst hs
 exact Zm7 hy hH rfl hok (by rw [hH'])
theorem ZpR {d:Nat} {xs:List IX} {id j kn i x:Nat} {L:LC} {fr:List (Nat × AV)} {es:Ent} {bs:List Nat} {clock:Nat} {seen:List Nat} {p:List Int × AV} (hs:s.H=H) (hx:xs.map (ev s.fr)=[.map j]) (hi:es[i]? = some p) (hb:bs[i]? = some x) (hv:ZcQ p.2=true)
  (hH:H[id]? = some (.lp L fr (.mps kn es bs clock))) (hJ:H[j]? = some (.lp itL [] (.it id clock (seen++[x]) clock))) :
  ZI P (.sp (some d) .entry xs) s ⟨put s.fr d (.tup [keyA kn p.1,p.2]),s.bx,s.H⟩:=by
 subst hs
 exact ZqU hi hb hv hx hH hJ
end
end Go.Eng

