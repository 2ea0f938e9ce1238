/- Part of the proof; written by a program out of the texts in wip/. -/
import Derived.Laws.StructEq
import Derived.ChangeKeysEq
import Derived.Test.YthipedbbcjemhaaGreatPlanCoversE7
set_option linter.unusedVariables false
set_option linter.unusedSimpArgs false
namespace Go.Eng
open Go
theorem Zgb {P:Program} {w:World} {t e ty:TypeId} (ht:P.underlying t=some (.slice e)) (A:Option Addr) (m cap:Nat) :
  (Builtin.len_ #[t] ty #[.slice A m cap]).run P w = .ok (.int .i64 m) w:=by
 simp [Builtin.len_,run_underlying ht,goInt]
theorem Zml {P:Program} {w:World} {t e ty:TypeId} {m:Nat} (ht:P.underlying t=some (.array m e)) (x:Value) :
  (Builtin.len_ #[t] ty #[x]).run P w = .ok (.int .i64 m) w:=by
 unfold Builtin.len_
 simp [run_underlying ht,goInt]
theorem Zjz {P:Program} {w:World} {t:TypeId} (ht:P.underlying t=some .bool) (d:Nat) (x y:Bool):(Op.equalIn (d+1) t (.bool x) (.bool y)).run P w = .ok (x==y) w:=by
 simp [Op.equalIn,run_underlying ht]
theorem ZhI {P:Program} {w:World} {t:TypeId} (ht:P.underlying t=some .bool) (x y:Bool):(Op.equal t (.bool x) (.bool y)).run P w = .ok (x==y) w:=by
 unfold Op.equal Op.maxDepth
 exact Zjz ht 9999 x y
theorem Zkh {P:Program} {w:World} {t el:TypeId} (hu:P.underlying t=some (.slice el)) (d:Nat) (A:Option Addr) (l1 c1 l0 c0:Nat) :
  (Op.equalIn (d+1) t (.slice A l1 c1) (.slice none l0 c0)).run P w = .ok A.isNone w:=by
 cases A<;>simp [Op.equalIn,run_underlying hu]
theorem ZjZ {c:Cx} {x:AV} {xs:List AV} {vs:List Value} (h:VRL c (x::xs) vs):∃ u us,vs=u::us∧VR c x u∧VRL c xs us:=by
 rw [VRL] at h;exact h
theorem Zgq {P:Program} {w:World} {c:Cx} {d:Nat} {xs ys:Array Value}:∀ {fs:List Field} {ks:List Bool} {off:Nat} {as bs:List AV} {vs us:List Value} {e:Bool},
  ZcL P off fs ks=true→Zbw ks as bs=some e→VRL c as vs→VRL c bs us→xs.toList.drop off=vs→ys.toList.drop off=us→(Op.eqFields (d+1) xs ys fs).run P w = .ok e w
 | [],[],off,as,bs,vs,us,e,_,he,_,_,_,_=>by
  cases as<;>cases bs<;>simp [Zbw] at he
  subst he
  rfl
 | f::fs,k::ks,off,as,bs,vs,us,e,hf,he,ha,hb,hx,hy=>by
  simp only [ZcL,Bool.and_eq_true,Bool.not_eq_true',decide_eq_true_eq,beq_eq_false_iff_ne] at hf
  obtain ⟨⟨⟨hn,ho⟩,hk⟩,hf⟩:=hf
  cases as with
  | nil=>cases k<;>simp [Zbw] at he
  | cons a as =>
   cases bs with
   | nil =>
    exfalso
    cases k<;>cases a<;>simp [Zbw] at he
   | cons b bs =>
    obtain ⟨u,us',rfl,hu,ha'⟩:=ZjZ ha
    obtain ⟨v,vs',rfl,hv,hb'⟩:=ZjZ hb
    have hxo:xs[f.offset]? = some u:=by
     have:=congrArg (·[0]?) hx
     simpa [ho] using this
    have hyo:ys[f.offset]? = some v:=by
     have:=congrArg (·[0]?) hy
     simpa [ho] using this
    have hx':xs.toList.drop (off+1)=us':=by
     have:=congrArg List.tail hx
     simpa using this
    have hy':ys.toList.drop (off+1)=vs':=by
     have:=congrArg List.tail hy
     simpa using this
    cases k with
    | true =>
     cases hty:P.underlying f.type with
     | none=>simp [hty] at hk
     | some T =>
      cases T<;>simp [hty] at hk
      rename_i kk
      have hpl:P.plainKey f.type=true:=by simp [Program.plainKey,hty]
      have h1:=run_part_plain (P:=P) w hpl hxo
      have h2:=run_part_plain (P:=P) w hpl hyo
      cases a<;>try (simp [Zbw] at he;done)
      rename_i pa
      cases pa<;>try (simp [Zbw] at he;done)
      rename_i ka na
      cases b<;>try (simp [Zbw] at he;done)
      rename_i pb
      cases pb<;>try (simp [Zbw] at he;done)
      rename_i kb nb
      simp only [Zbw] at he
      split at he
      ·rename_i hkk
       subst hkk
       cases hr:Zbw ks as bs with
       | none=>simp [hr] at he
       | some e' =>
        simp only [hr,Option.map_some,Option.some.injEq] at he
        have ih:=Zgq (P:=P) (w:=w) (d:=d) hf hr ha' hb' hx' hy'
        rw [VR,PR] at hu hv
        subst hu hv
        have h3:(Op.equalIn (d+1) f.type (.int ka na) (.int ka nb)).run P w = .ok (na==nb) w:=by simp [Op.equalIn,run_underlying hty]
        simp only [Op.eqFields,hn,ne_eq,not_false_eq_true,if_true,Sem.run_bind,h1,h2,h3,Result.andThen_ok]
        subst he
        by_cases hnn:na=nb
        ·simp [hnn,ih]
        ·have:(na==nb)=false:=by simpa using hnn
         simp [this]
      ·cases he
    | false =>
     cases hty:P.underlying f.type with
     | none=>simp [hty] at hk
     | some T =>
      cases T<;>simp [hty] at hk
      have hpl:P.plainKey f.type=true:=by simp [Program.plainKey,hty]
      have h1:=run_part_plain (P:=P) w hpl hxo
      have h2:=run_part_plain (P:=P) w hpl hyo
      cases a<;>try (simp [Zbw] at he;done)
      rename_i pa
      cases pa<;>try (simp [Zbw] at he;done)
      rename_i na
      cases b<;>try (simp [Zbw] at he;done)
      rename_i pb
      cases pb<;>try (simp [Zbw] at he;done)
      rename_i nb
      simp only [Zbw] at he
      cases hr:Zbw ks as bs with
      | none=>simp [hr] at he
      | some e' =>
       simp only [hr,Option.map_some,Option.some.injEq] at he
       have ih:=Zgq (P:=P) (w:=w) (d:=d) hf hr ha' hb' hx' hy'
       rw [VR,PR] at hu hv
       subst hu hv
       have h3:(Op.equalIn (d+1) f.type (.bool na) (.bool nb)).run P w = .ok (na==nb) w:=by simp [Op.equalIn,run_underlying hty]
       simp only [Op.eqFields,hn,ne_eq,not_false_eq_true,if_true,Sem.run_bind,h1,h2,h3,Result.andThen_ok]
       subst he
       by_cases hnn:na=nb
       ·simp [hnn,ih]
       ·have:(na==nb)=false:=by simpa using hnn
        simp [this]
 | [],_::_,_,_,_,_,_,_,hf,_,_,_,_,_=>by simp [ZcL] at hf
 | _::_,[],_,_,_,_,_,_,hf,_,_,_,_,_=>by simp [ZcL] at hf
theorem ZhH {P:Program} {w:World} {c:Cx} {t:TypeId} {ks:List Bool} {as bs:List AV} {vs us:List Value} {e:Bool} (h:eqOK P t ks=true) (he:Zbw ks as bs=some e) (ha:VRL c as vs) (hb:VRL c bs us) :
  (Op.equal t (.agg vs.toArray) (.agg us.toArray)).run P w = .ok e w:=by
 simp only [eqOK,Bool.and_eq_true,Bool.not_eq_true'] at h
 obtain ⟨⟨h1,h2⟩,_⟩:=h
 split at h1
 ·rename_i fs hu
  have hfo:P.fieldsOf t=fs:=by simp [Program.fieldsOf,hu]
  unfold Op.equal Op.maxDepth
  rw [run_equalIn_struct w 9999 t vs.toArray us.toArray (by rw [hfo];exact hu) h2,hfo]
  exact Zgq (d:=9998) h1 he ha hb (by simp) (by simp)
 ·cases h1
theorem Ze0 {α:Type} {a:Array α} {l:List α} (h:a.toList=l):a=l.toArray:=by subst h;simp
section
variable {P:Program} {k:K0} {n:Nat} {g:G} {s:St} {a:Act} {w:World} {ts:Array TypeId} {ty:TypeId}
theorem ZnR {c:Cx} {vs vs1 vs2:List AV} {lo hi:Bool} {d1 d2 l h:Nat} (h1:Zey lo d1 vs=some (l,vs1)) (h2:Zey hi d2 vs1=some (h,vs2))
  {L Hi M:Option Operand} {f:Operand→Value} (hL:L.isSome=lo) (hHi:Hi.isSome=hi) (hxs:VRL c vs ((ZjP L Hi M).map f)) :
  ((L.map f=none∧l=d1)∨∃ k i,L.map f=some (.int k i)∧0≤i∧l=i.toNat) ∧
  ((Hi.map f=none∧h=d2)∨∃ k i,Hi.map f=some (.int k i)∧0≤i∧h=i.toNat) ∧
  VRL c vs2 (M.toList.map f):=by
 subst hL hHi
 unfold ZjP at hxs
 rw [List.map_append,List.map_append] at hxs
 rcases Zhx h1 hxs with ⟨e1,k1,i1,us1,ha,hb,hc,hd⟩ | ⟨e1,rfl,rfl⟩
 ·cases L with
  | none=>simp at e1
  | some L =>
   simp only [Option.toList_some,List.map_cons,List.map_nil,List.cons_append,List.nil_append,List.cons.injEq] at ha
   obtain ⟨ha,rfl⟩:=ha
   rcases Zhx h2 hd with ⟨e2,k2,i2,us2,ha2,hb2,hc2,hd2⟩ | ⟨e2,rfl,rfl⟩
   ·cases Hi with
    | none=>simp at e2
    | some Hi =>
     simp only [Option.toList_some,List.map_cons,List.map_nil,List.cons_append,List.nil_append,List.cons.injEq] at ha2
     obtain ⟨ha2,rfl⟩:=ha2
     exact ⟨.inr ⟨k1,i1,by simp [ha],hb,hc⟩,.inr ⟨k2,i2,by simp [ha2],hb2,hc2⟩,hd2⟩
   ·cases Hi with
    | some Hi=>simp at e2
    | none=>exact ⟨.inr ⟨k1,i1,by simp [ha],hb,hc⟩,.inl ⟨rfl,rfl⟩,by simpa using hd⟩
 ·cases L with
  | some L=>simp at e1
  | none =>
   simp only [Option.toList_none,List.map_nil,List.nil_append] at hxs
   rcases Zhx h2 hxs with ⟨e2,k2,i2,us2,ha2,hb2,hc2,hd2⟩ | ⟨e2,rfl,rfl⟩
   ·cases Hi with
    | none=>simp at e2
    | some Hi =>
     simp only [Option.toList_some,List.map_cons,List.map_nil,List.cons_append,List.nil_append,List.cons.injEq] at ha2
     obtain ⟨ha2,rfl⟩:=ha2
     exact ⟨.inl ⟨rfl,rfl⟩,.inr ⟨k2,i2,by simp [ha2],hb2,hc2⟩,hd2⟩
   ·cases Hi with
    | some Hi=>simp at e2
    | none=>exact ⟨.inl ⟨rfl,rfl⟩,.inl ⟨rfl,rfl⟩,by simpa using hxs⟩
theorem Znb {x r:AV} {vs:List AV} {sz:Nat} {lo hi mx:Bool} {c:Cx} (hv:ZhF sz lo hi mx x vs=some r) {X:Operand} {L Hi M:Option Operand} {t e:TypeId} {f:Operand→Value} (ht:P.underlying t=some (.slice e)) (he:ZcA P e sz=true)
  (hL:L.isSome=lo) (hHi:Hi.isSome=hi) (hM:M.isSome=mx) (hx:VR c x (f X)) (hxs:VRL c vs ((ZjP L Hi M).map f)) :
  ∃ u,(Instr.sliceAt t (f X) (L.map f) (Hi.map f) (M.map f)).run P w = .ok u w∧VR c r u∧ZX r=true:=by
 have hs:(sizeOf e).run P w = .ok sz w:=Zci he
 unfold ZhF at hv
 split at hv
 ·rename_i sz' full rows
  rw [VR,PR] at hx
  obtain ⟨A,cap,hX,hcap,hfull,hrows⟩:=hx
  cases hb1:Zey lo 0 vs with
  | none=>simp [hb1] at hv
  | some p1 =>
   obtain ⟨l,vs1⟩:=p1
   simp only [hb1,Option.bind_some] at hv
   cases hb2:Zey hi rows.length vs1 with
   | none=>simp [hb2] at hv
   | some p2 =>
    obtain ⟨h,vs2⟩:=p2
    simp only [hb2,Option.bind_some] at hv
    cases hb3:Zey mx h vs2 with
    | none=>simp [hb3] at hv
    | some p3 =>
     obtain ⟨m,vs3⟩:=p3
     simp only [hb3,Option.bind_some] at hv
     split at hv
     ·rename_i hcond
      obtain ⟨hc1,hc2,hc3,hc4,hc5,hc6⟩:=hcond
      subst hc4 hc5
      simp only [Option.some.injEq] at hv
      subst hv
      obtain ⟨b1,b2,b3⟩:=ZnR hb1 hb2 hL hHi hxs
      have hM':∃ mm,((M.map f=none∧mm=cap)∨∃ k i,M.map f=some (.int k i)∧0≤i∧mm=i.toNat)∧m≤mm∧mm≤cap∧(mx=true→mm=m):=by
       rcases Zhx hb3 b3 with ⟨e3,k3,i3,us3,ha3,hb3',hc3',_⟩ | ⟨e3,_,_⟩
       ·cases M with
        | none=>simp at hM;rw [e3] at hM;cases hM
        | some M =>
         simp only [Option.toList_some,List.map_cons,List.map_nil,List.cons.injEq] at ha3
         exact ⟨m,.inr ⟨k3,i3,by simp [ha3.1],hb3',hc3'⟩,Nat.le_refl _,by omega,fun _=>rfl⟩
       ·cases M with
        | some M=>simp at hM;rw [e3] at hM;cases hM
        | none=>exact ⟨cap,.inl ⟨rfl,rfl⟩,by omega,Nat.le_refl _,fun e=>by rw [e3] at e;cases e⟩
      obtain ⟨mm,m1,m2,m3,m4⟩:=hM'
      have hsb:=ZgR (P:=P) (w:=w) (len:=rows.length) (cap:=cap) hcap b1 b2 m1 (by rw [Option.isSome_map,Option.isSome_map,hM,hHi];exact hc6) hc2 m2 m3
      refine ⟨.slice (if mm=l then A else A.map (·.add (l * sz'))) (m - l) (mm - l),?_,?_,rfl⟩
      ·unfold Instr.sliceAt
       simp only [Sem.run_bind,run_underlying ht,Result.andThen_ok]
       unfold Instr.slice
       simp only [Sem.run_bind,run_underlying ht,Result.andThen_ok,hX,hsb,hs,Sem.run_pure]
      ·rw [VR,PR]
       refine ⟨if mm=l then A else A.map (·.add (l * sz')),mm - l,?_,?_,?_,?_⟩
       ·simp only [List.length_drop,List.length_take,Nat.min_eq_left hc3]
       ·simp only [List.length_drop,List.length_take,Nat.min_eq_left hc3];omega
       ·intro e
        simp only [List.length_drop,List.length_take,Nat.min_eq_left hc3]
        rw [m4 e]
       ·intro hne
        have hlm:l<m:=by
         rcases Nat.lt_or_ge l m with h | h
         ·exact h
         ·exact absurd (List.drop_eq_nil_of_le (by simp;omega)) hne
        obtain ⟨a0,rfl,hr⟩:=hrows (by intro e0;subst e0;simp at hc3;omega)
        rw [if_neg (by omega)]
        exact ⟨_,rfl,ZqD hr l m⟩
     ·cases hv
 ·rename_i sz' id ver off len
  rw [VR] at hx
  obtain ⟨ver0,frz,rows,b,cap,hH,hle,hX,hcap,hcur⟩:=hx
  cases hb1:Zey lo 0 vs with
  | none=>simp [hb1] at hv
  | some p1 =>
   obtain ⟨l,vs1⟩:=p1
   simp only [hb1,Option.bind_some] at hv
   cases hb2:Zey hi len vs1 with
   | none=>simp [hb2] at hv
   | some p2 =>
    obtain ⟨h,vs2⟩:=p2
    simp only [hb2,Option.bind_some] at hv
    split at hv
    ·rename_i hcond
     obtain ⟨hc1,hc2,hc3,hc4,hc5,hc6⟩:=hcond
     subst hc6
     simp only [Option.some.injEq] at hv
     subst hv
     obtain ⟨b1,b2,b3⟩:=ZnR hb1 hb2 hL hHi hxs
     have hMn:M=none:=by
      cases M with
      | none=>rfl
      | some M=>simp at hM;rw [hc2] at hM;cases hM
     subst hMn
     have hsb:=ZgR (P:=P) (w:=w) (len:=len) (cap:=cap) (mx:=none) (m:=cap) hcap b1 b2 (.inl ⟨rfl,rfl⟩) (by simp) hc3 (Nat.le_trans hc4 hcap) (Nat.le_refl _)
     refine ⟨.slice (if cap=l then some ⟨b,off * sz',none⟩ else (some (⟨b,off * sz',none⟩:Addr)).map (·.add (l * sz'))) (h - l) (cap - l),?_,?_,rfl⟩
     ·unfold Instr.sliceAt
      simp only [Sem.run_bind,run_underlying ht,Result.andThen_ok]
      unfold Instr.slice
      simp only [Sem.run_bind,run_underlying ht,Result.andThen_ok,hX,Option.map_none,hsb,hs,Sem.run_pure]
     ·rw [VR]
      clear b1 b2 b3 hsb hb1 hb2 hxs
      refine ⟨ver0,frz,rows,b,cap - l,hH,hle,?_,by omega,?_⟩
      ·congr 1
       by_cases e:cap=l
       ·have:l=0:=by omega
        subst this
        simp [e]
       ·rw [if_neg e]
        simp only [Option.map_some,ZeM,Nat.add_mul]
      ·intro e
       obtain ⟨vs',h1,h2,h3,h4⟩:=hcur e
       refine ⟨vs',h1,by omega,h3,?_⟩
       rwa [show off+l+(cap - l)=off+cap by omega]
    ·cases hv
 ·cases hv
theorem Zpm {c:Cx} {xs:List AV} {us:List Value} {r:AV} (h:minI xs=some r) (hx:VRL c xs us):∃ u,(Builtin.min_ ts ty us.toArray).run P w = .ok u w∧VR c r u∧ZX r=true:=by
 unfold minI at h
 split at h
 ·simp only [Option.some.injEq] at h
  subst h
  obtain ⟨v,u,rfl,h1,h2⟩:=ZeG hx
  rw [Zcd h1,Zcd h2]
  exact ⟨_,by simp [Builtin.min_,Builtin.min2],Zc5 _ _,rfl⟩
 ·simp only [Option.some.injEq] at h
  subst h
  obtain ⟨v,u,t,rfl,h1,h2,h3⟩:=Ziz hx
  rw [Zcd h1,Zcd h2,Zcd h3]
  exact ⟨_,by simp [Builtin.min_,Builtin.min2],Zc5 _ _,rfl⟩
 ·cases h
theorem Zpo {c:Cx} {xs:List AV} {us:List Value} {r:AV} (h:maxI xs=some r) (hx:VRL c xs us):∃ u,(Builtin.max_ ts ty us.toArray).run P w = .ok u w∧VR c r u∧ZX r=true:=by
 unfold maxI at h
 split at h
 ·simp only [Option.some.injEq] at h
  subst h
  obtain ⟨v,u,rfl,h1,h2⟩:=ZeG hx
  rw [Zcd h1,Zcd h2]
  exact ⟨_,by simp [Builtin.max_,Builtin.max2],Zc5 _ _,rfl⟩
 ·simp only [Option.some.injEq] at h
  subst h
  obtain ⟨v,u,t,rfl,h1,h2,h3⟩:=Ziz hx
  rw [Zcd h1,Zcd h2,Zcd h3]
  exact ⟨_,by simp [Builtin.max_,Builtin.max2],Zc5 _ _,rfl⟩
 ·cases h
theorem Zf6 {α:Type} {off m:Nat} {l r:List α} (h:sub off m l=some r):off+m≤l.length∧r=(l.drop off).take m:=by
 unfold sub at h
 split at h
 ·simp only [Option.some.injEq] at h;exact ⟨by assumption,h.symm⟩
 ·cases h
theorem ZoJ {isA:Bool} {cs:List AV} {r:AV} (h:mk isA cs=some r) (he:isA=false):cs.length=1:=by
 subst he
 simp only [mk,Bool.false_eq_true,if_false] at h
 split at h
 ·rfl
 ·cases h
set_option maxHeartbeats 1000000 in
theorem vsound (h:Rel k n g s a w) {o:Oper} {d:Nat} {v:VI} {xs:List IX} (hc:chkV P n o d v xs=true) {r:AV} (hv:Z7 v (xs.map (ev s.fr))=some r) :
  ∃ u,(execOp a.eval o).run P w = .ok (.value u) w∧VR (cx k g s.H w) r u∧top r=true:=by
 simp only [chkV,Bool.and_eq_true] at hc
 obtain ⟨_,hc⟩:=hc
 cases v with
 | mov =>
  simp only at hc
  split at hc
  ·rename_i x hop
   have hm:=ZQ h hc
   have ht:=Zbd h hc
   simp only [Z7] at hv
   split at hv
   ·rename_i y hy
    simp only [Option.some.injEq] at hv
    subst hv
    rw [hy] at hm ht
    obtain ⟨u,e,hu⟩:=ZdZ hm
    simp only [List.map_cons,List.map_nil,List.cons.injEq,and_true] at e
    exact ⟨u,by simp [execOp,hop,e],hu,ht _ (by simp)⟩
   ·cases hv
  ·rename_i x hop
   have hm:=ZQ h hc
   have ht:=Zbd h hc
   simp only [Z7] at hv
   split at hv
   ·rename_i y hy
    simp only [Option.some.injEq] at hv
    subst hv
    rw [hy] at hm ht
    obtain ⟨u,e,hu⟩:=ZdZ hm
    simp only [List.map_cons,List.map_nil,List.cons.injEq,and_true] at e
    exact ⟨u,by simp [execOp,hop,e],hu,ht _ (by simp)⟩
   ·cases hv
  ·cases hc
 | bin op =>
  simp only at hc
  split at hc
  ·rename_i op' t x y yt hop
   simp only [Bool.and_eq_true,decide_eq_true_eq] at hc
   obtain ⟨rfl,hc⟩:=hc
   have hm:=ZQ h hc
   simp only [Z7] at hv
   split at hv
   ·rename_i k1 a1 k2 b1 hy
    split at hv
    ·rename_i hk
     subst hk
     rw [hy] at hm
     obtain ⟨u1,u2,e,h1,h2⟩:=ZeG hm
     simp only [List.map_cons,List.map_nil,List.cons.injEq,and_true] at e
     have e1:=Zcd h1
     have e2:=Zcd h2
     cases hb:binI op k1 a1 b1 with
     | none=>simp [hb] at hv
     | some pc =>
      simp only [hb,Option.map_some,Option.some.injEq] at hv
      subst hv
      obtain ⟨u,hu1,hu2⟩:=ZqZ (P:=P) (w:=w) (t:=t) hb
      refine ⟨u,?_,hu2 _,rfl⟩
      have hg:(eqGuard op t x y (.int k1 a1) (.int k1 b1)).run P w = .ok () w:=by unfold eqGuard;split<;>rfl
      simp [execOp,hop,e.1,e.2,e1,e2,hg,hu1]
    ·cases hv
   ·cases hv
  ·cases hc
 | sh op =>
  simp only at hc
  split at hc
  ·rename_i op' t x y yt hop
   simp only [Bool.and_eq_true,decide_eq_true_eq] at hc
   obtain ⟨rfl,hc⟩:=hc
   have hm:=ZQ h hc
   simp only [Z7] at hv
   split at hv
   ·rename_i k1 a1 k2 b1 hy
    rw [hy] at hm
    obtain ⟨u1,u2,e,h1,h2⟩:=ZeG hm
    simp only [List.map_cons,List.map_nil,List.cons.injEq,and_true] at e
    have e1:=Zcd h1
    have e2:=Zcd h2
    cases hb:shI op k1 a1 b1 with
    | none=>simp [hb] at hv
    | some pc =>
     simp only [hb,Option.map_some,Option.some.injEq] at hv
     subst hv
     obtain ⟨u,hu1,hu2⟩:=run_shI (P:=P) (w:=w) (t:=t) (k':=k2) hb
     refine ⟨u,?_,hu2 _,rfl⟩
     have hg:(eqGuard op t x y (.int k1 a1) (.int k2 b1)).run P w = .ok () w:=by unfold eqGuard;split<;>rfl
     simp [execOp,hop,e.1,e.2,e1,e2,hg,hu1]
   ·cases hv
  ·cases hc
 | eqB neg =>
  simp only at hc
  split at hc
  ·rename_i op t x y yt hop
   simp only [Bool.and_eq_true,decide_eq_true_eq] at hc
   obtain ⟨⟨hop',hty⟩,hc⟩:=hc
   have hm:=ZQ h hc
   simp only [Z7] at hv
   split at hv
   ·rename_i a1 b1 hy
    simp only [Option.some.injEq] at hv
    subst hv
    rw [hy] at hm
    obtain ⟨u1,u2,e,h1,h2⟩:=ZeG hm
    simp only [List.map_cons,List.map_nil,List.cons.injEq,and_true] at e
    have e1:=Zjd h1
    have e2:=Zjd h2
    have hty':P.underlying t=some .bool:=by
     split at hty
     ·assumption
     ·cases hty
    have hg:(eqGuard op t x y (.bool a1) (.bool b1)).run P w = .ok () w:=by unfold eqGuard;split<;>rfl
    cases neg with
    | true =>
     simp only [if_true] at hop'
     subst hop'
     refine ⟨_,?_,Zdk _,rfl⟩
     simp [execOp,hop,e.1,e.2,e1,e2,hg,binOp,ZhI hty']
     cases a1<;>cases b1<;>rfl
    | false =>
     simp only [Bool.false_eq_true,if_false] at hop'
     subst hop'
     refine ⟨_,?_,Zdk _,rfl⟩
     simp [execOp,hop,e.1,e.2,e1,e2,hg,binOp,ZhI hty']
   ·cases hv
  ·cases hc
 | eqS neg ks =>
  simp only at hc
  split at hc
  ·rename_i op t x y ty' hop
   simp only [Bool.and_eq_true,decide_eq_true_eq] at hc
   obtain ⟨⟨hop',heq⟩,hm⟩:=hc
   have hm:=ZQ h hm
   simp only [Z7] at hv
   split at hv
   ·rename_i ca cb hxs
    cases he:Zbw ks ca cb with
    | none=>simp [he] at hv
    | some e =>
     simp only [he,Option.map_some,Option.some.injEq] at hv
     subst hv
     rw [hxs] at hm
     simp only [List.map_cons,List.map_nil] at hm
     obtain ⟨u1,us1,e1,v1,hm⟩:=ZjZ hm
     obtain ⟨u2,us2,e2,v2,hm⟩:=ZjZ hm
     simp only [List.cons.injEq] at e1
     obtain ⟨rfl,e1⟩:=e1
     rw [← e1] at e2
     simp only [List.cons.injEq] at e2
     obtain ⟨rfl,e2⟩:=e2
     rw [VR] at v1 v2
     obtain ⟨vs,ev,v1⟩:=v1
     obtain ⟨us,eu,v2⟩:=v2
     have hrun:=ZhH (w:=w) heq he v1 v2
     have hgt:P.eqGuardType P.depth t=false:=by
      simp only [eqOK,Bool.and_eq_true,Bool.not_eq_true'] at heq
      exact heq.2
     have hg:(eqGuard op t x y (.agg vs.toArray) (.agg us.toArray)).run P w = .ok () w:=by
      unfold eqGuard
      split<;>simp [run_program,hgt]
     cases neg with
     | true =>
      simp only [if_true] at hop'
      subst hop'
      refine ⟨_,?_,Zdk _,rfl⟩
      simp [execOp,hop,ev,eu,hg,binOp,hrun]
     | false =>
      simp only [Bool.false_eq_true,if_false] at hop'
      subst hop'
      refine ⟨_,?_,Zdk _,rfl⟩
      simp [execOp,hop,ev,eu,hg,binOp,hrun]
   ·cases hv
  ·cases hc
 | not =>
  simp only at hc
  split at hc
  ·rename_i t x hop
   have hm:=ZQ h hc
   simp only [Z7] at hv
   split at hv
   ·rename_i b hy
    simp only [Option.some.injEq] at hv
    subst hv
    rw [hy] at hm
    obtain ⟨u,e,hu⟩:=ZdZ hm
    simp only [List.map_cons,List.map_nil,List.cons.injEq,and_true] at e
    have e1:=Zjd hu
    exact ⟨_,by simp [execOp,hop,e,e1,Op.unary],Zdk _,rfl⟩
   ·cases hv
  ·cases hc
 | neg =>
  simp only at hc
  split at hc
  ·rename_i t x hop
   have hm:=ZQ h hc
   simp only [Z7] at hv
   split at hv
   ·rename_i k1 b hy
    simp only [Option.some.injEq] at hv
    subst hv
    rw [hy] at hm
    obtain ⟨u,e,hu⟩:=ZdZ hm
    simp only [List.map_cons,List.map_nil,List.cons.injEq,and_true] at e
    have e1:=Zcd hu
    exact ⟨_,by simp only [execOp,hop,e,e1,Op.unary,Op.intArith,Sem.run_bind,Sem.run_pure,Result.andThen_ok],Zc5 _ _,rfl⟩
   ·cases hv
  ·cases hc
 | conv k1 =>
  simp only at hc
  split at hc
  ·rename_i src dst x hop
   simp only [Bool.and_eq_true] at hc
   obtain ⟨⟨hsrc,hdst⟩,hc⟩:=hc
   have hm:=ZQ h hc
   simp only [Z7] at hv
   split at hv
   ·rename_i k2 b hy
    simp only [Option.some.injEq] at hv
    subst hv
    rw [hy] at hm
    obtain ⟨u,e,hu⟩:=ZdZ hm
    simp only [List.map_cons,List.map_nil,List.cons.injEq,and_true] at e
    have e1:=Zcd hu
    obtain ⟨ds,hds⟩:=Option.isSome_iff_exists.1 hsrc
    have hdst':P.underlying dst=some (.int k1):=by
     split at hdst
     ·simp only [decide_eq_true_eq] at hdst;subst hdst;assumption
     ·cases hdst
    exact ⟨_,by simp [execOp,hop,e,e1,convert,run_underlying hds,run_underlying hdst',Conv.intToInt],Zc5 _ _,rfl⟩
   ·cases hv
  ·cases hc
 | pick =>
  simp only at hc
  split at hc
  ·rename_i c1 x y hop
   have hm:=ZQ h hc
   have ht:=Zbd h hc
   simp only [Z7] at hv
   split at hv
   ·rename_i b a1 b1 hy
    simp only [Option.some.injEq] at hv
    subst hv
    rw [hy] at hm ht
    obtain ⟨u1,u2,u3,e,h1,h2,h3⟩:=Ziz hm
    simp only [List.map_cons,List.map_nil,List.cons.injEq,and_true] at e
    have e1:=Zjd h1
    refine ⟨if b then u2 else u3,?_,?_,?_⟩
    ·simp [execOp,hop,e.1,e.2.1,e.2.2,e1,asBool]
    ·cases b<;>simp [h2,h3]
    ·cases b<;>exact ht _ (by simp)
   ·cases hv
  ·cases hc
 | faddr off =>
  simp only at hc
  split at hc
  ·rename_i st x f hop
   simp only [Bool.and_eq_true] at hc
   obtain ⟨hf,hc⟩:=hc
   have hm:=ZQ h hc
   simp only [Z7] at hv
   split at hv
   ·rename_i y hy
    rw [hy] at hm
    obtain ⟨u,e,hu⟩:=ZdZ hm
    simp only [List.map_cons,List.map_nil,List.cons.injEq,and_true] at e
    obtain ⟨a0,rfl,hr⟩:=ZnW hv hu
    split at hf
    ·rename_i fs hst
     split at hf
     ·rename_i fl hfl
      simp only [Bool.and_eq_true,decide_eq_true_eq] at hf
      obtain ⟨rfl,hsz⟩:=hf
      split at hsz
      ·rename_i i hi
       simp only [decide_eq_true_eq] at hsz
       exact ⟨_,by simp [execOp,hop,e,Instr.fieldAt,run_underlying hst,hfl,Instr.sureAddr,fieldPlace,sizeOf,typeInfo,hi,hsz],hr,Zhy hv⟩
      ·cases hsz
     ·cases hf
    ·cases hf
   ·cases hv
  ·cases hc
 | iaddr m sz =>
  simp only at hc
  split at hc
  ·rename_i t x i hop
   simp only [Bool.and_eq_true] at hc
   obtain ⟨hty,hc⟩:=hc
   have hm:=ZQ h hc
   simp only [Z7] at hv
   split at hv
   ·rename_i y k1 i1 hy
    split at hv
    ·rename_i hi
     rw [hy] at hm
     obtain ⟨u1,u2,e,h1,h2⟩:=ZeG hm
     simp only [List.map_cons,List.map_nil,List.cons.injEq,and_true] at e
     obtain ⟨a0,rfl,hr⟩:=ZnW hv h1
     have e2:=Zcd h2
     split at hty
     ·rename_i m' el hu
      simp only [Bool.and_eq_true,decide_eq_true_eq] at hty
      obtain ⟨rfl,hsz⟩:=hty
      exact ⟨_,by simp [execOp,hop,e.1,e.2,e2,Instr.indexAt,asIntOf,run_underlying hu,Instr.sureAddr,hi,Zci hsz],hr,Zhy hv⟩
     ·cases hty
    ·cases hv
   ·cases hv
  ·cases hc
 | iaddrS sz =>
  simp only at hc
  split at hc
  ·rename_i t x i hop
   simp only [Bool.and_eq_true] at hc
   obtain ⟨hty,hc⟩:=hc
   have hm:=ZQ h hc
   split at hty
   ·rename_i el hu
    simp only [Z7] at hv
    split at hv
    ·rename_i sz' full rows k1 i1 hy
     split at hv
     ·rename_i hi
      simp only [Option.some.injEq] at hv
      subst hv
      obtain ⟨rfl,hi0,hi1⟩:=hi
      rw [hy] at hm
      obtain ⟨u1,u2,e,h1,h2⟩:=ZeG hm
      simp only [List.map_cons,List.map_nil,List.cons.injEq,and_true] at e
      have e2:=Zcd h2
      rw [VR,PR] at h1
      obtain ⟨A,cap,rfl,_,_,hA⟩:=h1
      obtain ⟨a0,rfl,hr⟩:=hA (by intro e;subst e;simp at hi1;omega)
      refine ⟨_,by simp [execOp,hop,e.1,e.2,e2,Instr.indexAt,asIntOf,run_underlying hu,hi0,hi1,Zci hty];rfl,?_,rfl⟩
      rw [VR]
      exact ⟨a0,rfl,hr⟩
     ·cases hv
    ·rename_i sz' id ver off len k1 i1 hy
     split at hv
     ·rename_i hi
      simp only [Option.some.injEq] at hv
      subst hv
      obtain ⟨rfl,hi0,hi1⟩:=hi
      rw [hy] at hm
      obtain ⟨u1,u2,e,h1,h2⟩:=ZeG hm
      simp only [List.map_cons,List.map_nil,List.cons.injEq,and_true] at e
      have e2:=Zcd h2
      rw [VR] at h1
      obtain ⟨ver0,frz,rows,b,cap,hH,hle,rfl,hcap,hcur⟩:=h1
      refine ⟨_,by simp [execOp,hop,e.1,e.2,e2,Instr.indexAt,asIntOf,run_underlying hu,hi0,hi1,Zci hty];rfl,?_,rfl⟩
      rw [VR]
      refine ⟨ver0,frz,rows,b,hH,hle,by rw [ZeM,Nat.add_mul];rfl,fun e => ?_⟩
      obtain ⟨_,hb,_⟩:=hcur e
      exact hb
     ·cases hv
    ·rename_i id m k1 i1 hy
     split at hv
     ·rename_i hi
      simp only [Option.some.injEq] at hv
      subst hv
      obtain ⟨rfl,hi0,hi1⟩:=hi
      rw [hy] at hm
      obtain ⟨u1,u2,e,h1,h2⟩:=ZeG hm
      simp only [List.map_cons,List.map_nil,List.cons.injEq,and_true] at e
      have e2:=Zcd h2
      rw [VR] at h1
      obtain ⟨cs,b,hH,hb,rfl⟩:=h1
      refine ⟨_,by simp [execOp,hop,e.1,e.2,e2,Instr.indexAt,asIntOf,run_underlying hu,hi0,hi1,Zci hty];rfl,?_,rfl⟩
      rw [VR]
      exact ⟨cs,b,hH,hb,by rw [ZeM];simp⟩
     ·cases hv
    ·cases hv
   ·cases hty
  ·cases hc
 | idx m sz isA =>
  simp only at hc
  split at hc
  ·rename_i t x i hop
   simp only [Bool.and_eq_true] at hc
   obtain ⟨hty,hc⟩:=hc
   have hm:=ZQ h hc
   have ht:=Zbd h hc
   simp only [Z7] at hv
   split at hv
   ·rename_i cs k1 i1 hy
    split at hv
    ·rename_i hi
     rw [hy] at hm ht
     obtain ⟨u1,u2,e,h1,h2⟩:=ZeG hm
     simp only [List.map_cons,List.map_nil,List.cons.injEq,and_true] at e
     have e2:=Zcd h2
     rw [VR] at h1
     obtain ⟨vs,rfl,h1⟩:=h1
     split at hty
     ·rename_i m' el hu
      simp only [Bool.and_eq_true,decide_eq_true_eq] at hty
      obtain ⟨⟨rfl,hsz⟩,hag⟩:=hty
      cases hs:sub (i1.toNat * sz) sz cs with
      | none=>simp [hs] at hv
      | some cs' =>
       simp only [hs,Option.bind_some] at hv
       obtain ⟨hle,rfl⟩:=Zf6 hs
       have hone:isA=false→sz=1:=fun e=>by
        have:=ZoJ hv e
        simp at this;omega
       have hp:=Zoy (P:=P) (w:=w) (cs:=vs) (off:=i1.toNat * sz) hsz hag (by rw [h1.length];exact hle) hone
       refine ⟨_,by simp only [execOp,hop,e.1,e.2,e2,Instr.index,asIntOf,Sem.run_bind,Sem.run_pure,Result.andThen_ok,run_underlying hu,hi,and_self,if_true,Zci hsz,hp],Zq7 hv (Zje h1 _ _),?_⟩
       have htop:=ht (.agg cs) (by simp)
       exact ZM (Ziq hv (ZeZ (by simpa [top,ZX] using htop) hs))
     ·cases hty
    ·cases hv
   ·cases hv
  ·cases hc
 | fld off m isA =>
  simp only at hc
  split at hc
  ·rename_i t x f hop
   simp only [Bool.and_eq_true] at hc
   obtain ⟨hty,hc⟩:=hc
   have hm:=ZQ h hc
   have ht:=Zbd h hc
   simp only [Z7] at hv
   split at hv
   ·rename_i cs hy
    rw [hy] at hm ht
    obtain ⟨u1,e,h1⟩:=ZdZ hm
    simp only [List.map_cons,List.map_nil,List.cons.injEq,and_true] at e
    rw [VR] at h1
    obtain ⟨vs,rfl,h1⟩:=h1
    split at hty
    ·rename_i fs hu
     split at hty
     ·rename_i fl hfl
      simp only [Bool.and_eq_true,decide_eq_true_eq] at hty
      obtain ⟨⟨rfl,hsz⟩,hag⟩:=hty
      cases hs:sub fl.offset m cs with
      | none=>simp [hs] at hv
      | some cs' =>
       simp only [hs,Option.bind_some] at hv
       obtain ⟨hle,rfl⟩:=Zf6 hs
       have hone:isA=false→m=1:=fun e=>by
        have:=ZoJ hv e
        simp at this;omega
       have hp:=Zoy (P:=P) (w:=w) (cs:=vs) (off:=fl.offset) hsz hag (by rw [h1.length];exact hle) hone
       refine ⟨_,by simp only [execOp,hop,e,Instr.field,asAgg,Sem.run_bind,Sem.run_pure,Result.andThen_ok,run_underlying hu,hfl,hp],Zq7 hv (Zje h1 _ _),?_⟩
       have htop:=ht (.agg cs) (by simp)
       exact ZM (Ziq hv (ZeZ (by simpa [top,ZX] using htop) hs))
     ·cases hty
    ·cases hty
   ·cases hv
  ·cases hc
 | build zero parts =>
  simp only at hc
  split at hc
  ·rename_i t ps hop
   simp only [Bool.and_eq_true] at hc
   obtain ⟨⟨⟨h1,h2⟩,h3⟩,hc⟩:=hc
   have hm:=ZQ h hc
   simp only [Z7] at hv
   cases hf:Zby zero parts (xs.map (ev s.fr)) with
   | none=>simp [hf] at hv
   | some out =>
    simp only [hf,Option.map_some,Option.some.injEq] at hv
    subst hv
    obtain ⟨u,hu1,hu2,hu3⟩:=ZpX (P:=P) (w:=w) (ρ:=a.eval) h1 h2 h3 (by simpa [List.map_map,Function.comp_def] using hm) hf
    refine ⟨u,?_,hu2,by simpa [top,ZX] using ZH hu3⟩
    simp only [execOp,hop,Sem.run_bind]
    rw [hu1]
    rfl
  ·cases hc
 | len =>
  simp only at hc
  split at hc
  ·rename_i args ts hop
   simp only [Bool.and_eq_true,decide_eq_true_eq] at hc
   obtain ⟨⟨hty,hc⟩,hlen⟩:=hc
   have hm:=ZQ h hc
   split at hty
   ·rename_i t hts
    have hts':ts = #[t]:=Ze0 hts
    subst hts'
    split at hty
    ·rename_i el hu
     simp only [Z7] at hv
     have key:∀ y,xs.map (ev s.fr)=[y]→∃ X,args = #[X]∧VR (cx k g s.H w) y (a.eval X):=by
      intro y hy
      rw [hy] at hm
      obtain ⟨u1,e,h1⟩:=ZdZ hm
      cases hl:args.toList with
      | nil=>rw [hl] at e;simp at e
      | cons X l =>
       rw [hl] at e
       simp only [List.map_cons,List.cons.injEq,List.map_eq_nil_iff] at e
       obtain ⟨e1,rfl⟩:=e
       exact ⟨X,Ze0 hl,by rw [e1];exact h1⟩
     split at hv
     ·rename_i sz full rows hy
      simp only [Option.some.injEq] at hv
      subst hv
      obtain ⟨X,rfl,h1⟩:=key _ hy
      rw [VR,PR] at h1
      obtain ⟨A,cap,e1,_⟩:=h1
      exact ⟨_,by simp [execOp,hop,resolve,invoke,builtin,e1,Zgb hu],Zc5 _ _,rfl⟩
     ·rename_i sz id ver off ln hy
      simp only [Option.some.injEq] at hv
      subst hv
      obtain ⟨X,rfl,h1⟩:=key _ hy
      rw [VR] at h1
      obtain ⟨ver0,frz,rows,b,cap,hH,hle,e1,_⟩:=h1
      exact ⟨_,by simp [execOp,hop,resolve,invoke,builtin,e1,Zgb hu],Zc5 _ _,rfl⟩
     ·rename_i id m hy
      simp only [Option.some.injEq] at hv
      subst hv
      obtain ⟨X,rfl,h1⟩:=key _ hy
      rw [VR] at h1
      obtain ⟨cs,b,hH,hb,e1⟩:=h1
      exact ⟨_,by simp [execOp,hop,resolve,invoke,builtin,e1,Zgb hu],Zc5 _ _,rfl⟩
     ·cases hv
    ·cases hty
   ·cases hty
  ·cases hc
 | lenA m =>
  simp only at hc
  split at hc
  ·rename_i args ts hop
   simp only [Bool.and_eq_true,decide_eq_true_eq] at hc
   obtain ⟨⟨hty,hc⟩,hlen⟩:=hc
   have hm:=(ZQ h hc).length
   simp only [List.length_map] at hm
   split at hty
   ·rename_i t hts
    have hts':ts = #[t]:=Ze0 hts
    subst hts'
    split at hty
    ·rename_i m' el hu
     simp only [decide_eq_true_eq] at hty
     subst hty
     simp only [Z7,Option.some.injEq] at hv
     subst hv
     obtain ⟨X,hX⟩:∃ X,args = #[X]:=by
      cases hl:args.toList with
      | nil=>rw [hl] at hm;simp at hm;omega
      | cons X l =>
       cases l with
       | nil=>exact ⟨X,Ze0 hl⟩
       | cons=>rw [hl] at hm;simp at hm;omega
     subst hX
     exact ⟨_,by simp [execOp,hop,resolve,invoke,builtin,Zml hu],Zc5 _ _,rfl⟩
    ·cases hty
   ·cases hty
  ·cases hc
 | ext i =>
  simp only at hc
  split at hc
  ·rename_i x i' hop
   simp only [Bool.and_eq_true,decide_eq_true_eq] at hc
   obtain ⟨rfl,hc⟩:=hc
   have hm:=ZQ h hc
   have ht:=Zbd h hc
   simp only [Z7] at hv
   split at hv
   ·rename_i cs hy
    rw [hy] at hm ht
    obtain ⟨u1,e,h1⟩:=ZdZ hm
    simp only [List.map_cons,List.map_nil,List.cons.injEq,and_true] at e
    rw [VR] at h1
    obtain ⟨vs,rfl,h1⟩:=h1
    have hlt:i<vs.length:=by rw [h1.length];exact (List.getElem?_eq_some_iff.1 hv).1
    rw [Zd0] at h1
    refine ⟨vs[i],by simp [execOp,hop,e,Instr.extract,hlt],h1.2 i r _ hv (List.getElem?_eq_getElem hlt),?_⟩
    have htop:=ht (.tup cs) (by simp)
    have:noLocL cs=true:=by simpa [top,ZX] using htop
    exact ZM (Zbb.1 this r (List.mem_of_getElem? hv))
   ·cases hv
  ·cases hc
 | mkfn f nf =>
  simp only at hc
  split at hc
  ·rename_i f' first cap hop
   simp only [Bool.and_eq_true,decide_eq_true_eq] at hc
   obtain ⟨⟨rfl,hnf⟩,hc⟩:=hc
   have hm:=ZQ h hc
   simp only [Z7] at hv
   split at hv
   ·rename_i hn
    simp only [Option.some.injEq] at hv
    subst hv
    refine ⟨_,by simp [execOp,hop,Instr.makeFunc];rfl,?_,?_⟩
    ·rw [VR]
     have h1:=Zo0 hm nf
     have h2:=Zo1 hm nf
     refine ⟨first.toList.map a.eval,cap.toList.map a.eval,?_,?_,?_⟩
     ·congr 1
      ·apply Array.ext';simp
      ·apply Array.ext';simp
     ·rw [List.map_append,List.take_left' (by simp [hnf])] at h1;exact h1
     ·rw [List.map_append,List.drop_left' (by simp [hnf])] at h2;exact h2
    ·simp only [top,ZX,Bool.and_eq_true]
     rw [Zbb] at hn
     exact ⟨Zbb.2 fun x hx=>hn x (List.mem_of_mem_take hx),Zbb.2 fun x hx=>hn x (List.mem_of_mem_drop hx)⟩
   ·cases hv
  ·cases hc
 | min =>
  simp only at hc
  split at hc
  ·rename_i args ts hop
   have hm:=ZQ h hc
   obtain ⟨u,hu1,hu2,hu3⟩:=Zpm (P:=P) (w:=w) (ts:=ts) (ty:=o.type) hv hm
   refine ⟨u,?_,hu2,ZM hu3⟩
   simp only [execOp,hop,resolve,invoke,builtin,Sem.run_bind,Sem.run_pure,Result.andThen_ok]
   rw [show args.map a.eval=(args.toList.map a.eval).toArray by apply Array.ext';simp,hu1]
   rfl
  ·cases hc
 | max =>
  simp only at hc
  split at hc
  ·rename_i args ts hop
   have hm:=ZQ h hc
   obtain ⟨u,hu1,hu2,hu3⟩:=Zpo (P:=P) (w:=w) (ts:=ts) (ty:=o.type) hv hm
   refine ⟨u,?_,hu2,ZM hu3⟩
   simp only [execOp,hop,resolve,invoke,builtin,Sem.run_bind,Sem.run_pure,Result.andThen_ok]
   rw [show args.map a.eval=(args.toList.map a.eval).toArray by apply Array.ext';simp,hu1]
   rfl
  ·cases hc
 | slice sz lo hi mx =>
  simp only at hc
  split at hc
  ·rename_i t x l h' m hop
   simp only [Bool.and_eq_true,decide_eq_true_eq] at hc
   obtain ⟨⟨⟨⟨hty,hl⟩,hh⟩,hmx⟩,hc⟩:=hc
   have hm:=ZQ h hc
   simp only [Z7] at hv
   split at hv
   ·rename_i y vs hy
    rw [hy] at hm
    simp only [List.map_cons] at hm
    rw [VRL] at hm
    obtain ⟨u,us,e,h1,h2⟩:=hm
    simp only [List.cons.injEq] at e
    obtain ⟨rfl,rfl⟩:=e
    split at hty
    ·rename_i el hu
     obtain ⟨r',hr1,hr2,hr3⟩:=Znb (P:=P) (w:=w) hv hu hty hl hh hmx h1 h2
     refine ⟨r',?_,hr2,ZM hr3⟩
     simp only [execOp,hop,Sem.run_bind]
     rw [hr1]
     rfl
    ·cases hty
   ·cases hv
  ·cases hc
 | nilChk =>
  simp only at hc
  split at hc
  ·rename_i x hop
   have hm:=ZQ h hc
   have ht:=Zbd h hc
   simp only [Z7] at hv
   have key:∀ y,xs.map (ev s.fr)=[y]→VR (cx k g s.H w) y (a.eval x)∧top y=true:=by
    intro y hy
    rw [hy] at hm ht
    obtain ⟨u1,e,h1⟩:=ZdZ hm
    simp only [List.map_cons,List.map_nil,List.cons.injEq,and_true] at e
    exact ⟨by rw [e];exact h1,ht y (by simp)⟩
   split at hv
   all_goals try (cases hv;done)
   all_goals
    rename_i hy
    simp only [Option.some.injEq] at hv
    subst hv
    obtain ⟨h1,h2⟩:=key _ hy
    refine ⟨_,?_,h1,h2⟩
    rw [VR] at h1
   ·obtain ⟨b,e,_⟩:=h1;simp [execOp,hop,e]
   ·obtain ⟨cs,b,_,_,e⟩:=h1;simp [execOp,hop,e]
   ·obtain ⟨ver0,frz,rows,b,_,_,e,_⟩:=h1;simp [execOp,hop,e]
   ·obtain ⟨xs',ys',e,_,_⟩:=h1;simp [execOp,hop,e]
   ·obtain ⟨L,fr,st,b,_,_,e⟩:=h1;simp [execOp,hop,e]
  ·cases hc
 | isNil neg =>
  simp only at hc
  split at hc
  ·rename_i op t x l0 c0 yt hop
   simp only [Bool.and_eq_true,decide_eq_true_eq] at hc
   obtain ⟨⟨hop',hty⟩,hc⟩:=hc
   have hm:=ZQ h hc
   have hty':∃ el,P.underlying t=some (.slice el):=by
    split at hty
    ·rename_i el hu;exact ⟨el,hu⟩
    ·cases hty
   obtain ⟨el,hu⟩:=hty'
   have key:∀ y,xs.map (ev s.fr)=[y]→VR (cx k g s.H w) y (a.eval x):=by
    intro y hy
    rw [hy] at hm
    obtain ⟨u1,e,h1⟩:=ZdZ hm
    simp only [List.map_cons,List.map_nil,List.cons.injEq,and_true] at e
    rw [e];exact h1
   have run:∀ (A:Option Addr) (l1 c1:Nat),(Op.equal t (.slice A l1 c1) (.slice none l0 c0)).run P w = .ok A.isNone w:=fun A l1 c1=>by
    exact Zkh hu 9999 A l1 c1 l0 c0
   have fin:∀ (A:Option Addr) (l1 c1:Nat),a.eval x = .slice A l1 c1→(execOp a.eval o).run P w = .ok (.value (.bool (if neg then !A.isNone else A.isNone))) w:=fun A l1 c1 e1=>by
    have hg:(eqGuard op t x (.const (.slice none l0 c0)) (.slice A l1 c1) (.slice none l0 c0)).run P w = .ok () w:=by unfold eqGuard;split<;>rfl
    have e2:a.eval (.const (.slice none l0 c0)) = .slice none l0 c0:=rfl
    cases neg with
    | true =>
     simp only [if_true] at hop'
     subst hop'
     simp [execOp,hop,e1,e2,hg,binOp,run]
    | false =>
     simp only [Bool.false_eq_true,if_false] at hop'
     subst hop'
     simp [execOp,hop,e1,e2,hg,binOp,run]
   simp only [Z7] at hv
   split at hv
   ·rename_i hy
    simp only [Option.some.injEq] at hv
    subst hv
    have h1:=key _ hy
    rw [VR] at h1
    refine ⟨_,fin none 0 0 h1,?_,rfl⟩
    cases neg<;>exact Zdk _
   ·rename_i sz full r rs hy
    simp only [Option.some.injEq] at hv
    subst hv
    have h1:=key _ hy
    rw [VR,PR] at h1
    obtain ⟨A,cap,e1,_,_,hA⟩:=h1
    obtain ⟨a0,rfl,_⟩:=hA (by simp)
    refine ⟨_,fin _ _ _ e1,?_,rfl⟩
    cases neg<;>exact Zdk _
   ·cases hv
  ·cases hc
end
end Go.Eng

