/- Part of the proof; written by a program out of the texts in wip/. -/
import Derived.Test.YthipedbbcjemhaaGreatPlanCoversE6
set_option linter.unusedVariables false
set_option linter.unusedSimpArgs false
namespace Go.Eng
open Go
theorem ZkU (off:Nat):∀ (vs:List Value) (i:Nat) (cells:Array Value),off+i+vs.length≤cells.size →
  ((vs.zipIdx i).foldl (fun cs (p:Value × Nat)=>cs.setIfInBounds (off+p.2) p.1) cells).toList=cells.toList.take (off+i)++vs++cells.toList.drop (off+i+vs.length)
 | [],i,cells,_=>by simp
 | v::vs,i,cells,h=>by
  simp only [List.zipIdx_cons,List.foldl_cons]
  rw [ZkU off vs (i+1) _ (by simp at h ⊢;omega)]
  have e:=list_seg_step cells.toList (off+i) v vs (by simp at h ⊢;omega)
  simpa [Array.toList_setIfInBounds,Nat.add_assoc] using e
theorem Zmm {c:Cx} {place:Nat→Option (Nat × Nat)}:∀ (ps:List (Nat × Operand)) (parts:List (Nat × Nat)) (xs:List AV) (us:List Value) (cells:Array Value) (cs out:List AV),
  VRL c xs us→VRL c cs cells.toList→ZO cs=true→Zby cs parts xs=some out→(∀ (i:Nat) (p:Nat × Operand),ps[i]? = some p→place p.1=parts[i]?)→ps.length=us.length →
  ∃ arr,Instr.fill place cells ((ps.map (·.1)).zip us)=some arr∧VRL c out arr.toList∧ZO out=true
 | [],parts,xs,us,cells,cs,out,hx,hc,hok,hf,hp,hl=>by
  cases us with
  | cons=>simp at hl
  | nil =>
   have hx0:xs=[]:=by have:=hx.length;simp at this;exact List.eq_nil_of_length_eq_zero this.symm
   subst hx0
   cases parts with
   | nil=>simp only [Zby,Option.some.injEq] at hf;subst hf;exact ⟨cells,rfl,hc,hok⟩
   | cons=>simp [Zby] at hf
 | p::ps,parts,xs,us,cells,cs,out,hx,hc,hok,hf,hp,hl=>by
  cases us with
  | nil=>simp at hl
  | cons u us =>
   cases xs with
   | nil=>have:=hx.length;simp at this
   | cons x xs =>
    rw [VRL] at hx
    obtain ⟨u',us',e,hx1,hx2⟩:=hx
    cases e
    cases parts with
    | nil=>simp [Zby] at hf
    | cons q parts =>
     obtain ⟨off,m⟩:=q
     simp only [Zby] at hf
     split at hf
     ·rename_i hcond
      cases hs:Zbr off (cellsOf x) cs with
      | none=>simp [hs] at hf
      | some cs' =>
       simp only [hs,Option.bind_some] at hf
       have hpl:=hp 0 p rfl
       simp at hpl
       have hcu:=Zfd hcond.2 hx1
       have hlen:=hcu.length
       simp only [Array.length_toList] at hlen
       have hcl:=hc.length
       simp only [Array.length_toList] at hcl
       have hle:off+(cellsOf x).length≤cs.length:=by
        unfold Zbr at hs
        split at hs
        ·assumption
        ·cases hs
       have hfold:=ZkU off u.cells.toList 0 cells (by simp;omega)
       have hfold':(u.cells.zipIdx.foldl (fun cs (p:Value × Nat)=>cs.setIfInBounds (off+p.2) p.1) cells).toList=cells.toList.take off++u.cells.toList++cells.toList.drop (off+u.cells.toList.length):=by
        rw [← Array.foldl_toList,Array.toList_zipIdx]
        simpa using hfold
       have hv':=Zjf hs hcu hc
       rw [← hfold'] at hv'
       obtain ⟨arr,ha,hb,hd⟩:=Zmm ps parts xs us _ cs' out hx2 hv' (Zdt hs hcond.2 hok) hf (fun i q hq=>by simpa using hp (i+1) q (by simpa using hq)) (by simpa using hl)
       refine ⟨arr,?_,hb,hd⟩
       simp only [List.map_cons,List.zip_cons_cons,Instr.fill,hpl]
       rw [if_neg (by simp;omega)]
       exact ha
     ·cases hf
theorem Zoc {P:Program} {w:World} (fs:Array Field) (h:(fs.all fun f=>(P.info? f.type).isSome)=true) :
  (fs.mapM (m:=Sem) fun f=>do pure (f.offset,← sizeOf f.type)).run P w = .ok (fs.map fun f=>(f.offset,P.cellsOf f.type)) w:=by
 rw [← Array.toArray_toList (xs:=fs)] at h ⊢
 simp only [List.all_toArray,List.all_eq_true] at h
 rw [List.mapM_toArray]
 have key:∀ l:List Field,(∀ f ∈ l,(P.info? f.type).isSome=true)→(l.mapM (m:=Sem) fun f=>do pure (f.offset,← sizeOf f.type)).run P w = .ok (l.map fun f=>(f.offset,P.cellsOf f.type)) w:=by
  intro l
  induction l with
  | nil=>intro _;rfl
  | cons f l ih =>
   intro h
   have h1:=h f (by simp)
   obtain ⟨i,hi⟩:=Option.isSome_iff_exists.1 h1
   have h2:(sizeOf f.type).run P w = .ok (P.cellsOf f.type) w:=by simp [sizeOf,typeInfo,hi,Program.cellsOf]
   rw [List.mapM_cons]
   simp only [Sem.run_bind,h2,Result.andThen_ok,Sem.run_pure,ih (fun x hx=>h x (by simp [hx]))]
   rfl
 rw [Sem.run_map,key _ h]
 simp only [Result.andThen_ok]
 congr 1
 apply Array.ext'
 simp
theorem Zjw {P:Program} {t:TypeId} {n:Nat} (h:ZcA P t n=true):P.cellsOf t=n:=by
 unfold ZcA at h
 split at h
 ·rename_i i hi
  simp only [decide_eq_true_eq] at h
  simp [Program.cellsOf,hi,h]
 ·cases h
theorem Zjo {P:Program} {t:TypeId} {fs:Array Field} (ht:P.underlying t=some (.struct fs)):∀ {ps:List (Nat × Operand)} {parts:List (Nat × Nat)},ZdU P t ps parts=true →
  ∀ (i:Nat) (p:Nat × Operand),ps[i]? = some p→(fs.map fun f=>(f.offset,P.cellsOf f.type))[p.1]? = parts[i]?
 | [],[],_,i,p,hp=>by simp at hp
 | (j,X)::ps,(off,m)::parts,h,i,p,hp=>by
  simp only [ZdU,ht,Bool.and_eq_true] at h
  cases i with
  | zero =>
   simp at hp
   subst hp
   simp only [List.getElem?_cons_zero]
   have h1:=h.1
   split at h1
   ·rename_i f hf
    simp only [Bool.and_eq_true,decide_eq_true_eq] at h1
    simp [hf,h1.1,Zjw h1.2]
   ·cases h1
  | succ i=>simpa using Zjo ht h.2 i p (by simpa using hp)
 | [],_::_,h,_,_,_=>by simp [ZdU] at h
 | _::_,[],h,_,_,_=>by simp [ZdU] at h
theorem Zjp {P:Program} {t:TypeId} {m0:Nat} {e:TypeId} (ht:P.underlying t=some (.array m0 e)):∀ {ps:List (Nat × Operand)} {parts:List (Nat × Nat)},ZdU P t ps parts=true →
  ∀ (i:Nat) (p:Nat × Operand),ps[i]? = some p→some (p.1 * P.cellsOf e,P.cellsOf e)=parts[i]?
 | [],[],_,i,p,hp=>by simp at hp
 | (j,X)::ps,(off,m)::parts,h,i,p,hp=>by
  simp only [ZdU,ht,Bool.and_eq_true,decide_eq_true_eq] at h
  cases i with
  | zero =>
   simp at hp
   subst hp
   simp only [List.getElem?_cons_zero]
   rw [Zjw h.1.1,h.1.2]
  | succ i=>simpa using Zjp ht h.2 i p (by simpa using hp)
 | [],_::_,h,_,_,_=>by simp [ZdU] at h
 | _::_,[],h,_,_,_=>by simp [ZdU] at h
theorem ZiA {P:Program} {t:TypeId} {z:List AV} (h:Zh6 P t z=true) (c:Cx) (w:World):∃ v,(zeroValue t).run P w = .ok v w∧VRL c z v.cells.toList∧ZO z=true:=by
 unfold Zh6 at h
 split at h
 ·rename_i i hi
  split at h
  ·rename_i v hz
   refine ⟨v,by simp [zeroValue,typeInfo,hi,hz],ZfA h⟩
  ·cases h
 ·cases h
theorem ZpX {P:Program} {c:Cx} {w:World} {t:TypeId} {ps:Array (Nat × Operand)} {zero:List AV} {parts:List (Nat × Nat)} {xs out:List AV} {ρ:Operand→Value}
  (h1:Zh6 P t zero=true) (h2:ZdU P t ps.toList parts=true) (h3:Zh3 P t=true) (hx:VRL c xs (ps.toList.map fun p=>ρ p.2)) (hf:Zby zero parts xs=some out) :
  ∃ u,(Instr.build t (ps.map fun (i,x)=>(i,ρ x))).run P w = .ok u w∧VR c (.agg out) u∧ZO out=true:=by
 obtain ⟨z,hz1,hz2,hz3⟩:=ZiA h1 c w
 have elist:(ps.map fun (p:Nat × Operand)=>(p.1,ρ p.2)).toList=(ps.toList.map (·.1)).zip (ps.toList.map fun p=>ρ p.2):=by
  rw [Array.toList_map,List.zip_map']
 unfold Zh3 at h3
 split at h3
 ·rename_i fs hu
  obtain ⟨arr,ha,hb,hd⟩:=Zmm (c:=c) (place:=((fs.map fun f=>(f.offset,P.cellsOf f.type))[·]?)) ps.toList parts xs _ z.cells zero out hx hz2 hz3 hf (Zjo hu h2) (by simp)
  refine ⟨.agg arr,?_,by rw [VR];exact ⟨arr.toList,by simp,hb⟩,hd⟩
  unfold Instr.build
  simp only [Sem.run_bind,hz1,Result.andThen_ok,run_underlying hu,Zoc fs h3]
  rw [show (ps.map fun (x:Nat × Operand)=>match x with | (i,x)=>(i,ρ x))=ps.map fun (p:Nat × Operand)=>(p.1,ρ p.2) from rfl,elist,ha]
  rfl
 ·rename_i m0 e hu
  obtain ⟨arr,ha,hb,hd⟩:=Zmm (c:=c) (place:=fun i=>some (i * P.cellsOf e,P.cellsOf e)) ps.toList parts xs _ z.cells zero out hx hz2 hz3 hf (Zjp hu h2) (by simp)
  refine ⟨.agg arr,?_,by rw [VR];exact ⟨arr.toList,by simp,hb⟩,hd⟩
  obtain ⟨i,hi⟩:=Option.isSome_iff_exists.1 h3
  have hs:(sizeOf e).run P w = .ok (P.cellsOf e) w:=by simp [sizeOf,typeInfo,hi,Program.cellsOf]
  unfold Instr.build
  simp only [Sem.run_bind,hz1,Result.andThen_ok,run_underlying hu,hs]
  rw [show (ps.map fun (x:Nat × Operand)=>match x with | (i,x)=>(i,ρ x))=ps.map fun (p:Nat × Operand)=>(p.1,ρ p.2) from rfl,elist,ha]
  rfl
 ·cases h3
theorem Zbo {P:Program} {w:World} {k:IntKind} {i:Int} {y:Nat} {code:BoundsCode} (h0:0≤i) (h1:i.toNat≤y):(Instr.sliceBound (.int k i) y code).run P w = .ok i.toNat w:=by
 unfold Instr.sliceBound
 have:i≤y:=by omega
 simp [asIntOf,h0,this]
theorem Zhx {c:Cx} {given:Bool} {dflt:Nat} {vs vs':List AV} {m:Nat} {us:List Value} (h:Zey given dflt vs=some (m,vs')) (hv:VRL c vs us) :
  (given=true∧∃ k i us',us = .int k i::us'∧0≤i∧m=i.toNat∧VRL c vs' us')∨(given=false∧m=dflt∧vs'=vs):=by
 unfold Zey at h
 split at h
 ·rename_i hg
  split at h
  ·rename_i k i r
   split at h
   ·rename_i h0
    simp only [Option.some.injEq,Prod.mk.injEq] at h
    obtain ⟨rfl,rfl⟩:=h
    rw [VRL] at hv
    obtain ⟨u,us',rfl,h1,h2⟩:=hv
    rw [Zcd h1]
    exact .inl ⟨hg,k,i,us',rfl,h0,rfl,h2⟩
   ·cases h
  ·cases h
 ·rename_i hg
  simp only [Option.some.injEq,Prod.mk.injEq] at h
  exact .inr ⟨by simpa using hg,h.1.symm,h.2.symm⟩
theorem ZgR {P:Program} {w:World} {len cap:Nat} {lo hi mx:Option Value} {l h m:Nat} (hle:len≤cap)
  (hl:(lo=none∧l=0)∨∃ k i,lo=some (.int k i)∧0≤i∧l=i.toNat)
  (hh:(hi=none∧h=len)∨∃ k i,hi=some (.int k i)∧0≤i∧h=i.toNat)
  (hm:(mx=none∧m=cap)∨∃ k i,mx=some (.int k i)∧0≤i∧m=i.toNat) (hmh:mx.isSome→hi.isSome)
  (h1:l≤h) (h2:h≤m) (h3:m≤cap):(Instr.sliceBounds true len cap lo hi mx).run P w = .ok (l,h,m) w:=by
 unfold Instr.sliceBounds
 rcases hm with ⟨rfl,rfl⟩ | ⟨km,im,rfl,him,rfl⟩
 ·rcases hh with ⟨rfl,rfl⟩ | ⟨kh,ih,rfl,hih,rfl⟩
  ·rcases hl with ⟨rfl,rfl⟩ | ⟨kl,il,rfl,hil,rfl⟩
   ·simp
   ·simp [Zbo hil h1]
  ·rcases hl with ⟨rfl,rfl⟩ | ⟨kl,il,rfl,hil,rfl⟩
   ·simp [Zbo hih h2]
   ·simp [Zbo hih h2,Zbo hil h1]
 ·rcases hh with ⟨rfl,rfl⟩ | ⟨kh,ih,rfl,hih,rfl⟩
  ·simp at hmh
  ·rcases hl with ⟨rfl,rfl⟩ | ⟨kl,il,rfl,hil,rfl⟩
   ·simp [Zbo him h3,Zbo hih h2]
   ·simp [Zbo him h3,Zbo hih h2,Zbo hil h1]
theorem ZqD {ok:Addr→Prop} {w:World} {sz:Nat} {rows:List (List PC)} {a:Addr} (h:ZhA ok w sz rows a) (l m:Nat):ZhA ok w sz ((rows.take m).drop l) (a.add (l * sz)):=by
 rw [ZeA] at h ⊢
 intro i r hi
 rw [List.getElem?_drop,List.getElem?_take] at hi
 split at hi
 ·obtain ⟨h1,h2⟩:=h (l+i) r hi
  refine ⟨h1,?_⟩
  rw [ZdY,← Nat.add_mul]
  exact h2
 ·cases hi
end Go.Eng

