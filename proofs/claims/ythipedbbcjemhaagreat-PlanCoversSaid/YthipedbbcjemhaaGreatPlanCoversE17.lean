/- Part of the proof; written by a program out of the texts in wip/. -/
import Derived.Test.YthipedbbcjemhaaGreatPlanCoversE16
import Derived.Below
import Derived.Carry
import Derived.ChangeSame
set_option linter.unusedVariables false
set_option linter.unusedSimpArgs false
namespace Go.Eng
open Go Go.RowKit Go.WideShapes Go.ChangeShapes
theorem Zac.run {P:Program} {f:Nat} {args:List AV} {r:AV} (h:Zac P f args r) (ok0:Addr→Prop) (w:World) (vs:List Value)
  (hv:VRL (cx (k0 ok0 [] [] w) ⟨[],noB⟩ [] w) args vs) :
  Calls P f vs.toArray w fun e w'=>∃ v,e = .returned v∧Below w.heap.size w w'∧VR (cx (k0 ok0 [] [] w) ⟨[],noB⟩ [] w') r v:=by
 obtain ⟨_,_,hc⟩:=h
 have hr0:HR (k0 ok0 [] [] w) [] [] w :=
  {heap:=fun id o e=>by simp at e
   len:=rfl
   inj:=fun i j b e=>by simp at e
   own:=fun i b e=>by simp at e
   keep:=Keep.refl _ _ }
 refine (hc.2.2 ok0 [] w vs hr0 hv).mono ?_
 rintro e w' ⟨v,ρ',rfl,h1,h2,_⟩
 have hρ:ρ'=[]:=List.eq_nil_of_length_eq_zero h1.len
 subst hρ
 refine ⟨v,rfl,⟨h1.keep.os,h1.keep.tape,h1.keep.output,h1.keep.size,fun k hk=>h1.keep.block k hk (fun ⟨id,e⟩=>by simp at e)⟩,h2⟩
theorem Zac.run_bool {P:Program} {f:Nat} {args:List AV} {b:Bool} (h:Zac P f args (.p (.bool b))) (ok0:Addr→Prop) (w:World) (vs:List Value)
  (hv:VRL (cx (k0 ok0 [] [] w) ⟨[],noB⟩ [] w) args vs) :
  Calls P f vs.toArray w fun e w'=>e = .returned (.bool b)∧Below w.heap.size w w':=by
 refine (h.run ok0 w vs hv).mono ?_
 rintro e w' ⟨v,rfl,hb,hv⟩
 exact ⟨by rw [VR,PR] at hv;rw [hv],hb⟩
theorem post_of_below {H:Type} {enc:TypeId × Value→H} {P:Program} {f:Func} {s:ChangeSpec} {apart fresh handsOn again:Bool} {W W':World} {args:Array Value} {v:Value} {ds gs:List (DataW H)} {before pa pv:List MemPlace}
  (hW:DataW.Whole enc P f.params.toList s.vars apart W args.toList ds gs before)
  (hres:∀ (b:Nat) (sp:Nat→Bool) (hd:Bool),DataW.TrodAll enc P W' b sp hd f.resultTypes.toList (v.resultList f.resultTypes.size) (s.fn H (ds++gs)).results [])
  (hargs:∀ sp:Nat→Bool,(∀ p ∈ before,sp p.block=true)→DataW.TrodAll enc P W' 0 sp true f.params.toList args.toList (s.fn H (ds++gs)).args pa)
  (hvars:∀ sp:Nat→Bool,(∀ p ∈ before,sp p.block=true)→DataW.TrodVars enc P W' sp s.vars (s.fn H (ds++gs)).vars pv)
  (hps:before=pa++pv) (hb:Below W.heap.size W W')
  (hok:∀ (j:Nat) (t:TypeId) (r:Value),f.resultTypes[j]? = some t→(v.resultList f.resultTypes.size)[j]? = some r→Value.okWide P W' .any 0 t r) :
  s.post enc P f apart fresh handsOn again W args v W':=by
 have hlt:∀ p ∈ before,p.block<W.heap.size:=fun p hp=>hW.lt p hp
 have hold:∀ p ∈ before,(fun b=>decide (b<W.heap.size)) p.block=true:=fun p hp=>by simpa using hlt p hp
 refine ⟨ds,gs,before,[],pa,pv,hW,hres _ _ _,hargs _ hold,hvars _ hold,World.keptBut_mono (fun p hp=>⟨hp,?_⟩) (hb.frame (· ∈ before)),fun _ => ?_⟩
 ·rw [hps,List.mem_append] at hp
  exact Or.inr hp
 ·obtain ⟨_,_,_,_,_,hz,hn⟩:=hW
  refine ⟨hok,_,_,([]++pa)++pv,⟨[]++pa,pv,trodAll_append (hargs _ (fun _ _=>rfl)) (hres _ _ _),hvars _ (fun _ _=>rfl),rfl,?_,?_⟩,?_⟩
  ·intro b off hp
   have hin:MemPlace.cell b off ∈ before:=by rw [hps];simpa using hp
   rw [hb.frozen (hlt _ hin)]
   exact hz b off hin
  ·intro ha
   have:=hn ha
   rw [hps] at this
   simpa using this
  ·intro p hp _
   rw [hps]
   simpa using hp
end Go.Eng

