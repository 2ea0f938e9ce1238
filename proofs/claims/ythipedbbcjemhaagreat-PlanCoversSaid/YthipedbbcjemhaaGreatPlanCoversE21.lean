/- Part of the proof; written by a program out of the texts in wip/. -/
import Derived.Test.YthipedbbcjemhaaGreatPlanCoversE20
import Derived.Carry
import Derived.OpenShut
set_option linter.unusedVariables false
set_option linter.unusedSimpArgs false
namespace Go.Eng
open Go Go.RowKit Go.ChangeShapes
def cx0 (w:World):Cx:=cx (k0 (fun _=>True) [] [] w) ⟨[],noB⟩ [] w
theorem ok0 {w:World} (a:Addr):(cx0 w).ok a:=⟨.inl trivial,fun t e=>(by cases e),fun id e=>by simp at e⟩
theorem Zl5 {c:Cx}:∀ {xs:List PC} {us:List Value},RdL c.ok c.w xs us→VRL c (xs.map .p) us
 | [],us,h=>by simp only [RdL] at h;subst h;rw [List.map_nil,VRL]
 | x::xs,us,h=>by
  obtain ⟨u,us',rfl,h1,h2⟩:=h
  rw [List.map_cons,VRL]
  exact ⟨u,us',rfl,by rw [VR];exact h1,Zl5 h2⟩
theorem open_agg {H:Type} {enc:TypeId × Value→H} {P:Program} {W:World} {base n:Nat} {t:TypeId} {v:Value} {d:DataW H} {ps:List MemPlace} {D:List CD}
  (hc:chkT P n t D=true) (hagg:(match P.underlying t with | some (.struct _)=>true | some (.array _ _)=>true | _=>false)=true)
  (hv:Value.okWide P W .any base t v) (h:DataW.Trod enc P W 0 (fun _=>true) true t v d ps):∃ xs,ZcM D xs∧VR (cx0 W) (.agg (xs.map .p)) v:=by
 obtain ⟨fuel,h⟩:=h
 obtain ⟨xs,x1,x2⟩:=ZkG (ok:=(cx0 W).ok) (fun a u _=>ok0 a) fuel n t D hc _ d ps h
 refine ⟨xs,x1,?_⟩
 have:∃ cs,v = .agg cs:=by
  unfold Value.okWide at hv
  split at hv
  ·obtain ⟨cs,e,_⟩:=hv;exact ⟨cs,e⟩
  ·obtain ⟨cs,e,_⟩:=hv;exact ⟨cs,e⟩
  ·rename_i h1 h2
   split at hagg
   ·rename_i hu;exact absurd hu (h1 _)
   ·rename_i hu;exact absurd hu (h2 _ _)
   ·cases hagg
 obtain ⟨cs,rfl⟩:=this
 rw [VR]
 exact ⟨cs.toList,rfl,Zl5 x2⟩
theorem open_cell {H:Type} {enc:TypeId × Value→H} {P:Program} {W:World} {base n:Nat} {t:TypeId} {v:Value} {d:DataW H} {ps:List MemPlace} {c:CD}
  (hc:chkT P n t [c]=true) (hagg:(match P.underlying t with | some (.struct _)=>true | some (.array _ _)=>true | _=>false)=false)
  (hv:Value.okWide P W .any base t v) (h:DataW.Trod enc P W 0 (fun _=>true) true t v d ps):∃ x,okPC c x∧VR (cx0 W) (.p x) v:=by
 obtain ⟨fuel,h⟩:=h
 obtain ⟨xs,x1,x2⟩:=ZkG (ok:=(cx0 W).ok) (fun a u _=>ok0 a) fuel n t [c] hc _ d ps h
 have hl:=Zg5 x1
 match xs,hl with
 | [x],_ =>
  simp only [ZcM,and_true] at x1
  obtain ⟨u,us,e,h1,h2⟩:=x2
  simp only [RdL] at h2
  subst h2
  refine ⟨x,x1,?_⟩
  rw [VR]
  cases v with
  | agg cs =>
   exfalso
   unfold Value.okWide at hv
   split at hv
   ·rename_i hu;rw [hu] at hagg;cases hagg
   ·rename_i hu;rw [hu] at hagg;cases hagg
   ·unfold Cell.okWide at hv
    split at hv
    any_goals (rename_i he;first | cases he | done)
    all_goals first | (rename_i _ he;cases he;done) | (unfold Cell.ok at hv;split at hv<;>first | exact hv.elim | (rename_i he _;cases he;done) | (rename_i _ he;cases he;done) | (rename_i he;cases he;done))
  | _ =>
   simp only [Value.cells] at e
   have e':[_]=[u]:=e
   cases e'
   exact h1
theorem ZpZ {α:Type} {D:List CD} {enc:α→List PC} {R:α→Prop} (h:∀ xs,ZcM D xs→∃ v,xs=enc v∧R v):∀ {rows:List (List PC)},(∀ r ∈ rows,ZcM D r)→∃ l:List α,rows=l.map enc∧∀ x ∈ l,R x
 | [],_=>⟨[],rfl,by simp⟩
 | r::rs,hr=>by
  obtain ⟨v,rfl,hv⟩:=h r (hr r (by simp))
  obtain ⟨l,rfl,hl⟩:=ZpZ h (rows:=rs) fun r hm=>hr r (by simp [hm])
  exact ⟨v::l,rfl,fun x hx=>by rcases List.mem_cons.1 hx with rfl | hx;exact hv;exact hl x hx⟩
def InK (k:IntKind) (n:Int):Prop:=(Lit.int k n).wf=true
theorem InK.u8 {n:Int} (h:InK .u8 n):0≤n∧n≤255:=by
 simpa [InK,Lit.wf,IntKind.min,IntKind.max,IntKind.signed,IntKind.bits] using h
theorem Zdx {k:IntKind} {x:PC} (h:okPC (.int k) x):∃ n,x = .int k n∧InK k n:=by
 cases x with
 | int k' n=>simp only [okPC] at h;obtain ⟨rfl,h⟩:=h;exact ⟨n,rfl,h⟩
 | _=>simp [okPC] at h
theorem Zns {x:PC} (h:okPC .bool x):∃ b,x = .bool b:=by
 cases x with
 | bool b=>exact ⟨b,rfl⟩
 | _=>simp [okPC] at h
theorem okPC_sl {sz:Nat} {D:List CD} {x:PC} {α:Type} {enc:α→List PC} {R:α→Prop} (hr:∀ xs,ZcM D xs→∃ v,xs=enc v∧R v) (h:okPC (.sl sz D) x):∃ l:List α,x = .sl sz false (l.map enc)∧l.length≤maxLen∧∀ x ∈ l,R x:=by
 cases x with
 | sl sz' full rows =>
  simp only [okPC] at h
  obtain ⟨rfl,rfl,h1,h2⟩:=h
  obtain ⟨l,rfl,hl⟩:=ZpZ hr h2
  exact ⟨l,rfl,by simpa using h1,hl⟩
 | _=>simp [okPC] at h
theorem ZaL {d:CD} {D:List CD} {xs:List PC} (h:ZcM (d::D) xs):∃ x ys,xs=x::ys∧okPC d x∧ZcM D ys:=by
 cases xs with
 | nil=>simp [ZcM] at h
 | cons x ys=>simp only [ZcM] at h;exact ⟨x,ys,rfl,h.1,h.2⟩
theorem Zio {xs:List PC} (h:ZcM [] xs):xs=[]:=by
 cases xs with
 | nil=>rfl
 | cons x ys=>simp [ZcM] at h
theorem ZoB {k:IntKind}:∀ xs,ZcM [.int k] xs→∃ v,xs=eI k v∧InK k v:=fun xs h=>by
 obtain ⟨x,ys,rfl,h1,h2⟩:=ZaL h
 obtain ⟨n,rfl,hn⟩:=Zdx h1
 rw [Zio h2]
 exact ⟨n,rfl,hn⟩
theorem stays {H:Type} {enc:TypeId × Value→H} {P:Program} {t:TypeId} (hl:laidOutB P=true) (hr:P.readableRec t=true) (hrow:t<P.types.size) {W W':World} {v:Value} {d:DataW H} {ps:List MemPlace}
  (h:DataW.Trod enc P W 0 (fun _=>true) true t v d ps) (hb:Below W.heap.size W W') (hlt:∀ x ∈ ps,x.block<W.heap.size) {sp:Nat→Bool} (hsp:∀ x ∈ ps,sp x.block=true) :
  DataW.Trod enc P W' 0 sp true t v d ps :=
 WideElems.Trod_stays hl hr hrow h (fun x hx=>hb.same (hlt x hx)) hsp
theorem Zac.run_law {P:Program} {f:Nat} {args:List AV} (h:Zac P f args (.p (.bool true))) (w:World) (vs:List Value) (hv:VRL (cx0 w) args vs) :
  Calls P f vs.toArray w fun e w'=>e = .returned (.bool true)∧Below w.heap.size w w':=h.run_bool (fun _=>True) w vs hv
end Go.Eng

