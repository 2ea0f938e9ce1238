/- Part of the proof; written by a program out of the texts in wip/. -/
import Derived.Test.YthipedbbcjemhaaGreatPlanCoversE19
import Derived.DataReads
set_option linter.unusedVariables false
set_option linter.unusedSimpArgs false
namespace Go.Eng
open Go
inductive CD where
 | int (k:IntKind)
 | bool
 | sl (sz:Nat) (row:List CD)
mutual
def okPC:CD→PC→Prop
 | .int k,.int k' n=>k'=k∧(Lit.int k n).wf=true
 | .bool,.bool _=>True
 | .sl sz row,.sl sz' full rows=>sz'=sz∧full=false∧rows.length≤maxLen∧∀ r ∈ rows,ZcM row r
 | _,_=>False
def ZcM:List CD→List PC→Prop
 | [],[]=>True
 | d::ds,x::xs=>okPC d x∧ZcM ds xs
 | _,_=>False
end
def Zfv (P:Program):Nat→List Field→Nat→Bool
 | off,[],n=>decide (off=n)
 | off,f::fs,n=>decide (f.offset=off)&&Zfv P (off+P.cellsOf f.type) fs n
mutual
def chkT (P:Program):Nat→TypeId→List CD→Bool
 | 0,_,_=>false
 | n+1,t,D=>match P.underlying t with
  | some .bool=>(match D with
   | [.bool]=>true
   | _=>false)
  | some (.int k)=>(match D with
   | [.int k']=>decide (k'=k)
   | _=>false)
  | some (.slice e)=>(match D with
   | [.sl sz row]=>decide (P.cellsOf e=sz)&&chkT P n e row
   | _=>false)
  | some (.struct fs)=>decide (D.length=P.cellsOf t)&&Zfv P 0 fs.toList (P.cellsOf t)&&Zqw P n D fs.toList
  | some (.array m e)=>decide (D.length=P.cellsOf t)&&decide (P.cellsOf t=m * P.cellsOf e)&&Zqx P n D e m
  | _=>false
def Zqw (P:Program):Nat→List CD→List Field→Bool
 | _,_,[]=>true
 | 0,_,_::_=>false
 | n+1,D,f::fs=>chkT P n f.type ((D.drop f.offset).take (P.cellsOf f.type))&&Zqw P n D fs
def Zqx (P:Program):Nat→List CD→TypeId→Nat→Bool
 | _,_,_,0=>true
 | 0,_,_,_+1=>false
 | n+1,D,e,m+1=>chkT P n e ((D.drop (m * P.cellsOf e)).take (P.cellsOf e))&&Zqx P n D e m
end
def RdL (ok:Addr→Prop) (w:World):List PC→List Value→Prop
 | [],vs=>vs=[]
 | x::xs,vs=>∃ u us,vs=u::us∧PR ok w x u∧RdL ok w xs us
theorem RdL.append {ok:Addr→Prop} {w:World}:∀ {xs ys:List PC} {us vs:List Value},RdL ok w xs us→RdL ok w ys vs→RdL ok w (xs++ys) (us++vs)
 | [],ys,us,vs,h1,h2=>by simp only [RdL] at h1;subst h1;exact h2
 | x::xs,ys,us,vs,h1,h2=>by
  obtain ⟨u,us',rfl,h3,h4⟩:=h1
  exact ⟨u,us'++vs,rfl,h3,h4.append h2⟩
theorem Zg6:∀ {D E:List CD} {xs ys:List PC},ZcM D xs→ZcM E ys→ZcM (D++E) (xs++ys)
 | [],E,[],ys,_,h2=>h2
 | d::D,E,x::xs,ys,h1,h2=>by
  simp only [ZcM,List.cons_append] at h1 ⊢
  exact ⟨h1.1,Zg6 h1.2 h2⟩
 | [],_,_::_,_,h1,_=>by simp [ZcM] at h1
 | _::_,_,[],_,h1,_=>by simp [ZcM] at h1
theorem Zg5:∀ {D:List CD} {xs:List PC},ZcM D xs→xs.length=D.length
 | [],[],_=>rfl
 | d::D,x::xs,h=>by
  simp only [ZcM] at h
  simp [Zg5 h.2]
 | [],_::_,h=>by simp [ZcM] at h
 | _::_,[],h=>by simp [ZcM] at h
theorem Zjg {ok:Addr→Prop} {w:World}:∀ {xs:List PC} {us:List Value},RdL ok w xs us→us.length=xs.length
 | [],us,h=>by simp only [RdL] at h;subst h;rfl
 | x::xs,us,h=>by
  obtain ⟨u,us',rfl,_,h⟩:=h
  simp [Zjg h]
theorem ZqE {ok:Addr→Prop} {w:World}:∀ {xs:List PC} {us:List Value},RdL ok w xs us→∀ (j:Nat) x,xs[j]? = some x→∃ u,us[j]? = some u∧PR ok w x u
 | [],us,h,j,x,hj=>by simp at hj
 | y::ys,us,h,j,x,hj=>by
  obtain ⟨u,us',rfl,h1,h2⟩:=h
  cases j with
  | zero=>simp at hj;subst hj;exact ⟨u,rfl,h1⟩
  | succ j=>exact ZqE h2 j x (by simpa using hj)
theorem ZgD {α β:Type} {f:α→Option β}:∀ {l:List α} {r:List β},l.mapM f=some r→r.length=l.length∧∀ (i:Nat) x,l[i]? = some x→∃ y,f x=some y∧r[i]? = some y
 | [],r,h=>by simp at h;subst h;simp
 | a::l,r,h=>by
  rw [List.mapM_cons] at h
  cases h1:f a with
  | none=>simp [h1] at h
  | some b =>
   cases h2:l.mapM f with
   | none=>simp [h1,h2] at h
   | some r' =>
    simp [h1,h2] at h
    subst h
    obtain ⟨e1,e2⟩:=ZgD h2
    refine ⟨by simp [e1],fun i x hx => ?_⟩
    cases i with
    | zero=>simp at hx;subst hx;exact ⟨b,h1,rfl⟩
    | succ i=>exact e2 i x (by simpa using hx)
section
variable {P:Program} {w:World} {ok:Addr→Prop}
def Zrs (P:Program) (w:World) (ok:Addr→Prop) {H:Type} (enc:TypeId × Value→H) (fuel:Nat) (t:TypeId) (D:List CD):Prop :=
 ∀ (cs:List Value) (d:DataW H) (ps:List MemPlace),DataW.trod enc P w 0 (fun _=>true) true fuel t cs=some (d,ps)→∃ xs,ZcM D xs∧RdL ok w xs cs
theorem ZkV {H:Type} {enc:TypeId × Value→H} {fuel:Nat}:∀ {n:Nat} {fs:List Field} {D:List CD} {cs:List Value} {off N:Nat} {rs:List (DataW H × List MemPlace)},
  (∀ m t D,chkT P m t D=true→Zrs P w ok enc fuel t D)→Zqw P n D fs=true→Zfv P off fs N=true→D.length=N→cs.length=N→off≤N →
  (fs.mapM fun f=>DataW.trod enc P w 0 (fun _=>true) true fuel f.type ((cs.drop f.offset).take (P.cellsOf f.type)))=some rs →
  ∃ xs,ZcM (D.drop off) xs∧RdL ok w xs (cs.drop off)
 | n,[],D,cs,off,N,rs,_,_,hl,hD,hc,_,_=>by
  simp only [Zfv,decide_eq_true_eq] at hl
  subst hl
  exact ⟨[],by rw [List.drop_eq_nil_of_le (by omega)];simp [ZcM],by rw [List.drop_eq_nil_of_le (by omega)];simp [RdL]⟩
 | 0,f::fs,D,cs,off,N,rs,_,hk,_,_,_,_,_=>by simp [Zqw] at hk
 | n+1,f::fs,D,cs,off,N,rs,ih,hk,hl,hD,hc,hle,h=>by
  simp only [Zqw,Bool.and_eq_true] at hk
  simp only [Zfv,Bool.and_eq_true,decide_eq_true_eq] at hl
  obtain ⟨rfl,hl⟩:=hl
  rw [List.mapM_cons] at h
  cases h1:DataW.trod enc P w 0 (fun _=>true) true fuel f.type ((cs.drop f.offset).take (P.cellsOf f.type)) with
  | none=>simp [h1] at h
  | some r =>
   cases h2:(fs.mapM fun f=>DataW.trod enc P w 0 (fun _=>true) true fuel f.type ((cs.drop f.offset).take (P.cellsOf f.type))) with
   | none=>simp [h1,h2] at h
   | some rs' =>
    obtain ⟨d,ps⟩:=r
    obtain ⟨xs,x1,x2⟩:=ih n f.type _ hk.1 _ d ps h1
    have hlen:=Zjg x2
    have hxl:=Zg5 x1
    have hle2:f.offset+P.cellsOf f.type≤N:=by
     have:∀ (fs:List Field) (off:Nat),Zfv P off fs N=true→off≤N:=by
      intro fs
      induction fs with
      | nil=>intro off h;simp only [Zfv,decide_eq_true_eq] at h;omega
      | cons g gs ihg =>
       intro off h
       simp only [Zfv,Bool.and_eq_true,decide_eq_true_eq] at h
       have:=ihg _ h.2
       omega
     exact this fs _ hl
    obtain ⟨ys,y1,y2⟩:=ZkV ih hk.2 hl hD hc hle2 h2
    refine ⟨xs++ys,?_,?_⟩
    ·have:=Zg6 x1 y1
     rwa [← List.drop_drop,List.take_append_drop] at this
    ·have:=x2.append y2
     rwa [← List.drop_drop,List.take_append_drop] at this
theorem ZlU {H:Type} {enc:TypeId × Value→H} {fuel:Nat} {e:TypeId} {D:List CD} {cs:List Value}
  (ih:∀ m t D,chkT P m t D=true→Zrs P w ok enc fuel t D):∀ {m n:Nat},Zqx P n D e m=true→m * P.cellsOf e≤D.length→D.length=cs.length →
  (∀ i,i<m→∃ d ps,DataW.trod enc P w 0 (fun _=>true) true fuel e ((cs.drop (i * P.cellsOf e)).take (P.cellsOf e))=some (d,ps)) →
  ∃ xs,ZcM (D.take (m * P.cellsOf e)) xs∧RdL ok w xs (cs.take (m * P.cellsOf e))
 | 0,n,_,_,_,_=>⟨[],by simp [ZcM],by simp [RdL]⟩
 | m+1,0,hk,_,_,_=>by simp [Zqx] at hk
 | m+1,n+1,hk,hle,hl,h=>by
  simp only [Zqx,Bool.and_eq_true] at hk
  have e1:(m+1) * P.cellsOf e=m * P.cellsOf e+P.cellsOf e:=by rw [Nat.add_mul,Nat.one_mul]
  obtain ⟨xs,x1,x2⟩:=ZlU ih hk.2 (by omega) hl (fun i hi=>h i (by omega))
  obtain ⟨d,ps,h1⟩:=h m (by omega)
  obtain ⟨ys,y1,y2⟩:=ih n e _ hk.1 _ d ps h1
  refine ⟨xs++ys,?_,?_⟩
  ·have:=Zg6 x1 y1
   rwa [e1,List.take_add]
  ·have:=x2.append y2
   rwa [e1,List.take_add]
theorem Zi3 {β:Type} {f:Nat→Option β} {n:Nat} {r:List β} (h:(List.range n).mapM f=some r):r.length=n∧∀ i,i<n→∃ y,f i=some y∧r[i]? = some y:=by
 obtain ⟨h1,h2⟩:=ZgD h
 simp only [List.length_range] at h1
 exact ⟨h1,fun i hi=>h2 i i (by simp [hi])⟩
theorem cells?_get {a:Addr} {m:Nat} {cs:List Value} (h:w.cells? 0 a m=some cs):cs.length=m∧∀ j,j<m→∃ u,w.cell? (a.add j)=some u∧cs[j]? = some u:=by
 unfold World.cells? at h
 rw [if_pos (Nat.zero_le _)] at h
 exact Zi3 h
theorem ZkG (hok:∀ a u,w.cell? a=some u→ok a) {H:Type} {enc:TypeId × Value→H}:∀ (fuel n:Nat) (t:TypeId) (D:List CD),chkT P n t D=true→Zrs P w ok enc fuel t D
 | 0,n,t,D,_=>fun cs d ps h=>by simp [DataW.trod] at h
 | fuel+1,0,t,D,hk=>by simp [chkT] at hk
 | fuel+1,n+1,t,D,hk=>by
  have ih:∀ m t D,chkT P m t D=true→Zrs P w ok enc fuel t D:=fun m t D h=>ZkG hok fuel m t D h
  intro cs d ps h
  rw [chkT.eq_def] at hk
  simp only at hk
  rw [DataW.trod.eq_def] at h
  simp only at h
  cases hu:P.underlying t with
  | none=>rw [hu] at hk;cases hk
  | some u =>
   rw [hu] at hk h
   cases u with
   | bool =>
    simp only at hk
    split at hk
    ·rcases cs with _ | ⟨v,_ | ⟨v2,rest⟩⟩
     ·simp at h
     ·cases v<;>simp at h
      rename_i b
      exact ⟨[.bool b],by simp [ZcM,okPC],_,[],rfl,by rw [PR],rfl⟩
     ·simp at h
    ·cases hk
   | int k =>
    simp only at hk
    split at hk
    ·simp only [decide_eq_true_eq] at hk
     subst hk
     rcases cs with _ | ⟨v,_ | ⟨v2,rest⟩⟩
     ·simp at h
     ·cases v<;>simp at h
      rename_i k' n'
      obtain ⟨⟨rfl,hw⟩,_⟩:=h
      exact ⟨[.int k' n'],by simp [ZcM,okPC,hw],_,[],rfl,by rw [PR],rfl⟩
     ·simp at h
    ·cases hk
   | slice e =>
    simp only at hk
    split at hk
    ·rename_i sz row
     simp only [Bool.and_eq_true,decide_eq_true_eq] at hk
     obtain ⟨rfl,hk⟩:=hk
     rcases cs with _ | ⟨v,_ | ⟨v2,rest⟩⟩
     ·simp at h
     ·cases v with
      | slice A len cap =>
       cases A with
       | none =>
        cases len with
        | zero=>exact ⟨[.sl (P.cellsOf e) false []],by simp [ZcM,okPC],_,[],rfl,by rw [PR];exact ⟨none,cap,rfl,by simp,by simp,by simp⟩,rfl⟩
        | succ len=>simp at h
       | some a =>
        simp only at h
        split at h
        ·rename_i hb
         cases he:(List.range len).mapM fun i=>(w.cells? 0 (a.add (i * P.cellsOf e)) (P.cellsOf e)).bind (DataW.trod enc P w 0 (fun _=>true) true fuel e) with
         | none=>rw [he] at h;simp at h
         | some es =>
          obtain ⟨h1,h2⟩:=Zi3 he
          have key:∀ m,m≤len→∃ rows:List (List PC),rows.length=m∧(∀ r ∈ rows,ZcM row r)∧∀ (i:Nat) r,rows[i]? = some r→r.length=P.cellsOf e∧RowR ok w r (a.add (i * P.cellsOf e)):=by
           intro m
           induction m with
           | zero=>intro _;exact ⟨[],rfl,by simp,by simp⟩
           | succ m ihm =>
            intro hm
            obtain ⟨rows,r1,r2,r3⟩:=ihm (by omega)
            obtain ⟨y,hy,_⟩:=h2 m (by omega)
            cases hc:w.cells? 0 (a.add (m * P.cellsOf e)) (P.cellsOf e) with
            | none=>rw [hc] at hy;simp at hy
            | some cs' =>
             rw [hc] at hy
             simp only [Option.bind_some] at hy
             obtain ⟨d',ps'⟩:=y
             obtain ⟨xs,x1,x2⟩:=ih n e row hk cs' d' ps' hy
             obtain ⟨c1,c2⟩:=cells?_get hc
             have hxl:=Zjg x2
             refine ⟨rows++[xs],by simp [r1],?_,fun i r hi => ?_⟩
             ·intro r hr
              rcases List.mem_append.1 hr with hr | hr
              ·exact r2 r hr
              ·simp at hr;subst hr;exact x1
             ·rw [List.getElem?_append] at hi
              split at hi
              ·exact r3 i r hi
              ·rename_i hge
               have hi0:i - rows.length=0:=by
                rcases Nat.eq_zero_or_pos (i - rows.length) with h0 | h0
                ·exact h0
                ·rw [List.getElem?_eq_none (by simp;omega)] at hi;cases hi
               rw [hi0] at hi
               simp at hi
               subst hi
               have:i=m:=by omega
               subst this
               refine ⟨by omega,?_⟩
               rw [Zgu]
               intro j x hj
               obtain ⟨u,hu1,hu2⟩:=ZqE x2 j x hj
               have hjl:j<P.cellsOf e:=by
                have:=(List.getElem?_eq_some_iff.1 hu1).1;omega
               obtain ⟨u',hc1,hc2⟩:=c2 j hjl
               rw [hu1] at hc2
               cases hc2
               exact ⟨u,hc1,hok _ _ hc1,hu2⟩
          obtain ⟨rows,r1,r2,r3⟩:=key len (Nat.le_refl _)
          refine ⟨[.sl (P.cellsOf e) false rows],?_,_,[],rfl,?_,rfl⟩
          ·simp only [ZcM,okPC,true_and,and_true]
           exact ⟨by omega,r2⟩
          ·rw [PR]
           exact ⟨some a,cap,by rw [r1],by omega,by simp,fun _=>⟨a,rfl,by rw [ZeA];exact r3⟩⟩
        ·cases h
      | _=>simp at h
     ·simp at h
    ·cases hk
   | struct fs =>
    simp only [Bool.and_eq_true,decide_eq_true_eq] at hk
    obtain ⟨⟨hD,hl⟩,hf⟩:=hk
    simp only at h
    split at h
    ·rename_i hcl
     cases hm:(fs.toList.mapM fun f=>DataW.trod enc P w 0 (fun _=>true) true fuel f.type ((cs.drop f.offset).take (P.cellsOf f.type))) with
     | none=>rw [hm] at h;simp at h
     | some rs =>
      obtain ⟨xs,x1,x2⟩:=ZkV ih hf hl hD hcl (Nat.zero_le _) hm
      exact ⟨xs,by simpa using x1,by simpa using x2⟩
    ·cases h
   | array m e =>
    simp only [Bool.and_eq_true,decide_eq_true_eq] at hk
    obtain ⟨⟨hD,hl⟩,hf⟩:=hk
    simp only at h
    split at h
    ·rename_i hcl
     cases hm:((List.range m).mapM fun i=>DataW.trod enc P w 0 (fun _=>true) true fuel e ((cs.drop (i * P.cellsOf e)).take (P.cellsOf e))) with
     | none=>rw [hm] at h;simp at h
     | some rs =>
      obtain ⟨_,h2⟩:=Zi3 hm
      obtain ⟨xs,x1,x2⟩:=ZlU ih hf (by omega) (by omega) (fun i hi=>let ⟨y,hy,_⟩:=h2 i hi; ⟨y.1,y.2,hy⟩)
      refine ⟨xs,?_,?_⟩
      ·rwa [List.take_of_length_le (by omega)] at x1
      ·rwa [List.take_of_length_le (by omega)] at x2
    ·cases h
   | _=>cases hk
end
end Go.Eng

