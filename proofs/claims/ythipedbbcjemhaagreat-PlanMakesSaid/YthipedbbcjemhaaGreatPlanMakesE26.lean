/- Part of the proof. -/
import Derived.Test.YthipedbbcjemhaaGreatPlanMakesE18
import Derived.Laws.StructEq
import Derived.KernelRfl
import Derived.Laws.IdiomRangeMap
set_option linter.all false
namespace Go.Eng
open Go
theorem ZpT {α:Type}{l:List α}{i:Nat}{x:α}(h:l[i]?=some x):i<l.length:=(List.getElem?_eq_some_iff.1 h).1
section
variable {P:Program} {n:Nat} {g:G} {s:St} {a:Act} {w:World}
end
end Go.Eng

namespace Go.Eng
open Go
theorem Zsh {α:Type}(n:Nat)(z:α)(l:List α)(h:l.length=n){m:List α}(e:m=(List.range n).map λi=>l.getD i z):m=l:=by
 subst e
 apply List.ext_getElem?
 intro i
 rw [ZE]
 by_cases hi:i<n
 ·rw [List.getElem?_range hi,ZC (by omega)]
  simp [Zw,ZC (show i<l.length by omega)]
 rw [ZD (l:=List.range n) (by simp;omega),ZD (by omega)];rfl
theorem ZlX {α:Type}{l:List α}{i:Int}{e:α}(h:idx l i=some e):0<=i/\i.toNat<l.length/\l[i.toNat]?=some e:=by
 unfold idx at h
 split at h
 ·rename_i h0
  exact ⟨h0,(List.getElem?_eq_some_iff.1 h).1,h⟩
 cases h
theorem Zo9 {α:Type}{l:List α}{i:Int}{e:α}{t off n sz:Nat}{k:IntKind}(h:idx l i=some e)(hn:l.length=n) :
  Za8 (.iaddr n sz) [.loc t off,.p (.int k i)]=some (.loc t (off+i.toNat*sz)):=by
 obtain ⟨h0,h1,_⟩:=ZlX h
 simp only [Za8]
 rw [Z9 ⟨h0,by omega⟩]
 rfl
theorem ZfS {α:Type}{l:List α}{i:Int}{e:α}{t off n sz:Nat}{k:IntKind}(h:idx l i=some e)(hn:l.length=n) :
  Za8 (.iaddr n sz) [.ptr t off,.p (.int k i)]=some (.ptr t (off+i.toNat*sz)):=by
 obtain ⟨h0,h1,_⟩:=ZlX h
 simp only [Za8]
 rw [Z9 ⟨h0,by omega⟩]
 rfl
theorem Zr0 {α:Type}{l:List α}{i:Int}{e:α}{off:Nat}(f:α->AV)(pre post:List AV)(h:idx l i=some e)(hp:pre.length=off){cs:List AV}(hc:cs=pre++(l.map f++post)) :
  sub (off+i.toNat*1) 1 cs=some [f e]:=by
 obtain ⟨h0,h1,h2⟩:=ZlX h
 subst hc hp
 unfold sub
 rw [Z9 (by simp;omega)]
 have e1:(pre++(l.map f++post))[pre.length+i.toNat*1]?=some (f e):=by
  rw [Zy (by omega),show pre.length+i.toNat*1-pre.length=i.toNat by omega,Zx (by simpa using h1),ZE,h2]
  rfl
 congr 1
 have:=List.drop_eq_getElem_cons (ZpT e1)
 rw [this]
 have e2:(pre++(l.map f++post))[pre.length+i.toNat*1]'(ZpT e1)=f e:=by
  rw [ZC (ZpT e1)] at e1
  simpa using e1
 rw [e2]
 simp
theorem ZkI {α:Type}{l:List α}{i:Int}{e y:α}{off:Nat}(f:α->AV)(pre post:List AV)(h:idx l i=some e)(hp:pre.length=off){cs vs cs':List AV}(hc:cs=pre++(l.map f++post))(hv:vs=[f y])
  (hc':cs'=pre++((l.set i.toNat y).map f++post)):ZcE (off+i.toNat*1) vs cs=some cs':=by
 obtain ⟨h0,h1,h2⟩:=ZlX h
 subst hc hp hv hc'
 unfold ZcE
 rw [Z9 (by simp;omega)]
 congr 1
 rw [Nat.mul_one,List.take_append,ZV (by omega),show pre.length+i.toNat-pre.length=i.toNat by omega,List.take_append_of_le_length (by simp;omega)]
 simp only [Zq]
 congr 1
 rw [List.drop_append,List.drop_eq_nil_of_le (by simp;omega),ZQ,show pre.length+i.toNat+[f y].length-pre.length=i.toNat+1 by simp;omega,
  List.drop_append_of_le_length (by simp;omega),← Zq,← Zq]
 congr 1
 rw [List.map_set,List.set_eq_take_append_cons_drop,Z9 (by simpa using h1)]
 simp
theorem Zqx {X Y:List AV}{pre post cs':List AV}(h:X=Y)(hc:cs'=pre++(X++post)):cs'=pre++(Y++post):=h ▸ hc
section
variable {P:Program} {n:Nat} {s:St}
theorem Zri {α:Type}{l:List α}{i:Int}{e:α}{d t off:Nat}{x:IX}{cs:List AV}(f:α->AV)(pre post:List AV)(h:idx l i=some e)(hx:ev s.fr x=.loc t (off+i.toNat*1))(hb:bget s.bx t=some cs)
  (hc:cs=pre++(l.map f++post)) (hp:pre.length=off) (hok:Zeb (f e)=true:=by rfl):ZaM P (.loadL d x 1 false) s ⟨put s.fr d (f e),s.bx,s.H⟩:=by
 have hs:=Zr0 f pre post h hp hc
 simp only [ZaM,Za6,hx,rd,hb,ZZ,hs,ZaV,hok,Bool.and_self,Zaa,mk,Z1,Zg,Z7]
theorem Zpg {α:Type}{l:List α}{i:Int}{e:α}{d id off:Nat}{x:IX}{cs:List AV}{H:List HO}(f:α->AV)(pre post:List AV)(h:idx l i=some e)(hs:s.H=H)(hx:ev s.fr x=.ptr id (off+i.toNat*1))(hl:Lies H (.cel id cs))
  (hc:cs=pre++(l.map f++post)) (hp:pre.length=off) (hok:Zeb (f e)=true:=by rfl):ZaM P (.load d x 1 false) s ⟨put s.fr d (f e),s.bx,s.H⟩:=by
 subst hs
 have hl':s.H[id]?=some (.cells cs):=hl
 have hs:=Zr0 f pre post h hp hc
 simp only [ZaM,Za6,hx,rd,hl',ZZ,hs,ZaV,hok,Bool.and_self,Zaa,mk,Z1,Zg,Z7]
theorem Zmn {x y:IX}{m:Nat}{s':St}(h:ZaM P (.store x y m) s s')(hl:ZpS (ev s.fr x)=false):ZaM P (.storeH x y m) s s':=by
 simp only [ZaM,Za6] at h ⊢
 split at h
 ·rename_i hc;rw [Z9 ⟨hl,hc⟩];exact h
 cases h
theorem HP.lit {α:Type}{H:List HO}{items:List Za9}(sz:Nat)(l:List α)(enc:α->List PC)(hH:HP H items) :
  ∃ a H',a=.osl sz H.length 0 0 (l.map enc).length/\H'=H++[.arr sz 0 false (l.map enc)]/\HP H' (.arr a sz false (l.map enc)::items):=
 ⟨_,_,rfl,rfl,(hH.push _).cons (.inr ⟨H.length,0,rfl,false,λ_=>rfl,by simp⟩) (λid ⟨_,_,_,_,e⟩ j hj ho=>by
  cases e
  have:=(hH.lies j hj).lt _ ho
  omega)⟩
theorem ZlU {d sz:Nat}{xs:List IX}{ys:List AV}{rows:List (List PC)}{H H':List HO}{a:AV}(hs:s.H=H)(hy:xs.map (ev s.fr)=ys)(hr:ZgU sz ys=some rows)(ha:a=.osl sz H.length 0 0 rows.length)(hH:H'=H++[.arr sz 0 false rows]) :
  ZaM P (.litSl d sz xs) s ⟨put s.fr d a,s.bx,H'⟩:=by
 subst hs hy ha hH
 simp only [ZaM,Za6,hr,Z1]
end
end Go.Eng

namespace Go.Eng
open Go
theorem passC_nil' {fl:List Bool}{H:List HO}:Zkg fl H []=some ([],H):=rfl
theorem Zct {b:Bool}{fl:List Bool}{H H1 H2:List HO}{x x':AV}{xs xs':List AV}(h1:ZmL b H x=some (x',H1))(h2:Zkg fl H1 xs=some (xs',H2)):Zkg (b::fl) H (x::xs)=some (x'::xs',H2):=by
 simp only [Zkg,List.headD_cons,List.tail_cons,h1,ZZ,h2,Z1]
theorem ZeJ {H:List HO}{c:AV}(h:Za3 c=true):ZmL true H c=some (c,H):=by simp [ZmL,h]
theorem ZiI {H H1:List HO}{c x:AV}(h:frz1 H c=some (x,H1)):ZmL false H c=some (x,H1):=by simpa [ZmL] using h
theorem ZiH {fl:List Bool}{H H':List HO}{cs cs':List AV}(h:Zkg fl H cs=some (cs',H')):ZnK fl H (.agg cs)=some (.agg cs',H'):=by simp only [ZnK,h,Z1]
theorem Zb7 {H H':List HO}{x x':AV}(h:frzV H x=some (x',H')):ZnK [] H x=some (x',H'):=by rw [Zpz];exact h
theorem passL_nil' {fl:List (List Bool)}{H:List HO}:ZkT fl H []=some ([],H):=rfl
theorem Zbk {b:List Bool}{fl:List (List Bool)}{H H1 H2:List HO}{x x':AV}{xs xs':List AV}(h1:ZnK b H x=some (x',H1))(h2:ZkT fl H1 xs=some (xs',H2)):ZkT (b::fl) H (x::xs)=some (x'::xs',H2):=by
 simp only [ZkT,List.headD_cons,List.tail_cons,h1,ZZ,h2,Z1]
theorem ZeK {H:List HO}{a:AV}{sz:Nat}{frz:Bool}{rows:List (List PC)}(h:Lies H (.arr a sz frz rows)):Za3 a=true:=by
 rcases ZlW h with rfl|⟨_,_,rfl⟩<;>rfl
section
variable {P:Program} {n:Nat} {s:St}
theorem ZhM {d:Option Nat}{f:Nat}{xs:List IX}{ys args:List AV}{r:AV}{H H1 H':List HO}(hs:s.H=H)(hy:xs.map (ev s.fr)=ys)(fl:List (List Bool))(hf:ZkT fl H ys=some (args,H1))(hc:Zcm P f args H1 r H'):ZaM P (.call d f xs) s ⟨putO s.fr d r,s.bx,H'⟩:=by
 subst hs hy
 exact ⟨args,H1,r,H',⟨fl,hf⟩,hc,rfl⟩
theorem ZjT {f:Nat}{F:IFn}(hk:chkF P f F=true){args:List AV}{H:List HO}(ids:List Nat)(K:AV->List HO->Prop)(hK:∀ r H,K r H->Za3 r=true)(hl:args.length=F.nargs)(hno:noLocL args=true)
  (h:vc P F.nt F.body (endQ λs'=>∃ xs,rawL (wS ids s') F.res=some xs/\K (ZbV xs) (weakH ids s'.H)) ⟨ZiW args 0,[],H⟩):∃ r H',Zcm P f args H r H'/\K r H':=by
 obtain ⟨e,s',h1,h2⟩:=vcd _ h
 have key:(∃ xs,rawL (wS ids s') F.res=some xs/\K (ZbV xs) (weakH ids s'.H))->(e=.normal∨e=.ret)->∃ r H',Zcm P f args H r H'/\K r H':=by
  rintro ⟨xs,x1,x3⟩ he
  refine ⟨ZbV xs,weakH ids s'.H,Zo4 hk hl hno (hK _ _ x3) (EvI.weak ids (Zay _ _ _ (Zdy _ (λe1 s1 q=>?_) h1))),x3⟩
  obtain ⟨q1,q2⟩:=q
  subst q1 q2
  rcases he with rfl|rfl
  ·exact ⟨xs,x1,rfl,rfl⟩
  exact ⟨xs,x1,rfl,rfl⟩
 cases e with
 | normal=>exact key h2 (.inl rfl)
 | ret=>exact key h2 (.inr rfl)
 | _=>exact h2.elim
theorem ZcN {f:Nat}{F:IFn}(hk:chkF P f F=true){args:List AV}{H H':List HO}{r:AV}(hl:args.length=F.nargs)(hno:noLocL args=true)(hr:Za3 r=true)
  (h:EvI P F.nt F.body ⟨ZiW args 0,[],H⟩ (endQ λs'=>∃ xs,rawL s' F.res=some xs/\ZbV (weakVs xs)=r/\s'.H=H')):Zcm P f args H r H':=by
 unfold chkF at hk
 split at hk
 ·rename_i fn hf
  split at hk
  ·rename_i c hb
   simp only [Ze,Z6,Zh] at hk
   obtain ⟨⟨⟨⟨hc,hres⟩,hna⟩,hnt⟩,hname⟩:=hk
   refine ⟨⟨fn,hf,by rw [hb];rfl,hname⟩,hr,λok0 ρ w vs hhr hv=>?_⟩
   have hrel:=Zm9 (n:=fn.ntmps) hhr hv hno (by omega)
   refine Zo0 (r:=none) (m:=0) (callsIn_of_wp_marks hf hb trivial (wpIn_mono (h c (by rw [← hnt];exact hc) _ _ _ _ (by rw [← hnt];exact hrel)) ?_))
   rintro e a' w' ⟨s',g',h1,h2⟩
   have key:(∃ xs,rawL s' F.res=some xs/\ZbV (weakVs xs)=r/\s'.H=H')->LeavesInM (FR none) 0 P fn a'.tmps (λe w'=>∃ v' ρ',e=.returned v'/\HR (k0 ok0 ρ H w) ρ' H' w'/\VR (cx (k0 ok0 ρ H w) ⟨ρ',noB⟩ H' w') r v' ∧
     Zbt (cx (k0 ok0 ρ H w) ⟨ρ,noB⟩ H w) (cx (k0 ok0 ρ H w) ⟨ρ',noB⟩ H' w')) a'.defers .returning w':=by
    rintro ⟨xs,x1,rfl,rfl⟩
    refine h1.leavesAll λw2 h2=>?_
    obtain ⟨us,u1,u2⟩:=ZiF (P:=P) h2 hres x1
    refine ⟨_,?_,_,g'.ρ,rfl,h2.toHR,VR.later h2.noBoxes _ _ hr (Zom u2.weakVs),h2.hist.trans h2.noBoxes⟩
    rw [ZkL]
    have hm:(fn.results.mapM (m:=Sem) (resF a'.tmps)).run P w2=.ok us.toArray w2:=by
     rw [← Array.toArray_toList (xs:=fn.results),List.mapM_toArray,Sem.run_map,u1]
     rfl
    simp only [Sem.run_bind,hm,Result.andThen_ok,Sem.run_pure]
   cases e with
   | normal=>exact key h2
   | ret=>exact key h2
   | _=>exact h2.elim
  cases hk
 cases hk
theorem Zb8 {res:List RV}{r:AV}{H:List HO}(h:(rawL s res).map (λxs=>ZbV (weakVs xs))=some r)(hH:s.H=H):∃ xs,rawL s res=some xs/\ZbV (weakVs xs)=r/\s.H=H:=by
 cases hs:rawL s res with
 | none=>rw [hs] at h;cases h
 | some xs=>rw [hs] at h;exact ⟨xs,rfl,by simpa using h,hH⟩
theorem Zo7 {α:Type}{l r:List α}{sz:Nat}{f:Bool}{k k' k'':IntKind}{lo hi:Int}(enc:α->List PC)(h:subI l lo hi=some r) :
  Za8 (.slice sz true true true) [.p (.sl sz f (l.map enc)),.p (.int k lo),.p (.int k' hi),.p (.int k'' hi)]=some (.p (.sl sz true (r.map enc))):=by
 obtain ⟨h1,h2,h3,h4,h5⟩:=ZrZ enc h
 have h0:0<=hi:=by omega
 simp only [Za8,Zjk,Zf2,Zaa,Z9 h1,Z9 h0,ZZ]
 rw [Z9 ⟨rfl,by omega,by simp;omega,trivial,trivial,λ_=>trivial⟩,h5]
end
end Go.Eng
namespace Go.Eng
open Go
theorem Zrd {H:List HO}:FrzC H [] []:=by rw [FrzC]
theorem ZdI {H:List HO}{c x:AV}{cs xs:List AV}(h1:frz1 H c=some (x,H))(h2:FrzC H cs xs):FrzC H (c::cs) (x::xs):=by rw [FrzC];exact ⟨x,xs,rfl,h1,h2⟩
theorem Zrc {H:List HO}{cs xs:List AV}(h:FrzC H cs xs):FrzQ H (.agg cs) (.agg xs):=⟨xs,rfl,h⟩
theorem Ztr {H:List HO}:FrzL H [] []:=by rw [FrzL]
theorem Zp8 {H:List HO}{c x:AV}{cs xs:List AV}(h1:FrzQ H c x)(h2:FrzL H cs xs):FrzL H (c::cs) (x::xs):=by rw [FrzL];exact ⟨x,xs,rfl,h1,h2⟩
section
variable {P:Program} {s:St}
theorem ZsW {d f:Nat}{xs:List IX}{ys args:List AV}{r:AV}{H:List HO}(hs:s.H=H)(hy:xs.map (ev s.fr)=ys)(hf:FrzL H ys args)(hc:Zba P f args r):ZaM P (.callQ d f xs) s ⟨put s.fr d r,s.bx,s.H⟩:=by
 subst hs hy
 exact ⟨args,r,hf,hc,rfl⟩
end
theorem Zth {H:List HO}{id sz ver:Nat}{f:Bool}{rows:List (List PC)}(hid:H[id]?=some (.arr sz ver f rows)){b x:AV}(h:frz1 H b=some (x,H)) :
  frz1 (H.set id (.arr sz ver true rows)) b=some (x,H.set id (.arr sz ver true rows)):=by
 have hlt:=ZpT hid
 unfold frz1 at h ⊢
 split at h
 ·simp only [Z2,Z3] at h;simp [h.1]
 ·simp only [Z2,Z3] at h;simp [h.1]
 ·simp only [Z2,Z3] at h;simp [h.1]
 ·split at h
  ·rename_i hc;simp only [Z2,Z3] at h;simp [hc,h.1]
  cases h
 ·simp only [Z2,Z3] at h;simp [h.1]
 ·simp only [Z2,Z3] at h;simp [h.1]
 ·rename_i sz0 id0 ver0 off len
  split at h
  ·rename_i sz' ver' frz rows' hH
   split at h
   ·rename_i hc
    cases hs:sub off len rows' with
    | none=>simp [hs] at h
    | some r =>
     simp only [hs,Z1,Z2,Z3] at h
     by_cases e:id=id0
     ·subst e
      rw [hid] at hH
      simp only [Z2,HO.arr.injEq] at hH
      obtain ⟨rfl,rfl,rfl,rfl⟩:=hH
      have:(H.set id (.arr sz ver true rows))[id]?=some (.arr sz ver true rows):=by simp [hlt]
      simp only [this]
      rw [Z9 hc]
      obtain ⟨rfl,rfl⟩:=hc
      simp only [hs,Z1,Z2,Z3]
      exact ⟨h.1,by rw [List.set_set]⟩
     have:(H.set id (.arr sz ver true rows))[id0]?=some (.arr sz' ver' frz rows'):=by rw [ZG e];exact hH
     simp only [this]
     rw [Z9 hc]
     simp only [hs,Z1,Z2,Z3]
     exact ⟨h.1,by rw [List.set_comm _ _ e,h.2]⟩
   cases h
  cases h
 cases h
theorem HP.frzd {α:Type}{H:List HO}{items:List Za9}{k:Nat}{a:AV}{sz:Nat}{frz:Bool}{l:List α}(enc:α->List PC)(hH:HP H items)(hk:items[k]?=some (.arr a sz frz (l.map enc))) :
  ∃ H',frzV H a=some (.p (.sl sz false (l.map enc)),H')/\frz1 H' a=some (.p (.sl sz false (l.map enc)),H')/\(∀ b x,frz1 H b=some (x,H)->frz1 H' b=some (x,H'))/\HP H' (items.set k (.arr a sz true (l.map enc))):=by
 rcases hH.get k hk with ⟨rfl,hl⟩|⟨id,ver,rfl,f,hf,hid⟩
 ·refine ⟨H,by rw [hl];rfl,by rw [hl];rfl,λ_ _ h=>h,?_⟩
  exact hH.replace hk (.inl ⟨rfl,hl⟩) (λid ⟨_,_,_,_,e⟩=>by cases e) (λ_ _ _=>rfl)
 have hlt:=ZpT hid
 have e1:frz1 H (.osl sz id ver 0 (l.map enc).length)=some (.p (.sl sz false (l.map enc)),H.set id (.arr sz ver true (l.map enc))):=by
  simp only [frz1,hid,and_self,Zaa,sub,ZY,Nat.le_refl,List.drop_zero,ZU,Z1]
 have hid':(H.set id (.arr sz ver true (l.map enc)))[id]?=some (.arr sz ver true (l.map enc)):=by simp [hlt]
 refine ⟨H.set id (.arr sz ver true (l.map enc)),e1,?_,λb x h=>Zth hid h,?_⟩
 ·simp only [frz1,hid',and_self,Zaa,sub,ZY,Nat.le_refl,List.drop_zero,ZU,Z1,List.set_set]
 refine hH.replace hk (.inr ⟨id,ver,by simp,true,by simp,by simp [hlt]⟩) (λid' ⟨_,_,_,_,e⟩=>by cases e;exact .inl ⟨sz,ver,0,_,rfl⟩) (λid' hl' ho=>?_)
 rw [ZG]
 intro e;subst e;exact ho ⟨sz,ver,0,_,rfl⟩
end Go.Eng

namespace Go.Eng
open Go Go.MapKept
abbrev Ent:=List (List Int×AV)
def Zjg (es:Ent)(ks:List Int):Option AV:=(es.find? (λp=>decide (p.1=ks))).map (·.2)
def mset (es:Ent)(ks:List Int)(v:AV):Ent:=match es with
 | []=>[(ks,v)]
 | p::r=>if p.1=ks then (ks,v)::r else p::mset r ks v
def keyA (kn:Nat)(ks:List Int):AV:=if kn=0 then .p (.int .i64 (ks.headD 0)) else .agg (ks.map λn=>.p (.int .i64 n))
def fEnt:Ent->List MapEntry->List Int->Nat->Option (Nat×Value)
 | p::es,e::ents,ks,i=>if p.1=ks then some (i,e.val) else fEnt es ents ks (i+1)
 | _,_,_,_=>none
theorem Zsp {c:Cx}{kn:Nat}{ks:List Int}{v:Value}(h:VR c (keyA kn ks) v):v=keyV kn ks:=by
 unfold keyA at h
 unfold keyV
 split at h
 ·rename_i e;rw [Z9 e];exact Zdw h
 rename_i e
 rw [Z8 e]
 rw [VR] at h
 obtain ⟨vs,rfl,h⟩:=h
 congr 1
 have:vs=ks.map (Value.int .i64):=by
  clear e
  induction ks generalizing vs with
  | nil=>rw [ZN,VRL] at h;exact h
  | cons x xs ih =>
   rw [ZM,VRL] at h
   obtain ⟨u,us,rfl,h1,h2⟩:=h
   rw [Zdw h1,ih us h2];rfl
 rw [this]
theorem Zl4 {c:Cx}:∀ (ks:List Int),VRL c (ks.map λn=>.p (.int .i64 n)) (ks.map (Value.int .i64))
 | []=>by simp [VRL]
 | x::xs=>by rw [ZM,ZM,VRL];exact ⟨_,_,rfl,Zen _ _,Zl4 xs⟩
theorem ZlA:∀ (as bs:List Int),as.length=bs.length->∀ ks:List Bool,ks=as.map (λ_=>true) →
  ZcK ks (as.map λn=>.p (.int .i64 n)) (bs.map λn=>.p (.int .i64 n))=some (decide (as=bs))
 | [],[],_,ks,e=>by subst e;rfl
 | a::as,b::bs,h,ks,e=>by
  subst e
  have:=ZlA as bs (by simpa using h) _ rfl
  simp only [ZM,ZcK,Zaa,this,Z1]
  congr 1
  by_cases h1:a=b<;>by_cases h2:as=bs<;>simp [h1,h2]
 | [],_::_,h,_,_=>by simp at h
 | _::_,[],h,_,_=>by simp at h
section
variable {P:Program}
theorem Zlx {w:World}{kk:IntKind}:∀ (es:Ent) (ents:List MapEntry) (ks:List Int) (i:Nat),ents.map (·.key)=es.map (λp=>keyV 0 p.1)->(∀ p∈es,p.1.length=1)->ks.length=1 →
  Instr.findNow (.int kk) (keyV 0 ks) ents i=some (fEnt es ents ks i)
 | [],[],ks,i,_,_,_=>rfl
 | p::es,e::ents,ks,i,h,hl,hk=>by
  simp only [ZM,Zr] at h
  obtain ⟨x,hx⟩:=List.length_eq_one_iff.1 hk
  obtain ⟨y,hy⟩:=List.length_eq_one_iff.1 (hl p (by simp))
  have ih:=Zlx (w:=w) (kk:=kk) es ents ks (i+1) h.2 (λq hq=>hl q (by simp [hq])) hk
  unfold Instr.findNow fEnt
  rw [h.1]
  subst hx
  rw [hy]
  simp only [keyV,Zaa,List.headD_cons,Instr.sameNow]
  by_cases e1:y=x
  ·subst e1;simp
  have e2:(x==y)=false:=by simp [Ne.symm e1]
  have e3:¬ ([y]=[x]):=by simp [e1]
  rw [Z8 e3,e2]
  exact ih
 | [],_::_,_,_,h,_,_=>by simp at h
 | _::_,[],_,_,h,_,_=>by simp at h
theorem Zg8 {w:World}{kt:TypeId}{kn:Nat}(h0:kn≠0){ks0:List Bool}(hq:eqOK P kt ks0=true)(hks:ks0.length=kn)(ht:∀ b∈ks0,b=true) :
  ∀ (es:Ent) (ents:List MapEntry) (ks:List Int) (i:Nat),ents.map (·.key)=es.map (λp=>keyV kn p.1)->(∀ p∈es,p.1.length=kn)->ks.length=kn →
  (Instr.findAsking kt (keyV kn ks) ents i).run P w=.ok (fEnt es ents ks i) w
 | [],[],ks,i,_,_,_=>rfl
 | p::es,e::ents,ks,i,h,hl,hk=>by
  simp only [ZM,Zr] at h
  have ih:=Zg8 (w:=w) h0 hq hks ht es ents ks (i+1) h.2 (λq hq=>hl q (by simp [hq])) hk
  have hp:=hl p (by simp)
  have hks0:ks0=ks.map (λ_=>true):=by
   refine List.ext_getElem (by simp [hks,hk]) λj h1 h2=>?_
   simp [ht _ (List.getElem_mem h1)]
  have hrun:(Op.equal kt (keyV kn ks) (keyV kn p.1)).run P w=.ok (decide (ks=p.1)) w:=by
   simp only [keyV,Z8 h0]
   exact Zjm (c:=⟨λ_=>True,w,[],[],noB⟩) hq (ZlA ks p.1 (by rw [hk,hp]) ks0 hks0) (Zl4 ks) (Zl4 p.1)
  unfold Instr.findAsking fEnt
  rw [h.1]
  simp only [Sem.run_bind,hrun,Result.andThen_ok]
  by_cases e1:p.1=ks
  ·rw [Z9 e1];simp [e1]
  have e2:¬ ks=p.1:=λe=>e1 e.symm
  rw [Z8 e1];simp only [e2,decide_false,Zg,Z7];exact ih
 | [],_::_,_,_,h,_,_=>by simp at h
 | _::_,[],_,_,h,_,_=>by simp at h
theorem ZmU {kt:TypeId}{kn:Nat}(h:Zqp P kt kn=true):(kn=0/\∃ kk,P.underlying kt=some (.int kk)) ∨
  (kn≠0/\∃ fs ks0,P.underlying kt=some (.struct fs)/\eqOK P kt ks0=true/\ks0.length=kn/\(∀ b∈ks0,b=true)/\Zd8 P 0 fs.toList ks0=true):=by
 unfold Zqp at h
 split at h
 ·rename_i kk hu;exact .inl ⟨by simpa using h,kk,hu⟩
 ·rename_i fs hu
  simp only [Ze,Z6] at h
  obtain ⟨⟨⟨h1,h2⟩,_⟩,h3⟩:=h
  refine .inr ⟨h2,fs,_,hu,h3,by simp [h1],by simp,?_⟩
  simp only [eqOK,Ze,hu] at h3
  exact h3.1.1
 cases h
theorem Znt {fs:Array Field}{a b:Value}:Instr.sameNow (.struct fs) a b=none:=by
 unfold Instr.sameNow;rfl
theorem Zjl {w:World}{kt:TypeId}{kn:Nat}(h:Zqp P kt kn=true){es:Ent}{ents:List MapEntry}{ks:List Int}(he:ents.map (·.key)=es.map (λp=>keyV kn p.1))(hl:∀ p∈es,p.1.length=klen kn)(hk:ks.length=klen kn) :
  (Instr.findKey kt (keyV kn ks) ents).run P w=.ok (fEnt es ents ks 0) w:=by
 rcases ZmU h with ⟨rfl,kk,hu⟩|⟨h0,fs,ks0,hu,hq,hks,ht,_⟩
 ·unfold Instr.findKey
  simp only [Sem.run_bind,run_underlying hu,Result.andThen_ok,Zlx (w:=w) es ents ks 0 he hl hk]
  rfl
 have hkl:klen kn=kn:=by simp [klen,h0]
 rw [hkl] at hl hk
 have hask:=Zg8 (w:=w) h0 hq hks ht es ents ks 0 he hl hk
 unfold Instr.findKey
 simp only [Sem.run_bind,run_underlying hu,Result.andThen_ok]
 cases ents with
 | nil =>
  cases es with
  | nil=>rfl
  | cons=>simp at he
 | cons e ents =>
  unfold Instr.findNow
  rw [Znt]
  exact hask
theorem Znd {w:World}{m:Nat}{b0:Bool}:∀ (fs:List Field) (ks0:List Bool) (off:Nat) (cs:Array Value) (ks:List Int),Zd8 P off fs ks0=true->(∀ b∈ks0,b=true)->cs.toList.drop off=ks.map (Value.int .i64)->ks.length=ks0.length →
  (forIn fs PUnit.unit λf (_:PUnit)=>(do
    if f.name ≠ "_" then
     let x ← part f.type cs f.offset
     Instr.checkKey b0 (m+1) f.type x
     pure (ForInStep.yield PUnit.unit)
    else pure (ForInStep.yield PUnit.unit):Sem _)).run P w=.ok PUnit.unit w
 | [],ks0,off,cs,ks,_,_,_,_=>rfl
 | f::fs,k::ks0,off,cs,x::ks,hf,ht,hc,hl=>by
  simp only [Zd8,Ze,Zh,Z6,beq_eq_false_iff_ne] at hf
  obtain ⟨⟨⟨hn,ho⟩,hk⟩,hf⟩:=hf
  obtain rfl:k=true:=ht k (by simp)
  have hxo:cs[f.offset]?=some (.int .i64 x):=by
   have:=congrArg (·[0]?) hc
   simpa [ho] using this
  have hx':cs.toList.drop (off+1)=ks.map (Value.int .i64):=by
   have:=congrArg List.tail hc
   simpa using this
  have ih:=Znd (w:=w) (m:=m) (b0:=b0) fs ks0 (off+1) cs ks hf (λb hb=>ht b (by simp [hb])) hx' (by simpa using hl)
  cases hty:P.underlying f.type with
  | none=>simp [hty] at hk
  | some T =>
   cases T<;>simp [hty] at hk
   rename_i kk
   have hpl:P.plainKey f.type=true:=by simp [Program.plainKey,hty]
   have h1:=run_part_plain (P:=P) w hpl hxo
   simp only [List.forIn_cons,Sem.run_bind,hn,ne_eq,not_false_eq_true,Zaa,h1,Result.andThen_ok,Instr.checkKey,run_underlying hty,Sem.run_pure]
   exact ih
 | _::_,[],_,_,_,hf,_,_,_=>by simp [Zd8] at hf
 | _::_,_::_,_,_,[],_,_,_,hl=>by simp at hl
theorem Ziu {w:World}{kt:TypeId}{kn:Nat}(h:Zqp P kt kn=true){ks:List Int}(hk:ks.length=klen kn)(b:Bool)(m:Nat) :
  (Instr.checkKey b (m+2) kt (keyV kn ks)).run P w=.ok () w:=by
 rcases ZmU h with ⟨rfl,kk,hu⟩|⟨h0,fs,ks0,hu,hq,hks,ht,hfl⟩
 ·simp [Instr.checkKey,run_underlying hu,keyV]
 have hkl:ks.length=ks0.length:=by rw [hk,hks];simp [klen,h0]
 have:=Znd (w:=w) (m:=m) (b0:=b) fs.toList ks0 0 (ks.map (Value.int .i64)).toArray ks hfl ht (by simp) hkl
 unfold Instr.checkKey
 simp only [Sem.run_bind,run_underlying hu,Result.andThen_ok,keyV,Z8 h0]
 rw [← Array.forIn_toList]
 simp only [ne_eq,ite_not,bind_pure_comp] at this ⊢
 rw [this]
 rfl
theorem Zte {kn:Nat}{a b:List Int}(ha:a.length=klen kn)(hb:b.length=klen kn)(h:keyV kn a=keyV kn b):a=b:=by
 unfold keyV klen at *
 split at h
 ·rename_i e
  rw [Z9 e] at ha hb
  obtain ⟨x,rfl⟩:=List.length_eq_one_iff.1 ha
  obtain ⟨y,rfl⟩:=List.length_eq_one_iff.1 hb
  simpa using h
 simp only [Value.agg.injEq] at h
 have h2:=congrArg Array.toList h
 simp only [List.toList_toArray] at h2
 refine List.map_inj_right (λx y e=>?_) |>.1 h2
 simpa using e
theorem Zj2:∀ (ks:List Int) (n:Nat),((ks.map (Value.int .i64)).zip (ks.map (Value.int .i64))).all (λ(x,y)=>Instr.sameBits n x y)=true
 | [],_=>rfl
 | x::xs,n=>by
  simp only [ZM,List.zip_cons_cons,List.all_cons,Ze]
  exact ⟨by simp [Instr.sameBits],Zj2 xs n⟩
theorem Zpj (kn:Nat)(ks:List Int)(n:Nat):Instr.sameBits (n+1) (keyV kn ks) (keyV kn ks)=true:=by
 unfold keyV
 split
 ·simp [Instr.sameBits]
 have:=Zj2 ks n
 simp only [Instr.sameBits,beq_self_eq_true,Zk,List.toList_toArray]
 exact this
theorem Zpk {w:World}(kn:Nat)(ks:List Int):(Instr.keyThatStays (keyV kn ks) (keyV kn ks)).run P w=.ok (keyV kn ks) w:=by
 simp [Instr.keyThatStays,Zpj kn ks 9999]
theorem Zm8 {c:Cx}:∀ {es:Ent} {ents:List MapEntry} {ks:List Int} {i:Nat},es.length=ents.length->fEnt es ents ks i=none->Zjg es ks=none/\(∀ p∈es,p.1≠ks)/\∀ v,mset es ks v=es++[(ks,v)]
 | [],[],ks,i,_,_=>⟨rfl,by simp,λ_=>rfl⟩
 | p::es,e::ents,ks,i,hl,h=>by
  unfold fEnt at h
  split at h
  ·cases h
  rename_i hne
  obtain ⟨h1,h2,h3⟩:=Zm8 (c:=c) (es:=es) (ents:=ents) (by simpa using hl) h
  refine ⟨?_,?_,λv=>?_⟩
  ·simp only [Zjg,Zu,hne,decide_false] at h1 ⊢;exact h1
  ·intro q hq
   rcases List.mem_cons.1 hq with rfl|hq
   ·exact hne
   exact h2 q hq
  simp only [mset,Z8 hne,h3 v,Zs]
 | [],_::_,_,_,hl,_=>by simp at hl
 | _::_,[],_,_,hl,_=>by simp at hl
theorem Zm7 {c:Cx}:∀ {es:Ent} {ents:List MapEntry} {ks:List Int} {i j:Nat} {u:Value},VRL c (es.map (·.2)) (ents.map (·.val))->fEnt es ents ks i=some (j,u) →
  ∃ x q e,Zjg es ks=some x/\VR c x u/\j=i+q/\es[q]?=some (ks,x)/\ents[q]?=some e/\∀ v,mset es ks v=es.set q (ks,v)
 | p::es,e::ents,ks,i,j,u,hv,h=>by
  simp only [ZM] at hv
  rw [VRL] at hv
  obtain ⟨u0,us,e1,hv1,hv2⟩:=hv
  simp only [Zr] at e1
  obtain ⟨rfl,rfl⟩:=e1
  unfold fEnt at h
  split at h
  ·rename_i hp
   simp only [Z2,Z3] at h
   obtain ⟨rfl,rfl⟩:=h
   refine ⟨p.2,0,e,?_,hv1,rfl,?_,rfl,λv=>?_⟩
   ·simp [Zjg,Zu,hp]
   ·simp [← hp]
   simp [mset,hp]
  rename_i hp
  obtain ⟨x,q,e',h1,h2,h3,h4,h5,h6⟩:=Zm7 (es:=es) (ents:=ents) hv2 h
  refine ⟨x,q+1,e',?_,h2,by omega,by simpa using h4,by simpa using h5,λv=>?_⟩
  ·simp only [Zjg,Zu,hp,decide_false] at h1 ⊢;exact h1
  simp [mset,hp,h6 v]
 | [],_,_,_,_,_,_,h=>by simp [fEnt] at h
 | _::_,[],_,_,_,_,_,h=>by simp [fEnt] at h
theorem Zs7 {kn:Nat}{es:Ent}{ks:List Int}{v:AV}(h:∀ p∈es,p.1.length=klen kn)(hk:ks.length=klen kn):∀ p∈mset es ks v,p.1.length=klen kn:=by
 induction es with
 | nil=>simpa [mset] using hk
 | cons p r ih =>
  unfold mset
  intro q hq
  split at hq
  ·rcases List.mem_cons.1 hq with rfl|hq
   ·exact hk
   exact h q (by simp [hq])
  rcases List.mem_cons.1 hq with rfl|hq
  ·exact h _ (by simp)
  exact ih (λp hp=>h p (by simp [hp])) q hq
theorem ZtY {es:Ent}{ks:List Int}{v:AV}(h:ZaV (es.map (·.2))=true)(hv:Zeb v=true):ZaV ((mset es ks v).map (·.2))=true:=by
 induction es with
 | nil=>simp [mset,ZaV,hv]
 | cons p r ih =>
  simp only [ZM,ZaV,Ze] at h
  unfold mset
  split
  ·simp only [ZM,ZaV,hv,h.2,Bool.and_self]
  simp only [ZM,ZaV,h.1,ih h.2,Bool.and_self]
def mapL:LC:=⟨[],0,λ_ _=>True,true⟩
end
section
variable {P:Program} {k:K0} {n:Nat} {g:G} {s:St} {a:Act} {w:World}
theorem Rel.setMp (h:Rel k n g s a w){id l:Nat}{L:LC}{fr:List (Nat×AV)}{st st':LS}{es:Array MapEntry}{m:Nat}{o':Obj}(hH:s.H[id]?=some (.lp L fr st))(hρ:g.ρ[id]?=some l)(hr:w.heap[l]?=some (.map es m))
  (ho:Zbt (cx k g s.H w) (cx k g (s.H.set id (.lp L fr st')) (w.putObj l o'))->HoR (cx k g (s.H.set id (.lp L fr st')) (w.putObj l o')) l (.lp L fr st')) :
  Rel k n g ⟨s.fr,s.bx,s.H.set id (.lp L fr st')⟩ a (w.putObj l o'):=by
 have u:Off w (w.putObj l o') l:=.put _ (λvs e f h=>by rw [hr] at h;cases h)
 have hget:=getElem?_set' (y:=HO.lp L fr st') hH
 have hlt:l<w.heap.size:=(Array.getElem?_eq_some_iff.1 hr).1
 have hl:Zbt (cx k g s.H w) (cx k g (s.H.set id (.lp L fr st')) (w.putObj l o')):=
  {stay:=λa x ho hc=>by
    refine ⟨u.cell hc,ho.1,ho.2.1,λj hj=>?_⟩
    obtain ⟨sz,ver,rows,h1,h2⟩:=ho.2.2 j hj
    refine ⟨sz,ver,rows,?_,h2⟩
    rw [hget,Z8 (λe=>by subst e;rw [hH] at h1;cases h1)]
    exact h1
   arr:=λj sz ver frz rows e=>by
    have e':s.H[j]?=some (.arr sz ver frz rows):=e
    refine ⟨ver,frz,rows,?_,Nat.le_refl _,λ_=>⟨Nat.le_refl _,rfl,λb vs _ hb=>⟨vs,u.blk hb,rfl⟩⟩⟩
    show (s.H.set id _)[j]?=_
    rw [hget,Z8 (λe1=>by subst e1;rw [hH] at e';cases e')];exact e'
   cells:=λj cs e=>by
    have e':s.H[j]?=some (.cells cs):=e
    refine ⟨⟨cs,?_⟩,rfl⟩
    show (s.H.set id _)[j]?=_
    rw [hget,Z8 (λe1=>by subst e1;rw [hH] at e';cases e')];exact e'
   lp:=λj L' fr' st1 e=>by
    have e':s.H[j]?=some (.lp L' fr' st1):=e
    refine ⟨?_,rfl⟩
    by_cases hj:id=j
    ·subst hj
     rw [hH] at e'
     cases e'
     exact ⟨st',by show (s.H.set id _)[id]?=_;rw [hget,Z9 rfl]⟩
    exact ⟨st1,by show (s.H.set id _)[j]?=_;rw [hget,Z8 hj];exact e'⟩ }
 have hobj:∀ b,b≠l->∀ o,w.heap[b]?=some o->(w.putObj l o').heap[b]?=some o:=λb hb o ho=>(u.block b hb).trans ho
 exact
  {defers:=h.defers.mono λD _ hD=>hobj D (λe=>by subst e;rw [hr] at hD;cases hD) _ hD
   rnd:=λl' hl'=>by
    obtain ⟨r1,h1⟩:=h.rnd l' hl'
    exact ⟨r1,hobj l' (λe=>by subst e;rw [hr] at h1;cases h1) _ h1⟩
   tsz:=h.tsz
   slots:=λt=>ZbF hl (λ_ _ e=>e) (h.tops t) (h.slots t)
   tops:=h.tops
   boxes:=λt cs e=>let ⟨b,hb,hr'⟩:=h.boxes t cs e; ⟨b,hb,hr'.later hl (hobj b (λe=>by
    subst e;obtain ⟨_,vs,⟨et,hr'⟩,_⟩:=hr';rw [show w.heap[b]?=_ from hr'] at hr;cases hr))⟩
   boxed:=h.boxed
   heap:=λj o e=>by
    simp only [hget] at e
    by_cases hj:id=j
    ·subst hj
     simp only [Zaa,Z2] at e
     subst e
     exact ⟨l,hρ,ho hl⟩
    simp only [hj,Z7] at e
    obtain ⟨b,hb,hr'⟩:=h.heap j o e
    exact ⟨b,hb,hr'.later hl (hobj b (λe=>hj (h.inj id j l hρ (by rw [← e];exact hb))))⟩
   len:=by simp [h.len]
   inj:=h.inj
   binj:=h.binj
   apart:=h.apart
   own:=h.own
   keep:=h.keep.off u (h.own id l hρ)
   hist:=h.hist.trans hl }
theorem Zr4 {q:SpK}{s s':St}{d:Option Nat}{xs:List IX}{v:AV}{H':List HO}(hv:Za3 v=true)
  (h:∀ (k:K0) (n:Nat) (g:G) (t:St) (a:Act) (w:World) (o:Oper) (d:Option Nat) (ys:List IX),ys.map (ev t.fr)=xs.map (ev s.fr)->t.H=s.H->Rel k n g t a w->Zk7 P n o d q ys=true->Did P k n ⟨Eng.putO t.fr d v,t.bx,H'⟩ a w o)
  (hs:s'=⟨Eng.putO s.fr d v,s.bx,H'⟩):ZaM P (.sp d q xs) s s':=⟨v,H',⟨hv,h⟩,hs⟩
theorem ZmN (h:Rel k n g s a w){X:List Operand}{xs:List IX}{ys:List AV}(hm:Za5 X xs=true)(he:xs.map (ev s.fr)=ys):VRL (cx k g s.H w) ys (X.map a.eval):=by
 rw [← he];exact ZaX h hm
theorem ZsR {s s':St}{d:Option Nat}(kn:Nat)(hs:s'=⟨Eng.putO s.fr d (.map s.H.length),s.bx,s.H++[.lp mapL [] (.mp kn [])]⟩):ZaM P (.sp d .mkMap []) s s':=by
 refine Zr4 rfl ?_ hs
 intro k n g t a w o d ys _ hH h hc
 rw [← hH]
 simp only [Zk7,Ze,Z6] at hc
 obtain ⟨⟨hd,hdn⟩,hc⟩:=hc
 split at hc
 ·rename_i ty hop
  have ho:HoR (cx k ⟨g.ρ++[w.heap.size],g.β⟩ (t.H++[.lp mapL [] (.mp kn [])]) (w.alloc (.map #[] 0))) w.heap.size (.lp mapL [] (.mp kn [])):=
   .inr ⟨rfl,rfl,(by simp),#[],0,World.alloc_heap_new w _,stamped_empty 0,rfl,(by simp [VRL])⟩
  obtain ⟨h1,hl⟩:=h.newObjG (o:=.lp mapL [] (.mp kn [])) (.map #[] 0) ho
  refine ⟨.map (some w.heap.size),w.alloc (.map #[] 0),⟨g.ρ++[w.heap.size],g.β⟩,.inl ?_,?_⟩
  ·simp [execOp,hop,Instr.makeMap]
  rw [hd]
  refine h1.putO hdn ?_ rfl
  rw [VR]
  refine ⟨mapL,[],.mp kn [],w.heap.size,?_,rfl,?_,rfl⟩
  ·show (t.H++[_])[t.H.length]?=_;simp
  show (g.ρ++[_])[t.H.length]?=_;rw [← h.len];simp
 cases hc
def mres (ok:Bool)(es:Ent)(ks:List Int)(zero:AV):AV:=if ok then .tup [(Zjg es ks).getD zero,.p (.bool (Zjg es ks).isSome)] else (Zjg es ks).getD zero
theorem Rel.theMp (h:Rel k n g s a w){id:Nat}{L:LC}{fr:List (Nat×AV)}{kn:Nat}{es:Ent}(hH:s.H[id]?=some (.lp L fr (.mp kn es))){v:Value}(hv:VR (cx k g s.H w) (.map id) v)(hn:L.n=0) :
  L.mpk=true/\∃ b,g.ρ[id]?=some b/\v=.map (some b)/\MpR (cx k g s.H w) b (.mp kn es):=by
 rw [VR] at hv
 obtain ⟨L',fr',st',b,h1,h2,h3,h4⟩:=hv
 have h1':s.H[id]?=some (.lp L' fr' st'):=h1
 rw [hH] at h1'
 cases h1'
 obtain ⟨b',hb',hq⟩:=h.heap id _ hH
 have h3':g.ρ[id]?=some b:=h3
 rw [h3'] at hb'
 cases hb'
 rcases hq with ⟨q,_⟩|⟨_,q⟩
 ·rw [h2] at q;cases q
 exact ⟨h2,b,h3',by rw [h4,mapV,Z9 hn],q⟩
theorem Zpf {s s':St}{d:Option Nat}{xs:List IX}{id kn:Nat}{L:LC}{fr:List (Nat×AV)}{es:Ent}{ks:List Int}{ok:Bool}{zero r:AV}(hy:xs.map (ev s.fr)=[.map id,keyA kn ks])
  (hH:s.H[id]?=some (.lp L fr (.mp kn es))) (hk:ks.length=klen kn) (hr:r=mres ok es ks zero) (hno:Za3 r=true) (hs:s'=⟨Eng.putO s.fr d r,s.bx,s.H⟩) (hn:L.n=0:=by rfl):ZaM P (.sp d (.mapGet kn ok zero) xs) s s':=by
 refine Zr4 hno ?_ hs
 intro k n g t a w o d ys hys hHt h hc
 rw [hy] at hys
 rw [← hHt] at hH ⊢
 simp only [Zk7,Ze,Z6] at hc
 obtain ⟨⟨hd,hdn⟩,hc⟩:=hc
 split at hc
 ·rename_i ty X Y ok' hop
  simp only [Ze,Z6] at hc
  obtain ⟨⟨rfl,hty⟩,hm⟩:=hc
  split at hty
  ·rename_i kt et hu
   simp only [Ze] at hty
   obtain ⟨hkey,hz⟩:=hty
   obtain ⟨u1,u2,e,v1,v2⟩:=Zga (ZmN h hm hys)
   simp only [ZM,ZN,Zr,Z4] at e
   have e2:=Zsp v2
   obtain ⟨_,b,hb,e1,hok,hlen,ents,clock,q1,q2,q3,q4⟩:=h.theMp hH v1 hn
   have hz':∃ z,(zeroValue et).run P w=.ok z w/\VR (cx k g t.H w) zero z:=by
    split at hz
    ·rename_i i hi
     split at hz
     ·rename_i z hz0
      exact ⟨z,by simp [zeroValue,typeInfo,hi,hz0],(Zjc hz).1⟩
     cases hz
    cases hz
   obtain ⟨z,hz1,hz2⟩:=hz'
   have hgo:(getObj b).run P w=.ok (.map ents clock) w:=MapKept.run_getObj_map (w:=w) q1
   have hck:=Ziu (w:=w) hkey hk ents.isEmpty 9998
   have hfk:=Zjl (w:=w) hkey q3 hlen hk
   have hrun:∀ u:Value,u=(match fEnt es ents.toList ks 0 with
     | some (_,v)=>if ok then Value.tuple #[v,.bool true] else v
     | none=>if ok then Value.tuple #[z,.bool false] else z)->(execOp a.eval o).run P w=.ok (.value u) w:=by
    intro u hu'
    simp only [execOp,hop,e.1,e.2,e1,e2,Instr.lookup,Sem.run_bind,run_underlying hu,Result.andThen_ok,hgo,hck,hfk,Sem.run_pure]
    subst hu'
    cases hf:fEnt es ents.toList ks 0 with
    | none=>cases ok<;>simp [hz1]
    | some p=>cases ok<;>simp
   have hlen2:es.length=ents.toList.length:=by
    have:=congrArg List.length q3
    simpa using this.symm
   refine ⟨_,w,g,.inl (hrun _ rfl),?_⟩
   rw [hd]
   refine h.putO hdn ?_ (ZaR hno)
   subst hr
   cases hf:fEnt es ents.toList ks 0 with
   | none =>
    obtain ⟨m1,_,_⟩:=Zm8 (c:=cx k g t.H w) hlen2 hf
    unfold mres
    rw [m1]
    cases ok
    ·exact hz2
    simp only [Zaa]
    rw [VR]
    exact ⟨[z,.bool false],rfl,by rw [VRL];exact ⟨_,_,rfl,hz2,by rw [VRL];exact ⟨_,_,rfl,ZeA _,by rw [VRL]⟩⟩⟩
   | some p =>
    obtain ⟨j,u⟩:=p
    obtain ⟨x,q,e',m1,m2,_⟩:=Zm7 q4 hf
    unfold mres
    rw [m1]
    cases ok
    ·exact m2
    simp only [Zaa]
    rw [VR]
    exact ⟨[u,.bool true],rfl,by rw [VRL];exact ⟨_,_,rfl,m2,by rw [VRL];exact ⟨_,_,rfl,ZeA _,by rw [VRL]⟩⟩⟩
  cases hty
 cases hc
theorem ZsE {c:Cx}:∀ {xs:List AV} {us:List Value} (q:Nat) {x:AV} {u:Value},VRL c xs us->VR c x u->VRL c (xs.set q x) (us.set q u)
 | [],us,q,x,u,h,_=>by rw [VRL] at h;subst h;simp [VRL]
 | y::ys,us,q,x,u,h,hx=>by
  rw [VRL] at h
  obtain ⟨v,vs,rfl,h1,h2⟩:=h
  cases q with
  | zero=>rw [List.set_cons_zero,List.set_cons_zero,VRL];exact ⟨_,_,rfl,hx,h2⟩
  | succ q=>rw [List.set_cons_succ,List.set_cons_succ,VRL];exact ⟨_,_,rfl,h1,ZsE q h2 hx⟩
theorem ZoO {α:Type}(f:α->α)(y:α)(es:Array α)(q:Nat)(hq:∀ e,es[q]?=some e->f e=y):(es.modify q f).toList=es.toList.set q y:=by
 apply List.ext_getElem?
 intro j
 rw [ZF,Array.getElem?_toList,Array.getElem?_modify,Array.getElem?_toList]
 by_cases e:q=j
 ·subst e
  simp only [Zaa]
  by_cases hlt:q<es.size
  ·have:=hq es[q] (Zb hlt)
   simp [hlt,this]
  simp [hlt]
 simp [e]
theorem Zpe {s s':St}{xs:List IX}{id kn:Nat}{L:LC}{fr:List (Nat×AV)}{es:Ent}{ks:List Int}{v:AV}(hy:xs.map (ev s.fr)=[.map id,keyA kn ks,v])
  (hH:s.H[id]?=some (.lp L fr (.mp kn es))) (hk:ks.length=klen kn) (hok:Zeb v=true) (hs:s'=⟨s.fr,s.bx,s.H.set id (.lp L fr (.mp kn (mset es ks v)))⟩) (hn:L.n=0:=by rfl):ZaM P (.sp none (.mapSet kn) xs) s s':=by
 refine Zr4 (v:=.any) (d:=none) rfl ?_ hs
 intro k n g t a w o d ys hys hHt h hc
 rw [hy] at hys
 rw [← hHt] at hH ⊢
 simp only [Zk7,Ze,Z6] at hc
 obtain ⟨⟨hd,hdn⟩,hc⟩:=hc
 have main:∀ (ty:TypeId) (X Y Z:Operand),((execOp a.eval o)=(do Instr.mapUpdate ty (a.eval X) (a.eval Y) (a.eval Z);pure .skip)) →
   ((match P.underlying ty with|some (.map kt _)=>Zqp P kt kn|_=>false)&&Za5 [X,Y,Z] ys)=true->Did P k n ⟨Eng.putO t.fr d .any,t.bx,t.H.set id (.lp L fr (.mp kn (mset es ks v)))⟩ a w o:=by
  intro ty X Y Z hop hc
  simp only [Ze] at hc
  obtain ⟨hty,hm⟩:=hc
  split at hty
  ·rename_i kt et hu
   obtain ⟨u1,u2,u3,e,v1,v2,v3⟩:=Zkt (ZmN h hm hys)
   simp only [ZM,ZN,Zr,Z4] at e
   have e2:=Zsp v2
   obtain ⟨hmk,b,hb,e1,hokc,hlen,ents,clock,q1,q2,q3,q4⟩:=h.theMp hH v1 hn
   have q1':w.heap[b]?=some (.map ents clock):=q1
   have hgo:(getObj b).run P w=.ok (.map ents clock) w:=MapKept.run_getObj_map (w:=w) q1
   have hck:=Ziu (w:=w) hty hk false 9998
   have hfk:=Zjl (w:=w) hty q3 hlen hk
   have hlen2:es.length=ents.toList.length:=by
    have:=congrArg List.length q3
    simpa using this.symm
   have hlt:b<w.heap.size:=(Array.getElem?_eq_some_iff.1 q1').1
   have fin:∀ (ents':Array MapEntry) (clock':Nat),(execOp a.eval o).run P w=.ok .skip (w.putObj b (.map ents' clock'))->Stamped ents' clock'->ents'.toList.map (·.key)=(mset es ks v).map (λp=>keyV kn p.1) →
     VRL (cx k g t.H w) ((mset es ks v).map (·.2)) (ents'.toList.map (·.val))->Did P k n ⟨Eng.putO t.fr d .any,t.bx,t.H.set id (.lp L fr (.mp kn (mset es ks v)))⟩ a w o:=by
    intro ents' clock' hrun hst hkeys hvals
    have hokm:=ZtY (ks:=ks) hokc hok
    have h1:=h.setMp (o':=.map ents' clock') (st':=.mp kn (mset es ks v)) hH hb q1' (λhl=>.inr ⟨hmk,hokm,Zs7 hlen hk,ents',clock',World.putObj_heap_same hlt,hst,hkeys,VRL.later hl _ _ (ZaN hokm) hvals⟩)
    refine ⟨undef,_,g,.inr ⟨hrun,rfl⟩,?_⟩
    rw [hd]
    exact h1.putO hdn (by simp [VR]) rfl
   cases hf:fEnt es ents.toList ks 0 with
   | none =>
    obtain ⟨_,m2,m3⟩:=Zm8 (c:=cx k g t.H w) hlen2 hf
    refine fin (ents.push { key:=keyV kn ks,val:=u3,born:=clock }) (clock+1) ?_ (stamped_push q2 λx hx e3=>?_) ?_ ?_
    ·rw [hop]
     simp only [e.1,e.2.1,e.2.2,e1,e2,Instr.mapUpdate,Sem.run_bind,run_underlying hu,Result.andThen_ok,hgo,hck,hfk,hf,run_setObj_map _ q1',Sem.run_pure]
     rfl
    ·obtain ⟨i,hi,e4⟩:=List.getElem_of_mem hx
     have e5:(ents.toList.map (·.key))[i]?=some (keyV kn ks):=by rw [ZE,ZC hi,Z1,e4,e3]
     rw [q3,ZE] at e5
     cases e6:es[i]? with
     | none=>rw [e6] at e5;cases e5
     | some p =>
      rw [e6,Z1,Z2] at e5
      have hp:=List.mem_of_getElem? e6
      exact m2 p hp (Zte (hlen p hp) hk e5)
    ·rw [m3];simp [q3]
    rw [m3]
    simp only [ZL,ZM,ZN,Array.toList_push]
    exact ZhG q4 (by rw [VRL];exact ⟨_,_,rfl,v3,by rw [VRL]⟩)
   | some p =>
    obtain ⟨j,u⟩:=p
    obtain ⟨x,q,e',m1,m2,m3,m4,m5,m6⟩:=Zm7 q4 hf
    have hj:j=q:=by omega
    subst hj
    have m5':ents[j]?=some e':=by rw [← Array.getElem?_toList];exact m5
    have hkey:e'.key=keyV kn ks:=by
     have e5:(ents.toList.map (·.key))[j]?=some e'.key:=by rw [ZE,m5,Z1]
     rw [q3,ZE,m4,Z1,Z2] at e5
     exact e5.symm
    have hmod:(ents.modify j λe=>{ e with key:=keyV kn ks,val:=u3 }).toList=ents.toList.set j { e' with key:=keyV kn ks,val:=u3 } :=
     ZoO _ _ _ _ (λe0 he0=>by rw [m5'] at he0;cases he0;rfl)
    refine fin (ents.modify j λe=>{ e with key:=keyV kn ks,val:=u3 }) clock ?_ (stamped_modify q2 _ _ (λ_ _=>rfl) (λe0 _ he0=>by rw [m5'] at he0;cases he0;exact hkey.symm)) ?_ ?_
    ·rw [hop]
     simp only [e.1,e.2.1,e.2.2,e1,e2,Instr.mapUpdate,Sem.run_bind,run_underlying hu,Result.andThen_ok,hgo,hck,hfk,hf,m5',Z1,Z0,hkey,Zpk,run_setObj_map _ q1',Sem.run_pure]
     rfl
    ·rw [hmod,m6,List.map_set,List.map_set,q3]
    rw [hmod,m6,List.map_set,List.map_set]
    exact ZsE j q4 v3
  cases hty
 split at hc
 ·rename_i ty X Y Z hop
  exact main ty X Y Z (by simp [execOp,hop]) hc
 ·rename_i ty X Y Z hop
  exact main ty X Y Z (by simp [execOp,hop]) hc
 cases hc
end
end Go.Eng

namespace Go.Eng
open Go Go.MapKept
theorem ZpW:∀ (us:List Value) (st:Nat) (cells:Array Value),(∀ u∈us,u.oneCell'=true)->st+us.length=cells.size →
  ∃ arr,Instr.fill (λi=>some (i*1,1)) cells ((List.range' st us.length).zip us)=some arr/\arr.toList=cells.toList.take st++us
 | [],st,cells,_,hs=>⟨cells,rfl,by simp only [List.length_nil,Nat.add_zero] at hs;rw [hs,← Zd,ZU,List.append_nil]⟩
 | u::us,st,cells,h1,hs=>by
  have hu:u.cells = #[u]:=by have:=h1 u (by simp);cases u<;>simp_all [Value.cells,Value.oneCell']
  simp only [ZJ] at hs
  have hlt:st<cells.size:=by omega
  obtain ⟨arr,a1,a2⟩:=ZpW us (st+1) (cells.setIfInBounds st u) (λv hv=>h1 v (by simp [hv])) (by simp;omega)
  refine ⟨arr,?_,?_⟩
  ·simp only [ZJ,ZR,List.zip_cons_cons,Instr.fill,hu,Nat.mul_one]
   rw [Z8 (by simp;omega)]
   simpa using a1
  rw [a2,Array.toList_setIfInBounds,List.take_set,ZW (by simpa using hlt)]
  rw [ZT _ _ (by simp;omega)]
  simp [Nat.min_eq_left (Nat.le_of_lt hlt)]
section
variable {P:Program} {k:K0} {n:Nat} {g:G} {s:St} {a:Act} {w:World}
theorem ZsZ (h:Rel k n g s a w){t:TypeId}{len:Nat}{parts:Array (Nat×Operand)}{xs:List IX}(hl:Zqo P t 1 len parts.toList=true)(hm:Za5 (parts.toList.map (·.2)) xs=true)
  (hok:ZaV (xs.map (ev s.fr))=true) :
  ∃ vs e,(Instr.buildSlice t len (parts.map λ(i,x)=>(i,a.eval x))).run P w=.ok (.slice (some ⟨w.heap.size,0,none⟩) xs.length xs.length) (w.alloc (.cells vs e))/\VRL (cx k g s.H w) (xs.map (ev s.fr)) vs.toList:=by
 simp only [Zqo,Ze,Z6] at hl
 obtain ⟨⟨hty,hix⟩,hsmall⟩:=hl
 have hv:=ZaX h hm
 have hplen:parts.toList.length=len:=by
  have:=congrArg List.length hix
  simpa using this
 have hxl:xs.length=len:=by
  have:=hv.length
  simp only [ZK] at this
  omega
 split at hty
 ·rename_i e ht
  simp only [Ze] at hty
  obtain ⟨hsz,hty⟩:=hty
  split at hty
  ·rename_i i hi
   split at hty
   ·rename_i z hz
    simp only [Z6] at hty
    have hzv:(zeroValue e).run P w=.ok z w:=by simp [zeroValue,typeInfo,hi,hz]
    generalize hus:(parts.toList.map (·.2)).map a.eval=us at hv
    have hul:us.length=len:=by rw [← hus];simpa using hplen
    generalize hcells:(Array.range (len*1)).map ((if len*1=0 then #[] else z.cells)[· % (if len*1=0 then #[] else z.cells).size]!)=cells
    have hcsz:cells.size=len:=by rw [← hcells];simp
    obtain ⟨arr,a1,a2⟩:=ZpW us 0 cells (ZiJ hok hv) (by omega)
    simp only [List.take_zero,ZQ] at a2
    refine ⟨arr,e,?_,by rw [a2];exact hv⟩
    have elist:(parts.map λ(p:Nat×Operand)=>(p.1,a.eval p.2)).toList=(List.range' 0 us.length).zip us:=by
     have e1:List.range' 0 us.length=parts.toList.map (·.1):=by rw [hix,hul,ZS]
     rw [e1,← hus,Array.toList_map,List.map_map,List.zip_map']
     rfl
    have hsz':=ZdD (P:=P) (w:=w) hsz
    have hn:¬ (16777216<len*1):=by omega
    unfold Instr.buildSlice
    by_cases h0:len*1=0
    ·simp only [h0,Zaa] at hcells
     simp only [Sem.run_bind,run_underlying ht,Result.andThen_ok,hsz',h0,Zaa,Sem.run_pure,Nat.not_lt_zero,gt_iff_lt,Z7]
     rw [elist,hcells,a1]
     simp [newRow,hxl]
    simp only [h0,Z7] at hcells
    simp only [Sem.run_bind,run_underlying ht,Result.andThen_ok,hsz',h0,Z7,Sem.run_pure,gt_iff_lt,hzv,show (2 ^ 24:Nat)=16777216 from rfl,hn]
    rw [elist,hcells,a1]
    simp [newRow,hxl]
   cases hty
  cases hty
 cases hty
theorem ZsU {s s':St}{d:Option Nat}{xs:List IX}{ys:List AV}(hy:xs.map (ev s.fr)=ys)(hok:ZaV ys=true)(hs:s'=⟨Eng.putO s.fr d (.csl s.H.length ys.length),s.bx,s.H++[.cells ys]⟩):ZaM P (.sp d .litC xs) s s':=by
 refine Zr4 rfl ?_ hs
 intro k n g t a w o d xs' hys hH h hc
 rw [hy] at hys
 rw [← hH]
 simp only [Zk7,Ze,Z6] at hc
 obtain ⟨⟨hd,hdn⟩,hc⟩:=hc
 split at hc
 ·rename_i ty len parts hop
  simp only [Ze] at hc
  obtain ⟨vs,e,hrun,hv⟩:=ZsZ h hc.1 hc.2 (by rw [hys];exact hok)
  rw [hys] at hv
  have hxl:xs'.length=ys.length:=by rw [← hys];simp
  rw [hxl] at hrun
  have hl:=h.laterNewG (o:=.cells ys) (.cells vs e)
  have ho:HoR (cx k ⟨g.ρ++[w.heap.size],g.β⟩ (t.H++[.cells ys]) (w.alloc (.cells vs e))) w.heap.size (.cells ys):=
   ⟨hok,vs,⟨e,World.alloc_heap_new w _⟩,VRL.later hl _ _ (ZaN hok) hv⟩
  obtain ⟨h1,_⟩:=h.newObjG (o:=.cells ys) (.cells vs e) ho
  refine ⟨.slice (some ⟨w.heap.size,0,none⟩) ys.length ys.length,w.alloc (.cells vs e),⟨g.ρ++[w.heap.size],g.β⟩,.inl ?_,?_⟩
  ·simp only [execOp,hop,Sem.run_bind];rw [hrun];rfl
  rw [hd]
  refine h1.putO hdn ?_ rfl
  rw [VR]
  refine ⟨ys,w.heap.size,?_,?_,rfl⟩
  ·show (t.H++[_])[t.H.length]?=_;simp
  show (g.ρ++[_])[t.H.length]?=_;rw [← h.len];simp
 cases hc
theorem ZtN {d:Nat}{xs:List IX}{ys:List AV}{id:Nat}{H H':List HO}(hs:s.H=H)(hy:xs.map (ev s.fr)=ys)(hok:ZaV ys=true)(hid:id=H.length)(hH:H'=H++[.cells ys]) :
  ZaM P (.sp (some d) .litC xs) s ⟨put s.fr d (.csl id ys.length),s.bx,H'⟩:=by
 subst hs hid hH
 exact ZsU hy hok rfl
def ZpK {κ υ:Type}[DecidableEq κ](l:List (κ×υ))(x:κ):Option υ:=(l.find? (λp=>decide (p.1=x))).map (·.2)
def Zhk {κ υ:Type}[DecidableEq κ](l:List (κ×υ))(x:κ)(z:υ):υ:=(ZpK l x).getD z
def Zed {κ υ:Type}[DecidableEq κ](l:List (κ×υ))(x:κ)(v:υ):List (κ×υ):=match l with
 | []=>[(x,v)]
 | p::r=>if p.1=x then (x,v)::r else p::Zed r x v
def encE {κ υ:Type}(ke:κ->List Int)(ve:υ->AV)(l:List (κ×υ)):Ent:=l.map λp=>(ke p.1,ve p.2)
class KeyE (κ:Type) (kn:Nat) (ke:κ->List Int):Prop where
 len:∀ x,(ke x).length=klen kn
 inj:∀ x y,ke x=ke y->x=y
def ke1 (x:Int):List Int:=[x]
instance:KeyE Int 0 ke1:=⟨λ_=>rfl,λx y h=>by simpa [ke1] using h⟩
theorem Zsl {κ υ:Type}[DecidableEq κ]{kn:Nat}{ke:κ->List Int}(hk:KeyE κ kn ke)(ve:υ->AV)(l:List (κ×υ))(x:κ):Zjg (encE ke ve l) (ke x)=(ZpK l x).map ve:=by
 induction l with
 | nil=>rfl
 | cons p r ih =>
  by_cases e:p.1=x
  ·simp [Zjg,ZpK,encE,e]
  have e2:¬ ke p.1=ke x:=λh=>e (hk.inj _ _ h)
  simp only [Zjg,ZpK,encE,ZM,Zu,e,e2,decide_false] at ih ⊢
  exact ih
theorem Zs8 {κ υ:Type}[DecidableEq κ]{kn:Nat}{ke:κ->List Int}(hk:KeyE κ kn ke)(ve:υ->AV)(l:List (κ×υ))(x:κ)(v:υ):mset (encE ke ve l) (ke x) (ve v)=encE ke ve (Zed l x v):=by
 induction l with
 | nil=>rfl
 | cons p r ih =>
  by_cases e:p.1=x
  ·simp [mset,Zed,encE,e]
  have e2:¬ ke p.1=ke x:=λh=>e (hk.inj _ _ h)
  simp only [encE] at ih
  simp only [mset,Zed,encE,ZM,e,e2,Z7,ih]
abbrev mpT (id kn:Nat) (es:Ent):Za9:=.lp id mapL [] (.mp kn es)
theorem st_mkMap' {d:Nat}(kn:Nat){id:Nat}{H H':List HO}(hs:s.H=H)(hid:id=H.length)(hH:H'=H++[.lp mapL [] (.mp kn [])]) :
  ZaM P (.sp (some d) .mkMap []) s ⟨put s.fr d (.map id),s.bx,H'⟩:=by
 subst hs hid hH
 exact ZsR kn rfl
theorem ZtM {κ υ:Type}[DecidableEq κ]{d:Nat}{xs:List IX}{id kn:Nat}{ke:κ->List Int}[hk:KeyE κ kn ke]{ve:υ->AV}{l:List (κ×υ)}{x:κ}{z:υ}{zero:AV}{H:List HO}{r:AV}(hs:s.H=H)(hy:xs.map (ev s.fr)=[.map id,keyA kn (ke x)])
  (hl:Lies H (mpT id kn (encE ke ve l))) (hz:zero=ve z) (hr:r=ve (Zhk l x z)) (hno:∀ v,Za3 (ve v)=true) :
  ZaM P (.sp (some d) (.mapGet kn false zero) xs) s ⟨put s.fr d r,s.bx,s.H⟩:=by
 subst hs
 refine Zpf hy hl (hk.len x) (by rw [mres,Zsl hk];simp only [Zg,Z7];rw [hr,hz,Zhk];cases ZpK l x<;>rfl) (by rw [hr];exact hno _) rfl
theorem ZtL {κ υ:Type}[DecidableEq κ]{xs:List IX}{id kn:Nat}{ke:κ->List Int}[hk:KeyE κ kn ke]{ve:υ->AV}{l:List (κ×υ)}{x:κ}{v:υ}{y:AV}{H H':List HO}(hs:s.H=H)(hy:xs.map (ev s.fr)=[.map id,keyA kn (ke x),y])
  (hl:Lies H (mpT id kn (encE ke ve l))) (hv:y=ve v) (hok:Zeb y=true) (hH:H'=H.set id (.lp mapL [] (.mp kn (encE ke ve (Zed l x v))))) :
  ZaM P (.sp none (.mapSet kn) xs) s ⟨s.fr,s.bx,H'⟩:=by
 subst hs hH
 refine Zpe hy hl (hk.len x) hok (by rw [hv,Zs8 hk])
end
section
variable {H H0:List HO} {f0 items:List Za9}
theorem HP.newMp (hH:HP H items)(kn:Nat):∃ id H',id=H.length/\H'=H++[.lp mapL [] (.mp kn [])]/\HP H' (mpT id kn []::items):=
 ⟨_,_,rfl,rfl,(hH.push _).cons (by simp [Lies]) (λid e j hj ho=>by
  cases e
  have:=(hH.lies j hj).lt _ ho
  omega)⟩
theorem Fp.newMp (hF:Fp H0 H f0 items)(kn:Nat):∃ id H',id=H.length/\H'=H++[.lp mapL [] (.mp kn [])]/\Fp H0 H' f0 (mpT id kn []::items):=
 ⟨_,_,rfl,rfl,hF.new (by simp [Lies]) (λid e=>by cases e;rfl)⟩
theorem Zro {s s0:St}(t:Nat){ts:List Nat}{a x:AV}{H1:List HO}(ht:t<1000000)(hs:s.H=H)(hb:get s.fr t=a)(hf:frzV H a=some (x,H1))
  (h:ZoD ts ⟨put s.fr t x,s.bx,H1⟩=some s0):ZoD (t::ts) s=some s0:=by
 subst hs hb
 simp only [ZoD,Z9 ht,hf,ZZ,h]
theorem HP.setMp (hH:HP H items){k id kn:Nat}{es:Ent}(hk:items[k]?=some (mpT id kn es))(es':Ent) :
  ∃ H',H'=H.set id (.lp mapL [] (.mp kn es'))/\HP H' (items.set k (mpT id kn es')):=by
 have hid:H[id]?=some (.lp mapL [] (.mp kn es)):=hH.get k hk
 have hlt:=(List.getElem?_eq_some_iff.1 hid).1
 refine ⟨_,rfl,hH.replace hk (by simp [Lies,hlt]) (λid' e=>.inl e) (λid' hl ho=>?_)⟩
 rw [ZG]
 intro e;subst e;exact ho rfl
theorem Fp.setMp (hF:Fp H0 H f0 items){k id kn:Nat}{es:Ent}(hk:items[k]?=some (mpT id kn es))(es':Ent) :
  ∃ H',H'=H.set id (.lp mapL [] (.mp kn es'))/\Fp H0 H' f0 (items.set k (mpT id kn es')):=by
 have hid:H[id]?=some (.lp mapL [] (.mp kn es)):=hF.get k hk
 have hlt:=(List.getElem?_eq_some_iff.1 hid).1
 refine ⟨_,rfl,hF.step hk (by simp [Lies,hlt]) (λid' e=>.inl e) (λid' hl ho=>?_) (by simp)⟩
 rw [ZG]
 intro e;subst e;exact ho rfl
end
theorem Zti {a:AV}{sz m:Nat}{H:List HO}{r:AV×List HO}(h:OwnF sz m a)(hv:frzV H a=some r):frz1 H a=some r:=by
 cases h<;>exact hv
theorem Zy4 {P:Program}{n:Nat}{s:St}{fs:List Nat}{a:IC}{Q:Exit->St->Prop}(h:vc P n a (puQ fs Q) s):vc P n (.pu fs a) Q s:=h
def ZoL {α:Type}(sz:Nat)(enc:α->List PC)(l:List α):AV:=match l with
 | []=>.nl .nilSl
 | _::_=>.p (.sl sz false (l.map enc))
theorem Zrr {α:Type}{sz:Nat}{enc:α->List PC}{l:List α}:Zh2 (ZoL sz enc l)=true:=by cases l<;>rfl
theorem ZpH {α:Type}{sz:Nat}{enc:α->List PC}{l:List α}(h:l.isEmpty=true):ZoL sz enc l=.nl .nilSl:=by cases l<;>simp_all [ZoL]
theorem ZoK {α:Type}{sz:Nat}{enc:α->List PC}{l:List α}(h:l.isEmpty=false):ZoL sz enc l=.p (.sl sz false (l.map enc)):=by cases l<;>simp_all [ZoL]
theorem Zl8 {α:Type}{sz:Nat}{enc:α->List PC}{l:List α}{b neg:Bool}(h:l.isEmpty=false):Za8 (.isNil neg) [.p (.sl sz b (l.map enc))]=some (.p (.bool neg)):=by cases l<;>simp_all [Za8]
def neL {α:Type}(l:List α):Option Unit:=if l.isEmpty then none else some ()
theorem Zs6 {α:Type}{l:List α}{u:Unit}(h:neL l=some u):l.isEmpty=false:=by cases l<;>simp_all [neL]
end Go.Eng

namespace Go.Eng
open Go
def opAt (ops:List IOp)(m:Nat):Ins:=match ops[m]? with
 | some o=>o.i
 | none=>.newH 0 []
def okAt (ops:List IOp)(m:Nat)(s:St):Bool:=match ops[m]? with
 | some o=>bnOK o s.fr&&(match o.g with
  | none=>true
  | some (t,b)=>match get s.fr t with
   | .p (.bool b')=>b==b'
   | _=>false)
 | none=>false
def preB (ops:List IOp)(m:Nat)(s:St):Bool:=(opsF Zkk (ops.take m) s).isSome&&okAt ops m (opsD (ops.take m) s)
section
variable {P:Program} {n:Nat} {s s1 s2:St} {ops:List IOp} {keep:List Nat} {Q:Exit->St->Prop} {K:St->Prop}
theorem Zab.o0 (m:Nat)(hs:ZaM P (opAt ops m) (opsD (ops.take m) s) s1)(rest:Zab P (ops.drop (m+1)) s1 s2)(hm:preB ops m s=true:=by kernel_rfl):Zab P ops s s2:=by
 simp only [preB,Ze] at hm
 obtain ⟨h1,h2⟩:=hm
 refine Zab.chunk m h1 ?_
 unfold okAt at h2
 unfold opAt at hs
 cases ho:ops[m]? with
 | none=>rw [ho] at h2;cases h2
 | some o =>
  rw [ho] at h2 hs
  simp only [Ze] at h2 hs
  have hd:ops.drop m=o::ops.drop (m+1):=by
   obtain ⟨hlt,e⟩:=List.getElem?_eq_some_iff.1 ho
   rw [List.drop_eq_getElem_cons hlt,e]
  rw [hd]
  refine ⟨s1,?_,rest⟩
  have hbn:bnOK o (opsD (ops.take m) s).fr=true:=h2.1
  unfold AOp
  cases hg:o.g with
  | none=>exact ⟨hbn,hs⟩
  | some p =>
   obtain ⟨t,b⟩:=p
   rw [hg] at h2
   simp only at h2 ⊢
   have hx:∃ b',get (opsD (ops.take m) s).fr t=.p (.bool b')/\(b==b')=true:=by
    have h3:=h2.2
    split at h3
    ·rename_i b' hv;exact ⟨b',hv,h3⟩
    cases h3
   obtain ⟨b',hv,h3⟩:=hx
   rw [hv]
   have:=eq_of_beq h3
   subst this
   simp only [Zaa]
   exact ⟨hbn,hs⟩
def AK (P:Program)(ops:List IOp)(k:Nat)(s s1:St):Prop:=Zab P (ops.drop k) s s1
def segO (ops:List IOp)(k m:Nat):List IOp:=(ops.drop k).take m
def preK (ops:List IOp)(k m:Nat)(s:St):Bool:=preB (ops.drop k) m s
theorem Zab.o {k:Nat}(m:Nat)(hs:ZaM P (opAt ops (k+m)) (opsD (segO ops k m) s) s1)(rest:AK P ops (k+m+1) s1 s2)(hm:preK ops k m s=true:=by kernel_rfl):AK P ops k s s2:=by
 refine Zab.o0 (s1:=s1) m ?_ ?_ hm
 ·have:opAt (ops.drop k) m=opAt ops (k+m):=by unfold opAt;rw [ZB]
  rw [this];exact hs
 rw [List.drop_drop,← Nat.add_assoc];exact rest
def upd (s:St)(d:Nat)(r:AV):St:=⟨put s.fr d r,s.bx,s.H⟩
def updH (s:St)(d:Nat)(r:AV)(H:List HO):St:=⟨put s.fr d r,s.bx,H⟩
def updO (s:St)(d:Option Nat)(r:AV)(H:List HO):St:=⟨putO s.fr d r,s.bx,H⟩
theorem Zab.u {k d:Nat}{r:AV}(m:Nat)(hs:ZaM P (opAt ops (k+m)) (opsD (segO ops k m) s) ⟨put (opsD (segO ops k m) s).fr d r,(opsD (segO ops k m) s).bx,(opsD (segO ops k m) s).H⟩)(rest:AK P ops (k+m+1) (upd (opsD (segO ops k m) s) d r) s2)(hm:preK ops k m s=true:=by kernel_rfl):AK P ops k s s2:=Zab.o m hs rest hm
theorem Zab.h {k d:Nat}{r:AV}{H:List HO}(m:Nat)(hs:ZaM P (opAt ops (k+m)) (opsD (segO ops k m) s) ⟨put (opsD (segO ops k m) s).fr d r,(opsD (segO ops k m) s).bx,H⟩)(rest:AK P ops (k+m+1) (updH (opsD (segO ops k m) s) d r H) s2)(hm:preK ops k m s=true:=by kernel_rfl):AK P ops k s s2:=Zab.o m hs rest hm
theorem Zab.v {k:Nat}{d:Option Nat}{r:AV}{H:List HO}(m:Nat)(hs:ZaM P (opAt ops (k+m)) (opsD (segO ops k m) s) ⟨putO (opsD (segO ops k m) s).fr d r,(opsD (segO ops k m) s).bx,H⟩)(rest:AK P ops (k+m+1) (updO (opsD (segO ops k m) s) d r H) s2)(hm:preK ops k m s=true:=by kernel_rfl):AK P ops k s s2:=Zab.o m hs rest hm
theorem Zab.f {k:Nat}(h:(opsF Zkk (ops.drop k) s).isSome=true:=by kernel_rfl):AK P ops k s (opsD (ops.drop k) s):=ZmO h
def EP (P:Program)(ops:List IOp)(k:Nat)(s:St)(K:St->Prop):Prop:=∃ s1,AK P ops k s s1/\K s1
theorem EP.o {k:Nat}(m:Nat)(hs:ZaM P (opAt ops (k+m)) (opsD (segO ops k m) s) s1)(rest:EP P ops (k+m+1) s1 K)(hm:preK ops k m s=true:=by kernel_rfl):EP P ops k s K :=
 let ⟨s2,h1,h2⟩:=rest; ⟨s2,.o m hs h1 hm,h2⟩
theorem EP.u {k d:Nat}{r:AV}(m:Nat)(hs:ZaM P (opAt ops (k+m)) (opsD (segO ops k m) s) ⟨put (opsD (segO ops k m) s).fr d r,(opsD (segO ops k m) s).bx,(opsD (segO ops k m) s).H⟩)(rest:EP P ops (k+m+1) (upd (opsD (segO ops k m) s) d r) K)(hm:preK ops k m s=true:=by kernel_rfl):EP P ops k s K:=EP.o m hs rest hm
theorem EP.h {k d:Nat}{r:AV}{H:List HO}(m:Nat)(hs:ZaM P (opAt ops (k+m)) (opsD (segO ops k m) s) ⟨put (opsD (segO ops k m) s).fr d r,(opsD (segO ops k m) s).bx,H⟩)(rest:EP P ops (k+m+1) (updH (opsD (segO ops k m) s) d r H) K)(hm:preK ops k m s=true:=by kernel_rfl):EP P ops k s K:=EP.o m hs rest hm
theorem EP.v {k:Nat}{d:Option Nat}{r:AV}{H:List HO}(m:Nat)(hs:ZaM P (opAt ops (k+m)) (opsD (segO ops k m) s) ⟨putO (opsD (segO ops k m) s).fr d r,(opsD (segO ops k m) s).bx,H⟩)(rest:EP P ops (k+m+1) (updO (opsD (segO ops k m) s) d r H) K)(hm:preK ops k m s=true:=by kernel_rfl):EP P ops k s K:=EP.o m hs rest hm
theorem EP.f {k:Nat}(hk:K (opsD (ops.drop k) s))(h:(opsF Zkk (ops.drop k) s).isSome=true:=by kernel_rfl):EP P ops k s K:=⟨_,Zab.f h,hk⟩
theorem ZaK {d:Nat}{x:IX}{m:Nat}{isA:Bool}(h:ZaM P (.load d x m isA) s s1)(hl:ZpS (ev s.fr x)=false:=by kernel_rfl):ZaM P (.loadH d x m isA) s s1:=by
 simp only [ZaM,Za6] at h ⊢
 rw [Z8 (by rw [hl];decide)]
 have:rd s.bx s.H m (ev s.fr x)=rd [] s.H m (ev s.fr x):=by
  cases he:ev s.fr x with
  | loc t o=>rw [he] at hl;simp [ZpS] at hl
  | _=>rfl
 rw [← this];exact h
theorem rg (h:AK P ops 0 s s1)(hq:Q .normal (ZfZ keep s1)):vc P n (.reg ops keep) Q s:=⟨s1,h,hq⟩
theorem rq (h:AK P ops 0 s s1)(hq:Q .normal (ZfZ keep s1))(hs:Zmm s.fr ops=true:=by kernel_rfl):vc P n (.regD ops keep) Q s:=⟨hs,s1,h,hq⟩
theorem rgS (S:St)(h:AK P ops 0 s s1)(hk:ZfZ keep s1=S)(hq:Q .normal S):vc P n (.reg ops keep) Q s:=⟨s1,h,hk ▸ hq⟩
theorem rqS (S:St)(h:AK P ops 0 s s1)(hk:ZfZ keep s1=S)(hq:Q .normal S)(hs:Zmm s.fr ops=true:=by kernel_rfl):vc P n (.regD ops keep) Q s:=⟨hs,s1,h,hk ▸ hq⟩
theorem rfS {fs:List Nat}{s0:St}(S:St)(h0:frzS fs s=some s0)(h:AK P ops 0 s0 s1)(hk:ZfZ keep s1=S)(hq:Q .normal S)(hs:Zmm s0.fr ops=true:=by kernel_rfl):vc P n (.regF fs ops keep) Q s:=⟨s0,h0,hs,s1,h,hk ▸ hq⟩
theorem rgX (S:St)(h:EP P ops 0 s (λs1=>ZfZ keep s1=S))(hq:Q .normal S):vc P n (.reg ops keep) Q s:=let ⟨s1,h1,h2⟩:=h; ⟨s1,h1,h2 ▸ hq⟩
theorem rgR (R:St->Prop)(h:EP P ops 0 s (λs1=>R (ZfZ keep s1)))(hq:∀ S,R S->Q .normal S):vc P n (.reg ops keep) Q s:=let ⟨s1,h1,h2⟩:=h; ⟨s1,h1,hq _ h2⟩
theorem rqR (R:St->Prop)(h:EP P ops 0 s (λs1=>R (ZfZ keep s1)))(hq:∀ S,R S->Q .normal S)(hs:Zmm s.fr ops=true:=by kernel_rfl):vc P n (.regD ops keep) Q s:=let ⟨s1,h1,h2⟩:=h; ⟨hs,s1,h1,hq _ h2⟩
theorem sq {a b:IC}(h:vc P n a (ZjG (vc P n b Q) Q) s):vc P n (.seq a b) Q s:=h
theorem bk {id:Nat}{a:IC}(h:vc P n a (ZeO id Q) s):vc P n (.block id a) Q s:=h
theorem kq {ks:List Nat}{a:IC}(h:vc P n a Q (ZfZ ks s)):vc P n (.kp ks a) Q s:=h
theorem sk (h:Q .normal s):vc P n .skip Q s:=h
theorem rt (h:Q .ret s):vc P n .ret Q s:=h
theorem xq {id:Nat}(h:Q (.exit id) s):vc P n (.exit id) Q s:=h
theorem tq {next:St->Prop}(h:next s):ZjG next Q .normal s:=h
theorem tr {next:St->Prop}(h:Q .ret s):ZjG next Q .ret s:=h
theorem tx {next:St->Prop}{j:Nat}(h:Q (.exit j) s):ZjG next Q (.exit j) s:=h
theorem tg {next:St->Prop}{j:Nat}(h:Q (.goto j) s):ZjG next Q (.goto j) s:=h
theorem bn {id:Nat}(h:Q .normal s):ZeO id Q .normal s:=h
theorem br {id:Nat}(h:Q .ret s):ZeO id Q .ret s:=h
theorem bx {id:Nat}(h:Q .normal s):ZeO id Q (.exit id) s:=by simp only [ZeO,Zaa];exact h
theorem bo {id j:Nat}(h:Q (.exit j) s)(hj:(j==id)=false:=by kernel_rfl):ZeO id Q (.exit j) s:=by
 have:¬ j=id:=by simpa using hj
 simp only [ZeO,Z8 this];exact h
theorem hp0:HP ([]:List HO) []:=trivial
theorem kr {α:Sort _}{a b:α}(h:a=b:=by kernel_rfl):a=b:=h
theorem nn (h:Q .normal s):ZoJ Q .normal s:=h
theorem it {x:IX}{a b:IC}{c:Bool}{α:Type}{A B:Option α}{r:α}(h:(if c=true then A else B)=some r)
  (h1:c=true->A=some r->vc P n a Q (ZiV x s)) (h2:c=false->B=some r->vc P n b Q (ZiV x s)) (hx:ev s.fr x=.p (.bool c):=by kernel_rfl):vc P n (.cond x a b) Q s:=Zt5 hx h h1 h2
theorem bs {α β:Type}{x:Option α}{f:α->Option β}{r:β}(h:x.bind f=some r):∃ a,x=some a/\f a=some r:=bind_some h
theorem rbd {K:List HO->Prop}{k id:Nat}{L:LC}{fr0:List (Nat×AV)}{e:Exit}{b:Bool}{H0 H1:List HO}{f0 items:List Za9}(st:LS)(hF:Fp H0 H1 f0 items)(hk:items[k]?=some (.lp id L fr0 .busy))(he:ZoU e=some (b,st))
  (h:∀ H6,Fp H0 H6 f0 (items.set k (.lp id L fr0 st))->K H6) (hs:s.H=H1:=by kernel_rfl):∃ H',ZqH id L fr0 b H' e s/\K H':=ZtQ st (hs.symm ▸ hF) hk he h
theorem Fp.pk {H0 H H':List HO}{f0 items L:List Za9}(h:Fp H0 H f0 items)(ks:List Nat)(hn:ZpG ks=true)(hL:(ks.filterMap λk=>items[k]?)=L:=by kernel_rfl)(hH:H=H':=by kernel_rfl):Fp H0 H' f0 L:=by
 subst hL hH;exact h.pick ks hn
theorem Fp.at {H0 H H':List HO}{f0 items L:List Za9}(h:Fp H0 H f0 items)(hL:items=L:=by kernel_rfl)(hH:H=H':=by kernel_rfl):Fp H0 H' f0 L:=by
 subst hL hH;exact h
end
end Go.Eng

namespace Go.Eng
open Go
def itL:LC:=⟨[],1,λ_ _=>True,true⟩
section
variable {P:Program}
theorem Zqc (w:World)(ty:TypeId)(r bm since:Nat)(seen:Array Nat)(es:Array MapEntry)(clock:Nat)(hr:w.heap[r]?=some (.mapIter (some bm) since seen clock))(hb:w.heap[bm]?=some (.map es clock))
  (hold:∀ x∈es.toList,x.born<since) (hsc:since<=clock) :
  ((leftOf es seen).size=0/\(Instr.next (.pointer (some ⟨r,0,none⟩)) false ty).run P w=.ok (.tuple #[.bool false]) w) ∨
  ∃ e∈(leftOf es seen).toList,∃ w1:World,(w1=w∨w1=w.drew)/\(Instr.next (.pointer (some ⟨r,0,none⟩)) false ty).run P w=.ok (.tuple #[.bool true,e.key,e.val]) (w1.putObj r (.mapIter (some bm) since (seen.push e.born) clock)):=by
 simp only [Instr.next,getObj,Sem.run_bind,Sem.run,hr,hb,Result.andThen,next_test_false seen es since clock hold hsc,Zg,Z7]
 unfold leftOf
 have hmem:∀ x∈(Array.filter (λe => !seen.contains e.born) es).toList,x.born<since:=λx hx=>hold x (by simp at hx ⊢;exact hx.1)
 generalize Array.filter (λe => !seen.contains e.born) es=L at hmem ⊢
 have e1:L.filter (λx=>decide (x.born<since))=L:=Array.filter_eq_self.2 (λx hx=>by simpa using hmem x (by simpa using hx))
 have e2:L.filter (λx=>decide (x.born≥since)) = #[]:=by
  rw [Array.filter_eq_empty_iff]
  intro x hx
  have:=hmem x (by simpa using hx)
  simp
  omega
 simp only [e1,e2,Array.append_empty]
 by_cases h0:L.size=0
 ·left
  have:L = #[]:=Array.eq_empty_of_size_eq_zero h0
  subst this
  refine ⟨rfl,?_⟩
  simp [choose,Sem.run,Question.forced]
 right
 have hne:L.isEmpty=false:=by simp [Array.isEmpty,h0]
 simp only [hne,Zg,Z7,Array.empty_append,Array.size_map]
 have hch:∃ (j:Nat) (w1:World),j<L.size/\(w1=w∨w1=w.drew)/\(choose (Question.mapNext L.size)).run P w=.ok j w1:=by
  by_cases hf:L.size<=1
  ·exact ⟨0,w,by omega,.inl rfl,by simp [choose,Sem.run,Question.forced,hf]⟩
  exact ⟨_,w.drew,Nat.mod_lt _ (by omega),.inr rfl,by
   simp only [choose,Sem.run,Question.forced,Z6,hf,Z7,Question.cut]
   rfl⟩
 obtain ⟨j,w1,hj,hal,hrun⟩:=hch
 refine ⟨L[j],by simp,w1,hal,?_⟩
 have hr1:w1.heap[r]?=some (.mapIter (some bm) since seen clock):=by
  rcases hal with rfl|rfl
  ·exact hr
  exact hr
 simp only [hrun,Array.getElem?_map,Zb hj,Z1,Sem.run_bind,setObj,Sem.run,hr1,Result.andThen]
 rfl
theorem Zpm (w:World)(r bm since:Nat)(seen:Array Nat)(es:Array MapEntry)(clock:Nat)(e:MapEntry)(hr:w.heap[r]?=some (.mapIter (some bm) since (seen.push e.born) clock))(hb:w.heap[bm]?=some (.map es clock))(he:e∈es.toList)
  (hn:(es.toList.map (·.born)).Nodup):(Instr.entry (.pointer (some ⟨r,0,none⟩))).run P w=.ok (.tuple #[e.key,e.val]) w:=by
 have hf:es.find? (·.born==e.born)=some e:=by rw [← Array.find?_toList];exact find_born e es.toList hn he
 simp only [Instr.entry,getObj,Sem.run_bind,Sem.run,hr,hb,Result.andThen,Array.back?_push,Z5,Zg,Z7,hf]
 rfl
theorem ZfE {w:World}{r:Nat}{o:Obj}(h:w.heap[r]?=some o):w.putObj r o=w:=by
 unfold World.putObj
 have:w.heap.setIfInBounds r o=w.heap:=by
  apply Array.ext_getElem?
  intro i
  rw [Array.getElem?_setIfInBounds]
  by_cases e:r=i
  ·subst e
   rw [Z9 rfl,h]
   have hlt:=(Array.getElem?_eq_some_iff.1 h).1
   simp [hlt]
  rw [Z8 e]
 rw [this]
end
section
variable {P:Program} {k:K0} {n:Nat} {g:G} {s:St} {a:Act} {w:World}
theorem Rel.setOb (h:Rel k n g s a w){id l:Nat}{L:LC}{fr:List (Nat×AV)}{st st':LS}{x o':Obj}(hH:s.H[id]?=some (.lp L fr st))(hρ:g.ρ[id]?=some l)(hr:w.heap[l]?=some x)
  (hx1:∀ vs e f,x≠.cells vs e f) (hx2:∀ r,x≠.loop r) (hx3:∀ d,x≠.deferred d)
  (ho:Zbt (cx k g s.H w) (cx k g (s.H.set id (.lp L fr st')) (w.putObj l o'))->HoR (cx k g (s.H.set id (.lp L fr st')) (w.putObj l o')) l (.lp L fr st')) :
  Rel k n g ⟨s.fr,s.bx,s.H.set id (.lp L fr st')⟩ a (w.putObj l o'):=by
 have u:Off w (w.putObj l o') l:=.put _ (λvs e f h=>by rw [hr] at h;exact hx1 _ _ _ (Option.some.inj h))
 have hget:=getElem?_set' (y:=HO.lp L fr st') hH
 have hlt:l<w.heap.size:=(Array.getElem?_eq_some_iff.1 hr).1
 have hl:Zbt (cx k g s.H w) (cx k g (s.H.set id (.lp L fr st')) (w.putObj l o')):=
  {stay:=λa x ho hc=>by
    refine ⟨u.cell hc,ho.1,ho.2.1,λj hj=>?_⟩
    obtain ⟨sz,ver,rows,h1,h2⟩:=ho.2.2 j hj
    refine ⟨sz,ver,rows,?_,h2⟩
    rw [hget,Z8 (λe=>by subst e;rw [hH] at h1;cases h1)]
    exact h1
   arr:=λj sz ver frz rows e=>by
    have e':s.H[j]?=some (.arr sz ver frz rows):=e
    refine ⟨ver,frz,rows,?_,Nat.le_refl _,λ_=>⟨Nat.le_refl _,rfl,λb vs _ hb=>⟨vs,u.blk hb,rfl⟩⟩⟩
    show (s.H.set id _)[j]?=_
    rw [hget,Z8 (λe1=>by subst e1;rw [hH] at e';cases e')];exact e'
   cells:=λj cs e=>by
    have e':s.H[j]?=some (.cells cs):=e
    refine ⟨⟨cs,?_⟩,rfl⟩
    show (s.H.set id _)[j]?=_
    rw [hget,Z8 (λe1=>by subst e1;rw [hH] at e';cases e')];exact e'
   lp:=λj L' fr' st1 e=>by
    have e':s.H[j]?=some (.lp L' fr' st1):=e
    refine ⟨?_,rfl⟩
    by_cases hj:id=j
    ·subst hj
     rw [hH] at e'
     cases e'
     exact ⟨st',by show (s.H.set id _)[id]?=_;rw [hget,Z9 rfl]⟩
    exact ⟨st1,by show (s.H.set id _)[j]?=_;rw [hget,Z8 hj];exact e'⟩ }
 have hobj:∀ b,b≠l->∀ o,w.heap[b]?=some o->(w.putObj l o').heap[b]?=some o:=λb hb o ho=>(u.block b hb).trans ho
 exact
  {defers:=h.defers.mono λD _ hD=>hobj D (λe=>by subst e;rw [hr] at hD;exact hx3 _ (Option.some.inj hD)) _ hD
   rnd:=λl' hl'=>by
    obtain ⟨r1,h1⟩:=h.rnd l' hl'
    exact ⟨r1,hobj l' (λe=>by subst e;rw [hr] at h1;exact hx2 _ (Option.some.inj h1)) _ h1⟩
   tsz:=h.tsz
   slots:=λt=>ZbF hl (λ_ _ e=>e) (h.tops t) (h.slots t)
   tops:=h.tops
   boxes:=λt cs e=>let ⟨b,hb,hr'⟩:=h.boxes t cs e; ⟨b,hb,hr'.later hl (hobj b (λe=>by
    subst e;obtain ⟨_,vs,⟨et,hr'⟩,_⟩:=hr';rw [show w.heap[b]?=_ from hr'] at hr;exact hx1 _ _ _ (Option.some.inj hr).symm))⟩
   boxed:=h.boxed
   heap:=λj o e=>by
    simp only [hget] at e
    by_cases hj:id=j
    ·subst hj
     simp only [Zaa,Z2] at e
     subst e
     exact ⟨l,hρ,ho hl⟩
    simp only [hj,Z7] at e
    obtain ⟨b,hb,hr'⟩:=h.heap j o e
    exact ⟨b,hb,hr'.later hl (hobj b (λe=>hj (h.inj id j l hρ (by rw [← e];exact hb))))⟩
   len:=by simp [h.len]
   inj:=h.inj
   binj:=h.binj
   apart:=h.apart
   own:=h.own
   keep:=h.keep.off u (h.own id l hρ)
   hist:=h.hist.trans hl }
theorem Rel.theOb (h:Rel k n g s a w){id:Nat}{L:LC}{fr:List (Nat×AV)}{st:LS}(hH:s.H[id]?=some (.lp L fr st)){v:Value}(hv:VR (cx k g s.H w) (.map id) v) :
  L.mpk=true/\∃ b,g.ρ[id]?=some b/\v=mapV L b/\MpR (cx k g s.H w) b st:=by
 rw [VR] at hv
 obtain ⟨L',fr',st',b,h1,h2,h3,h4⟩:=hv
 have h1':s.H[id]?=some (.lp L' fr' st'):=h1
 rw [hH] at h1'
 cases h1'
 obtain ⟨b',hb',hq⟩:=h.heap id _ hH
 have h3':g.ρ[id]?=some b:=h3
 rw [h3'] at hb'
 cases hb'
 rcases hq with ⟨q,_⟩|⟨_,q⟩
 ·rw [h2] at q;cases q
 exact ⟨h2,b,h3',h4,q⟩
def hIt (H:List HO)(id:Nat)(L:LC)(fr:List (Nat×AV))(kn:Nat)(es:Ent)(bs:List Nat)(clock:Nat)(seen:List Nat):List HO :=
 H.set id (.lp L fr (.mps kn es bs clock))++[.lp itL [] (.it id clock seen clock)]
def hEnd (H:List HO):List HO:=H++[.lp itL [] .itd]
structure ItOK (es:Ent) (bs:List Nat) (clock:Nat):Prop where
 len:bs.length=es.length
 nd:bs.Nodup
 lt:∀ x∈bs,x<clock
theorem Rel.range (h:Rel k n g s a w){o:Oper}{d:Nat}{xs:List IX}(hc:Zk7 P n o (some d) .range xs=true){id kn:Nat}{L:LC}{fr:List (Nat×AV)}{es:Ent}(hx:xs.map (ev s.fr)=[.map id])(hH:s.H[id]?=some (.lp L fr (.mp kn es)))(hn:L.n=0) :
  ∃ bs clock,ItOK es bs clock/\Did P k n ⟨Eng.put s.fr d (.map s.H.length),s.bx,hIt s.H id L fr kn es bs clock []⟩ a w o:=by
 simp only [Zk7,Ze,Z6] at hc
 obtain ⟨⟨hd,hdn⟩,hc⟩:=hc
 split at hc
 ·rename_i t X hop
  simp only [Ze] at hc
  obtain ⟨hc1,hc2⟩:=hc
  have hv:=ZmN h hc2 hx
  simp only [ZM,ZN] at hv
  rw [VRL] at hv
  obtain ⟨v,vs,e,hv,_⟩:=hv
  simp only [Zr] at e
  obtain ⟨e,_⟩:=e
  obtain ⟨hmk,b,hb,ev1,hok,hlen,ents,clock,q1,q2,q3,q4⟩:=h.theMp hH hv hn
  have q1':w.heap[b]?=some (.map ents clock):=q1
  split at hc1
  rotate_left
  ·cases hc1
  rename_i kt et hu
  have hlen2:(ents.toList.map (·.born)).length=es.length:=by
   have:=congrArg List.length q3
   simpa using this
  refine ⟨ents.toList.map (·.born),clock,⟨hlen2,q2.2.1,λx hx=>by
   obtain ⟨y,hy,rfl⟩:=List.mem_map.1 hx
   exact q2.1 y hy⟩,?_⟩
  have h1:Rel k n g ⟨s.fr,s.bx,s.H.set id (.lp L fr (.mps kn es (ents.toList.map (·.born)) clock))⟩ a w:=by
   have:=h.setOb (o':=.map ents clock) (st':=.mps kn es (ents.toList.map (·.born)) clock) hH hb q1' (by simp) (by simp) (by simp) (λhl=>by
    rw [ZfE q1'] at hl ⊢
    exact .inr ⟨hmk,hok,hlen,ents,q1',q2,q3,VRL.later hl _ _ (ZaN hok) q4,rfl⟩)
   rwa [ZfE q1'] at this
  have hid:id<s.H.length:=(List.getElem?_eq_some_iff.1 hH).1
  obtain ⟨h2,hl2⟩:=h1.newObjG (o:=.lp itL [] (.it id clock [] clock)) (.mapIter (some b) clock #[] clock) (by
   refine .inr ⟨rfl,b,L,fr,.mps kn es (ents.toList.map (·.born)) clock,?_,?_,World.alloc_heap_new w _⟩
   ·show (s.H.set id _++[_])[id]?=_
    rw [Zx (by simpa using hid),List.getElem?_set_self hid]
   show (g.ρ++[_])[id]?=_
   rw [Zx (by rw [h.len];exact hid)]
   exact hb)
  refine ⟨.pointer (some ⟨w.heap.size,0,none⟩),w.alloc (.mapIter (some b) clock #[] clock),⟨g.ρ++[w.heap.size],g.β⟩,.inl ?_,?_⟩
  ·have hrun:=run_range_map (P:=P) w t kt et b ents clock hu q1'
   have e0:a.eval X=.map (some b):=by rw [e,ev1]
   simp only [execOp,hop,e0,Sem.run_bind,hrun,Result.andThen_ok,Sem.run_pure]
  rw [hd]
  refine h2.putO (d:=some d) hdn ?_ rfl
  rw [VR]
  refine ⟨itL,[],.it id clock [] clock,w.heap.size,?_,rfl,?_,rfl⟩
  ·show (s.H.set id _++[_])[s.H.length]?=_
   rw [Zy (by simp)];simp
  show (g.ρ++[_])[s.H.length]?=_
  rw [← h.len];simp
 cases hc
theorem Rel.theMps (h:Rel k n g s a w){id:Nat}{L:LC}{fr:List (Nat×AV)}{kn:Nat}{es:Ent}{bs:List Nat}{clock:Nat}(hH:s.H[id]?=some (.lp L fr (.mps kn es bs clock))) :
  L.mpk=true/\∃ b,g.ρ[id]?=some b/\MpR (cx k g s.H w) b (.mps kn es bs clock):=by
 obtain ⟨b,hb,hq⟩:=h.heap id _ hH
 rcases hq with ⟨_,q⟩|⟨hm,q⟩
 ·obtain ⟨_,r,_,_,_,_,_,q⟩:=q
  exact q.elim
 exact ⟨hm,b,hb,q⟩
theorem Rel.next (h:Rel k n g s a w){o:Oper}{d:Nat}{xs:List IX}(hc:Zk7 P n o (some d) .next xs=true){id j kn:Nat}{L:LC}{fr:List (Nat×AV)}{es:Ent}{bs:List Nat}{clock:Nat}{seen:List Nat}
  (hx:xs.map (ev s.fr)=[.map j]) (hH:s.H[id]?=some (.lp L fr (.mps kn es bs clock))) (hJ:s.H[j]?=some (.lp itL [] (.it id clock seen clock))) :
  ((∀ x∈bs,x∈seen)/\Did P k n ⟨Eng.put s.fr d (.tup [.p (.bool false)]),s.bx,s.H⟩ a w o) ∨
  ∃ i,∃ hi:i<bs.length,bs[i] ∉ seen/\Did P k n ⟨Eng.put s.fr d (.tup [.p (.bool true),.any,.any]),s.bx,s.H.set j (.lp itL [] (.it id clock (seen++[bs[i]]) clock))⟩ a w o:=by
 simp only [Zk7,Ze,Z6] at hc
 obtain ⟨⟨hd,hdn⟩,hc⟩:=hc
 split at hc
 ·rename_i X str hop
  simp only [Ze,Zh] at hc
  obtain ⟨rfl,hc2⟩:=hc
  have hv:=ZmN h hc2 hx
  simp only [ZM,ZN] at hv
  rw [VRL] at hv
  obtain ⟨v,vs,e,hv,_⟩:=hv
  simp only [Zr] at e
  obtain ⟨e,_⟩:=e
  obtain ⟨_,b,hb,ev1,bm,L1,fr1,st1,i1,i2,i3⟩:=h.theOb hJ hv
  obtain ⟨hmk,bm',hbm,hok,hlen,ents,q1,q2,q3,q4,q5⟩:=h.theMps hH
  have:bm'=bm:=by have:=(show g.ρ[id]?=_ from i2).symm.trans hbm;simpa using this.symm
  subst this
  have q1':w.heap[bm']?=some (.map ents clock):=q1
  have i3':w.heap[b]?=some (.mapIter (some bm') clock seen.toArray clock):=i3
  have e0:a.eval X=.pointer (some ⟨b,0,none⟩):=by rw [e,ev1];rfl
  rcases Zqc (P:=P) w o.type b bm' clock seen.toArray ents clock i3' q1' q2.1 (Nat.le_refl _) with ⟨h0,hrun⟩|⟨en,he,w1,hw1,hrun⟩
  ·left
   refine ⟨λx hx=>?_,.tuple #[.bool false],w,g,.inl ?_,?_⟩
   ·rw [← q5] at hx
    obtain ⟨y,hy,rfl⟩:=List.mem_map.1 hx
    by_cases hs:y.born∈seen
    ·exact hs
    have:y∈leftOf ents seen.toArray:=by
     unfold leftOf
     rw [Array.mem_filter]
     refine ⟨Array.mem_toList_iff.1 hy,?_⟩
     simpa using hs
    have hpos:=Array.size_pos_of_mem this
    omega
   ·simp only [execOp,hop,e0,Sem.run_bind,hrun,Result.andThen_ok,Sem.run_pure]
   rw [hd]
   refine h.putO (d:=some d) hdn ?_ rfl
   rw [VR]
   exact ⟨[.bool false],rfl,by rw [VRL];exact ⟨_,_,rfl,by rw [VR,PR],by rw [VRL]⟩⟩
  right
  obtain ⟨he1,he2⟩:=mem_left he
  have hbn:en.born∈bs:=by rw [← q5];exact List.mem_map.2 ⟨en,he1,rfl⟩
  obtain ⟨i,hi,hie⟩:=List.getElem_of_mem hbn
  refine ⟨i,hi,?_,.tuple #[.bool true,en.key,en.val],w1.putObj b (.mapIter (some bm') clock (seen.toArray.push en.born) clock),g,.inl ?_,?_⟩
  ·rw [hie];simpa using he2
  ·simp only [execOp,hop,e0,Sem.run_bind,hrun,Result.andThen_ok,Sem.run_pure]
  have h1:Rel k n g s a w1:=by
   rcases hw1 with rfl|rfl
   ·exact h
   exact h.grow (Grow.drew w)
  have i4:w1.heap[b]?=some (.mapIter (some bm') clock seen.toArray clock):=by
   rcases hw1 with rfl|rfl
   ·exact i3'
   exact i3'
  have hlt:=(Array.getElem?_eq_some_iff.1 i4).1
  have hid:id≠j:=λe=>by subst e;rw [hH] at hJ;cases hJ
  have h2:=h1.setOb (o':=.mapIter (some bm') clock (seen.toArray.push en.born) clock) (st':=.it id clock (seen++[bs[i]]) clock) hJ hb i4 (by simp) (by simp) (by simp) (λhl=>by
   refine .inr ⟨rfl,bm',L,fr,.mps kn es bs clock,?_,hbm,?_⟩
   ·show (s.H.set j _)[id]?=_
    rw [ZG (Ne.symm hid)];exact hH
   show (w1.putObj b _).heap[b]?=_
   rw [World.putObj_heap_same hlt,hie]
   simp)
  rw [hd]
  refine h2.putO (d:=some d) hdn ?_ rfl
  rw [VR]
  exact ⟨[.bool true,en.key,en.val],rfl,by rw [VRL];exact ⟨_,_,rfl,by rw [VR,PR],by rw [VRL];exact ⟨_,_,rfl,by rw [VR];trivial,by rw [VRL];exact ⟨_,_,rfl,by rw [VR];trivial,by rw [VRL]⟩⟩⟩⟩
 cases hc
theorem Zty {c:Cx}:∀ {xs:List AV} {vs:List Value},VRL c xs vs->∀ (i:Nat) x,xs[i]?=some x->∃ v,vs[i]?=some v/\VR c x v
 | [],_,_,i,x,h=>by simp at h
 | y::ys,vs,h,i,x,hi=>by
  rw [VRL] at h
  obtain ⟨v,us,rfl,h1,h2⟩:=h
  cases i with
  | zero=>simp only [ZA,Z2] at hi;subst hi;exact ⟨v,rfl,h1⟩
  | succ i=>exact Zty h2 i x (by simpa using hi)
theorem ZrD (kn:Nat)(ks:List Int):Za3 (keyA kn ks)=true:=by
 unfold keyA
 split
 ·rfl
 simp only [Za3]
 induction ks with
 | nil=>rfl
 | cons x xs ih=>simpa [Za3.noLocL,Za3] using ih
theorem ZtZ (c:Cx)(kn:Nat)(ks:List Int):VR c (keyA kn ks) (keyV kn ks):=by
 unfold keyA keyV
 split
 ·rw [VR,PR]
 rw [VR];exact ⟨_,rfl,Zl4 ks⟩
theorem ZsV {d:Nat}{xs:List IX}{id j kn i x:Nat}{L:LC}{fr:List (Nat×AV)}{es:Ent}{bs:List Nat}{clock:Nat}{seen:List Nat}{p:List Int×AV}(hi:es[i]?=some p)(hb:bs[i]?=some x)(hv:Zeb p.2=true)
  (hx:xs.map (ev s.fr)=[.map j]) (hH:s.H[id]?=some (.lp L fr (.mps kn es bs clock))) (hJ:s.H[j]?=some (.lp itL [] (.it id clock (seen++[x]) clock))) :
  ZaM P (.sp (some d) .entry xs) s ⟨Eng.put s.fr d (.tup [keyA kn p.1,p.2]),s.bx,s.H⟩:=by
 have hno:Za3 (.tup [keyA kn p.1,p.2])=true:=by
  have h2:Za3 p.2=true:=by
   have:noLocL [p.2]=true:=ZaN (by simp [ZaV,hv])
   simpa [Za3.noLocL] using this
  simp [Za3,Za3.noLocL,ZrD,h2]
 refine Zr4 hno ?_ rfl
 intro k n g t a w o d' ys hys hHt h hc
 rw [hx] at hys
 rw [← hHt] at hH hJ ⊢
 simp only [Zk7,Ze,Z6] at hc
 obtain ⟨⟨hd,hdn⟩,hc⟩:=hc
 split at hc
 ·rename_i X hop
  have hv:=ZmN h hc hys
  simp only [ZM,ZN] at hv
  rw [VRL] at hv
  obtain ⟨v,vs,e,hv,_⟩:=hv
  simp only [Zr] at e
  obtain ⟨e,_⟩:=e
  obtain ⟨_,b,hb',ev1,bm,L1,fr1,st1,i1,i2,i3⟩:=h.theOb hJ hv
  obtain ⟨hmk,bm',hbm,hok,hlen,ents,q1,q2,q3,q4,q5⟩:=h.theMps hH
  have:bm'=bm:=by have:=(show g.ρ[id]?=_ from i2).symm.trans hbm;simpa using this.symm
  subst this
  have q1':w.heap[bm']?=some (.map ents clock):=q1
  have e0:a.eval X=.pointer (some ⟨b,0,none⟩):=by rw [e,ev1];rfl
  have hlt:i<ents.toList.length:=by
   have h1:=(List.getElem?_eq_some_iff.1 hi).1
   have:=congrArg List.length q3
   simp only [ZK] at this
   omega
  have hborn:ents.toList[i].born=x:=by
   have:=congrArg (·[i]?) q5
   simp only [ZE,ZC hlt,Z1] at this
   rw [hb] at this
   exact Option.some.inj this
  have hkey:ents.toList[i].key=keyV kn p.1:=by
   have:=congrArg (·[i]?) q3
   simp only [ZE,ZC hlt,Z1,hi] at this
   exact Option.some.inj this
  have hval:VR (cx k g t.H w) p.2 ents.toList[i].val:=by
   obtain ⟨u,hu,hr⟩:=Zty q4 i p.2 (by rw [ZE,hi];rfl)
   rw [ZE,ZC hlt] at hu
   simp only [Z1,Z2] at hu
   rw [hu];exact hr
  have i3':w.heap[b]?=some (.mapIter (some bm') clock (seen.toArray.push ents.toList[i].born) clock):=by
   rw [hborn]
   have:(seen.toArray.push x)=(seen++[x]).toArray:=by simp
   rw [this];exact i3
  have hrun:=Zpm (P:=P) w b bm' clock seen.toArray ents clock ents.toList[i] i3' q1' (List.getElem_mem hlt) q2.2.1
  refine ⟨.tuple #[ents.toList[i].key,ents.toList[i].val],w,g,.inl ?_,?_⟩
  ·simp only [execOp,hop,e0,Sem.run_bind,hrun,Result.andThen_ok,Sem.run_pure]
  rw [hd]
  refine h.putO hdn ?_ (ZaR hno)
  rw [VR]
  exact ⟨[ents.toList[i].key,ents.toList[i].val],rfl,by rw [VRL];exact ⟨_,_,rfl,by rw [hkey];exact ZtZ _ _ _,by rw [VRL];exact ⟨_,_,rfl,hval,by rw [VRL]⟩⟩⟩
 cases hc
end
section
variable {P:Program} {n:Nat}
theorem EvI.seq2 {x y:IC}{Q:Exit->St->Prop}{s:St}(h:EvI P n x s (ZjG (λs'=>EvI P n y s' Q) Q)):EvI P n (.seq x y) s Q:=by
 intro c hc k g a w hr
 cases c<;>simp only [chkC,Zg,Ze] at hc
 rename_i c1 c2
 refine wpIn_seq (wpIn_mono (h c1 hc.1 k g a w hr) ?_)
 rintro e a' w' ⟨s',g',h1,h2⟩
 cases e with
 | normal=>exact h2 c2 hc.2 k g' a' w' h1
 | _=>exact ⟨s',g',h1,h2⟩
theorem EvI.block2 {id:Nat}{x:IC}{Q:Exit->St->Prop}{s:St}(h:EvI P n x s (ZeO id Q)):EvI P n (.block id x) s Q:=by
 intro c hc k g a w hr
 cases c<;>simp only [chkC,Zg,Ze,Z6] at hc
 rename_i id' c1
 obtain ⟨rfl,hc⟩:=hc
 refine wpIn_block (wpIn_mono (h c1 hc k g a w hr) ?_)
 rintro e a' w' ⟨s',g',h1,h2⟩
 cases e with
 | exit j =>
  simp only [ZeO] at h2
  simp only [Exit.inBlock]
  split
  ·rename_i e;rw [Z9 e] at h2;exact ⟨s',g',h1,h2⟩
  rename_i e;rw [Z8 e] at h2;exact ⟨s',g',h1,h2⟩
 | _=>exact ⟨s',g',h1,h2⟩
theorem EvI.loop2 {b:IC}{Q:Exit->St->Prop}{α:Type}(R:α->St->Prop)(μ:α->Nat)(round:∀ x s,R x s->EvI P n b s (ZjG (λs'=>∃ y,R y s'/\μ y<μ x) Q))(x:α)(s:St)(h:R x s):EvI P n (.loop b) s Q:=by
 intro c hc k g a w hr
 cases c<;>simp only [chkC,Zg] at hc
 rename_i c1
 refine ZjX (R:=λx a w=>∃ s g,R x s/\Rel k n g s a w) μ (λx a w h=>?_) x a w ⟨s,g,h,hr⟩
 obtain ⟨s,g,hx,hr⟩:=h
 refine wpIn_mono (round x s hx c1 hc k g a w hr) ?_
 rintro e a' w' ⟨s',g',h1,h2⟩
 cases e with
 | normal =>
  obtain ⟨y,hy,hlt⟩:=h2
  exact ⟨y,⟨s',g',hy,h1⟩,hlt⟩
 | _=>exact ⟨s',g',h1,h2⟩
theorem Zkp {ops:Array Oper}:∀ {l:List Oper} {i1 i2:List IOp},ZdK P n ops l (i1++i2)=true->∃ l1 l2,l=l1++l2/\ZdK P n ops l1 i1=true/\ZdK P n ops l2 i2=true
 | l,[],i2,h=>⟨[],l,rfl,rfl,h⟩
 | [],x::i1,i2,h=>by simp [ZdK] at h
 | o::l,x::i1,i2,h=>by
  simp only [Zs,ZdK,Ze] at h
  obtain ⟨l1,l2,rfl,h1,h2⟩:=Zkp h.2
  exact ⟨o::l1,l2,rfl,by simp only [ZdK,Ze];exact ⟨h.1,h1⟩,h2⟩
section
variable {k:K0} {ops:Array Oper} {r:Option Nat} {Q:Exit->Act->World->Prop}
theorem ZqO:∀ (os:List Oper) (ios:List IOp) (os2:List Oper) (st:Nat) {g:G} {s s':St} {a:Act} {w:World},(∀ j,(os++os2)[j]?=ops[st+j]?)->ZdK P n ops os ios=true->Rel k n g s a w->Zab P ios s s' →
  (∀ g' a' w',Rel k n g' s' a' w'->wpOpsIn (FR r) 0 P ops Q (List.range' (st+os.length) os2.length) a' w')->wpOpsIn (FR r) 0 P ops Q (List.range' st (os++os2).length) a w
 | [],[],os2,st,g,s,s',a,w,_,_,h,hp,hK=>by
  simp only [Zab] at hp
  subst hp
  simpa using hK g a w h
 | o::os,io::ios,os2,st,g,s,s',a,w,hos,hc,h,hp,hK=>by
  simp only [Zab] at hp
  obtain ⟨s1,h1,h2⟩:=hp
  simp only [ZdK,Ze] at hc
  have h0:=hos 0
  simp only [Zs,ZA,Nat.add_zero] at h0
  simp only [Zs,ZJ,ZR]
  rw [wpOpsIn_cons]
  refine ZoH h h0.symm hc.1 h1 r (λg' a' w' h3=>?_)
  refine ZqO os ios os2 (st+1) (λj=>by have:=hos (j+1);simpa [Nat.add_assoc,Nat.add_comm 1 j] using this) hc.2 h3 h2 (λg2 a2 w2 h4=>?_)
  have:=hK g2 a2 w2 h4
  rwa [ZJ,show st+(os.length+1)=st+1+os.length by omega] at this
 | [],_::_,_,_,_,_,_,_,_,_,hc,_,_,_=>by simp [ZdK] at hc
 | _::_,[],_,_,_,_,_,_,_,_,hc,_,_,_=>by simp [ZdK] at hc
theorem Zy5 {g:G}{a:Act}{w:World}{i:Nat}{o:Oper}{io:IOp}(hi:ops[i]?=some o)(hc:ZpY P n ops o io=true)(hg:io.g=none){R:St->Prop}(hd:∃ s',R s'/\Did P k n s' a w o){K:Act->World->Prop}
  (hK:∀ s' g' a' w',R s'->Rel k n g' s' a' w'->K a' w'):wpOpIn (FR r) 0 P ops Q i K a w:=by
 simp only [ZpY,Ze] at hc
 obtain ⟨⟨hgo,hc⟩,hnd⟩:=hc
 obtain ⟨s',hR,hd⟩:=hd
 unfold wpOpIn
 rw [hi]
 simp only
 have hog:o.guard=none:=by
  unfold Zqs at hgo
  rw [hg] at hgo
  split at hgo
  ·assumption
  ·rename_i e;cases e
  cases hgo
 rw [Z9 (by simp [Region.wanted,hog])]
 exact Oper.wpIn_of_wp r (ZmR hnd) (hd.wp λg' a' w' h=>hK s' g' a' w' hR h)
end
theorem EvI.regND {pre post:List IOp}{nd:IOp}{keep:List Nat}{s s0:St}{Q:Exit->St->Prop}(R:St->Prop)(hp:Zab P pre s s0)(hg:nd.g=none)
  (hnd:∀ k g a w o,Rel k n g s0 a w->ZbX P n o nd.i=true->∃ s1,R s1/\Did P k n s1 a w o) (hpost:∀ s1,R s1->∃ s2,Zab P post s1 s2/\Q .normal (ZfZ keep s2)):EvI P n (.reg (pre++nd::post) keep) s Q:=by
 intro c hc k g a w hr
 cases c<;>simp only [chkC,Zg,Ze,Zh] at hc
 rename_i id ops draw
 obtain ⟨rfl,hc⟩:=hc
 obtain ⟨l1,l2,he,h1,h2⟩:=Zkp hc
 cases l2 with
 | nil=>simp [ZdK] at h2
 | cons o l2 =>
  simp only [ZdK,Ze] at h2
  refine wpIn_region ?_
  have hget:∀ j,(l1++o::l2)[j]?=ops[0+j]?:=λj=>by rw [← he];simp
  have hlen:(l1++o::l2).length=ops.size:=by rw [← he];simp
  have:=ZqO (r:=k.rd) (Q:=λe a' w'=>∃ s' g',Rel k n g' s' a' w'/\Q e s') l1 pre (o::l2) 0 hget h1 hr hp (λg' a' w' h3=>by
   simp only [ZJ,ZR,ZY]
   rw [wpOpsIn_cons]
   have hci:ZbX P n o nd.i=true:=by
    have:=h2.1
    simp only [ZpY,Ze] at this
    exact this.1.2
   have ho:ops[l1.length]?=some o:=by have:=hget l1.length;simpa using this.symm
   refine Zy5 (g:=g') ho h2.1 hg (R:=R) (hnd k g' a' w' o h3 hci) (λs1 g2 a2 w2 hR h4=>?_)
   obtain ⟨s2,hp2,hq⟩:=hpost s1 hR
   refine ZmM l2 post (l1.length+1) (λj=>?_) h2.2 h4 hp2 (λg3 a3 w3 h5=>?_)
   ·have:=hget (l1.length+1+j)
    rw [Zy (by omega)] at this
    simpa [show l1.length+1+j-l1.length=j+1 by omega] using this
   obtain ⟨g4,h6⟩:=h5.keepOnly keep
   exact ⟨_,g4,h6,hq⟩)
  rw [hlen,← ZS] at this
  exact this
theorem ZrP {id:Nat}{G G':Exit->St->Prop}(hf:∀ e s,G e s->G' e s):∀ e s,ZeO id G e s->ZeO id G' e s:=by
 intro e s h
 cases e with
 | exit q =>
  have h:(if q=id then G .normal s else G (.exit q) s):=h
  show (if q=id then G' .normal s else G' (.exit q) s)
  by_cases e:q=id
  ·rw [Z9 e] at h ⊢;exact hf _ _ h
  rw [Z8 e] at h ⊢;exact hf _ _ h
 | normal=>exact hf _ _ h
 | ret=>exact hf _ _ h
 | goto l=>exact hf _ _ h
 | panic c=>exact hf _ _ h
 | outgrown=>exact hf _ _ h
theorem ZpF:∀ (z bs:List Nat),z.Nodup->(∀ x∈z,x∈bs)->z.length<=bs.length
 | [],_,_,_=>Nat.zero_le _
 | x::z,bs,hn,hs=>by
  have hx:=hs x (by simp)
  have hn':=List.nodup_cons.1 hn
  have:=ZpF z (bs.erase x) hn'.2 (λy hy=>(List.mem_erase_of_ne (λe=>by subst e;exact hn'.1 hy)).2 (hs y (by simp [hy])))
  rw [List.length_erase_of_mem hx] at this
  have hpos:=List.length_pos_of_mem hx
  simp only [ZJ]
  omega
theorem ZnV {α:Type}(A:List α)(x y:α):(A++[x]).set A.length y=A++[y]:=by
 rw [ZT _ _ (Nat.le_refl _),Nat.sub_self];rfl
theorem Rel.itEnd {k:K0}{g:G}{fr0:List (Nat×AV)}{bx:List (Nat×List AV)}{H:List HO}{a:Act}{w:World}{id kn:Nat}{L:LC}{fr:List (Nat×AV)}{es:Ent}{bs:List Nat}{clock:Nat}{seen:List Nat}(hH:H[id]?=some (.lp L fr (.mp kn es)))
  (h:Rel k n g ⟨fr0,bx,hIt H id L fr kn es bs clock seen⟩ a w):Rel k n g ⟨fr0,bx,hEnd H⟩ a w:=by
 have hid:id<H.length:=(List.getElem?_eq_some_iff.1 hH).1
 have hm:(hIt H id L fr kn es bs clock seen)[id]?=some (.lp L fr (.mps kn es bs clock)):=by
  unfold hIt
  rw [Zx (by simpa using hid),List.getElem?_set_self hid]
 obtain ⟨hmk,b,hb,hq⟩:=h.theMps hm
 obtain ⟨hok,hlen,ents,q1,q2,q3,q4,q5⟩:=hq
 have q1':w.heap[b]?=some (.map ents clock):=q1
 have h1:=h.setOb (o':=.map ents clock) (st':=.mp kn es) hm hb q1' (by simp) (by simp) (by simp) (λhl=>by
  rw [ZfE q1'] at hl ⊢
  exact .inr ⟨hmk,hok,hlen,ents,clock,q1',q2,q3,VRL.later hl _ _ (ZaN hok) q4⟩)
 rw [ZfE q1'] at h1
 have e1:(hIt H id L fr kn es bs clock seen).set id (.lp L fr (.mp kn es))=H++[.lp itL [] (.it id clock seen clock)]:=by
  unfold hIt
  rw [List.set_append_left _ _ (by simpa using hid),List.set_set]
  congr 1
  apply List.ext_getElem?
  intro j
  rw [ZF]
  by_cases e:id=j
  ·subst e;rw [Z9 rfl,Z9 hid,hH]
  rw [Z8 e]
 simp only [e1] at h1
 have hj:(H++[HO.lp itL [] (.it id clock seen clock)])[H.length]?=some (.lp itL [] (.it id clock seen clock)):=by simp
 obtain ⟨b2,hb2,hq2⟩:=h1.heap H.length _ hj
 rcases hq2 with ⟨q,_⟩|⟨_,hq2⟩
 ·cases q
 obtain ⟨bm,L1,fr1,st1,i1,i2,i3⟩:=hq2
 have i3':w.heap[b2]?=some (.mapIter (some bm) clock seen.toArray clock):=i3
 have h2:=h1.setOb (o':=.mapIter (some bm) clock seen.toArray clock) (st':=.itd) hj hb2 i3' (by simp) (by simp) (by simp) (λhl=>by
  rw [ZfE i3']
  exact .inr ⟨rfl,_,_,_,_,i3'⟩)
 rw [ZfE i3'] at h2
 simp only [ZnV] at h2
 exact h2
def Zta (pre:List IOp)(d:Nat)(x:IX)(k1:List Nat)(out tn tm:Nat)(k2 k3 k4:List Nat)(nxt:Nat)(rest:IC):IC :=
 .seq (.reg (pre++⟨none,.sp (some d) .range [x],[],none⟩::[]) k1) (.block out (.loop (.seq (.reg ([]++⟨none,.sp (some tn) .next [.t d],[],none⟩::[⟨none,.val tm (.ext 0) [.t tn],[],none⟩]) k2)
  (.seq (.cond (.t tm) .skip (.kp k4 (.exit out))) (.kp k3 (.block nxt rest))))))
def Zg7 (k1:List Nat)(s0:St)(d:Nat):List (Nat×AV):=ZmV k1 (put s0.fr d (.map s0.H.length))
def Zii (k1:List Nat)(s0:St):List (Nat×List AV):=ZpQ k1 s0.bx
def Zr2 (k1 k2 k3:List Nat)(s0:St)(d tn tm:Nat)(H:List HO):St :=
 ZfZ k3 (ZiV (.t tm) (ZfZ k2 ⟨put (put (Zg7 k1 s0 d) tn (.tup [.p (.bool true),.any,.any])) tm (.p (.bool true)),Zii k1 s0,H⟩))
def Zr3 (k1 k2 k4:List Nat)(s0:St)(d tn tm:Nat)(H:List HO):St :=
 ZfZ k4 (ZiV (.t tm) (ZfZ k2 ⟨put (put (Zg7 k1 s0 d) tn (.tup [.p (.bool false)])) tm (.p (.bool false)),Zii k1 s0,H⟩))
theorem Zsm {pre:List IOp}{d:Nat}{x:IX}{k1:List Nat}{out tn tm:Nat}{k2 k3 k4:List Nat}{nxt:Nat}{rest:IC}{s s0:St}{id kn:Nat}{L:LC}{fr:List (Nat×AV)}{es:Ent}(bad:Nat->Bool){sF:List (Nat×AV)}{bF:List (Nat×List AV)}
  (hp:Zab P pre s s0) (hx:ev s0.fr x=.map id) (hH:s0.H[id]?=some (.lp L fr (.mp kn es))) (hn:L.n=0) (hd:get (Zg7 k1 s0 d) d=.map s0.H.length) (hk2:k2.elem tm=true) (hne:tn≠tm)
  (hbody:∀ i (p:List Int×AV),es[i]?=some p->∀ (bs:List Nat) (clock:Nat) (seen:List Nat) (y:Nat),bs[i]?=some y->vc P n rest (ZeO nxt λe s'=>if bad i=true then e=.ret/\s'=⟨sF,bF,hIt s0.H id L fr kn es bs clock (seen++[y])⟩ else e=.normal/\s'=⟨Zg7 k1 s0 d,Zii k1 s0,hIt s0.H id L fr kn es bs clock (seen++[y])⟩)
   (Zr2 k1 k2 k3 s0 d tn tm (hIt s0.H id L fr kn es bs clock (seen++[y]))))
  {Q:Exit->St->Prop} (hQ:if (List.range es.length).any bad=true then Q .ret ⟨sF,bF,hEnd s0.H⟩ else Q .normal (Zr3 k1 k2 k4 s0 d tn tm (hEnd s0.H))):EvX P n (Zta pre d x k1 out tn tm k2 k3 k4 nxt rest) s Q:=by
 have hid:id<s0.H.length:=(List.getElem?_eq_some_iff.1 hH).1
 have main:EvI P n (Zta pre d x k1 out tn tm k2 k3 k4 nxt rest) s (λe s'=>∃ bs clock seen,(if (List.range es.length).any bad=true then e=.ret/\s'=⟨sF,bF,hIt s0.H id L fr kn es bs clock seen⟩ else e=.normal/\s'=Zr3 k1 k2 k4 s0 d tn tm (hIt s0.H id L fr kn es bs clock seen))):=by
  unfold Zta
  refine EvI.seq2 (EvI.regND (λs1=>∃ bs clock,ItOK es bs clock/\s1=⟨put s0.fr d (.map s0.H.length),s0.bx,hIt s0.H id L fr kn es bs clock []⟩) hp rfl (λk g a w o h hc=>?_) ?_)
  ·obtain ⟨bs,clock,h1,h2⟩:=h.range (xs:=[x]) (by simpa only [ZbX] using hc) (by rw [ZM,hx];rfl) hH hn
   exact ⟨_,⟨bs,clock,h1,rfl⟩,h2⟩
  rintro s1 ⟨bs,clock,hit,rfl⟩
  refine ⟨_,rfl,?_⟩
  show EvI P n _ ⟨Zg7 k1 s0 d,Zii k1 s0,hIt s0.H id L fr kn es bs clock []⟩ _
  refine EvI.block2 (EvI.loop2 (λ(seen:List Nat) s=>s=⟨Zg7 k1 s0 d,Zii k1 s0,hIt s0.H id L fr kn es bs clock seen⟩/\seen.Nodup/\(∀ y∈seen,y∈bs)/\∀ i y:Nat,bs[i]?=some y->y∈seen->bad i=false) (λseen=>bs.length-seen.length) ?_ [] _ ⟨rfl,by simp,by simp,by simp⟩)
  rintro seen s ⟨rfl,hnd,hsub,hgood⟩
  have hm:(hIt s0.H id L fr kn es bs clock seen)[id]?=some (.lp L fr (.mps kn es bs clock)):=by
   unfold hIt
   rw [Zx (by simpa using hid),List.getElem?_set_self hid]
  have hj:(hIt s0.H id L fr kn es bs clock seen)[s0.H.length]?=some (.lp itL [] (.it id clock seen clock)):=by
   unfold hIt
   rw [Zy (by simp)];simp
  have hset:∀ y,(hIt s0.H id L fr kn es bs clock seen).set s0.H.length (.lp itL [] (.it id clock (seen++[y]) clock))=hIt s0.H id L fr kn es bs clock (seen++[y]):=λy=>by
   unfold hIt
   simp
  refine EvI.seq2 (EvI.regND (λs1=>((∀ y∈bs,y∈seen)/\s1=⟨put (Zg7 k1 s0 d) tn (.tup [.p (.bool false)]),Zii k1 s0,hIt s0.H id L fr kn es bs clock seen⟩) ∨
   ∃ i y:Nat,bs[i]?=some y/\y ∉ seen/\s1=⟨put (Zg7 k1 s0 d) tn (.tup [.p (.bool true),.any,.any]),Zii k1 s0,hIt s0.H id L fr kn es bs clock (seen++[y])⟩) (s0:=⟨Zg7 k1 s0 d,Zii k1 s0,hIt s0.H id L fr kn es bs clock seen⟩) rfl rfl (λk g a w o h hc=>?_) ?_)
  ·rcases h.next (xs:=[.t d]) (by simpa only [ZbX] using hc) (by rw [ZM];show [get (Zg7 k1 s0 d) d]=_;rw [hd]) hm hj with ⟨h1,h2⟩|⟨i,hi,h1,h2⟩
   ·exact ⟨_,.inl ⟨h1,rfl⟩,h2⟩
   refine ⟨_,.inr ⟨i,bs[i],ZC hi,h1,rfl⟩,?_⟩
   have:=h2
   simp only [hset] at this
   exact this
  have hkeep:∀ (f:List (Nat×AV)) (b:List (Nat×List AV)) (H:List HO) (v:AV),get (ZmV k2 (put f tm v)) tm=v:=λf b H v=>by
   rw [Zm3,hk2,Z9 rfl,Zbv,Z9 rfl]
  rintro s1 (⟨hall,rfl⟩|⟨i,y,hi,hnew,rfl⟩)
  ·refine ⟨⟨put (put (Zg7 k1 s0 d) tn (.tup [.p (.bool false)])) tm (.p (.bool false)),Zii k1 s0,hIt s0.H id L fr kn es bs clock seen⟩,⟨_,⟨rfl,?_⟩,rfl⟩,?_⟩
   ·simp only [ZaM,Za6,ZM,ZN,ev,Zbv,Zaa,Za8]
    rfl
   show EvI P n _ (ZfZ k2 _) _
   refine Zay _ _ _ ?_
   refine sq ?_
   show (match get (ZmV k2 _) tm with | .p (.bool t)=>_|_=>False)
   rw [hkeep _ [] []]
   simp only [Zg,Z7]
   refine kq (xq (tx (tx (Eng.bx ?_))))
   refine ⟨bs,clock,seen,?_⟩
   rw [Z8]
   ·exact ⟨rfl,rfl⟩
   rw [Bool.not_eq_true,Bool.eq_false_iff]
   intro hc
   obtain ⟨i,hi,hb⟩:=List.any_eq_true.1 hc
   have hlt:i<bs.length:=by rw [hit.len];exact List.mem_range.1 hi
   have:=hgood i bs[i] (ZC hlt) (hall _ (List.getElem_mem hlt))
   rw [this] at hb
   cases hb
  refine ⟨⟨put (put (Zg7 k1 s0 d) tn (.tup [.p (.bool true),.any,.any])) tm (.p (.bool true)),Zii k1 s0,hIt s0.H id L fr kn es bs clock (seen++[y])⟩,⟨_,⟨rfl,?_⟩,rfl⟩,?_⟩
  ·simp only [ZaM,Za6,ZM,ZN,ev,Zbv,Zaa,Za8]
   rfl
  show EvI P n _ (ZfZ k2 _) _
  have hib:i<es.length:=by
   have:=(List.getElem?_eq_some_iff.1 hi).1
   rw [hit.len] at this
   exact this
  refine Zay _ _ _ ?_
  refine sq ?_
  show (match get (ZmV k2 _) tm with | .p (.bool t)=>_|_=>False)
  rw [hkeep _ [] []]
  simp only [Zaa]
  show vc P n rest (ZeO nxt _) (Zr2 k1 k2 k3 s0 d tn tm (hIt s0.H id L fr kn es bs clock (seen++[y])))
  refine Zdy rest ?_ (hbody i es[i] (ZC hib) bs clock seen y hi)
  have fin:∀ e s',(if bad i=true then e=.ret/\s'=⟨sF,bF,hIt s0.H id L fr kn es bs clock (seen++[y])⟩ else e=.normal/\s'=⟨Zg7 k1 s0 d,Zii k1 s0,hIt s0.H id L fr kn es bs clock (seen++[y])⟩) →
    ZjG (λs'=>∃ z:List Nat,(s'=⟨Zg7 k1 s0 d,Zii k1 s0,hIt s0.H id L fr kn es bs clock z⟩/\z.Nodup/\(∀ y∈z,y∈bs)/\∀ i y:Nat,bs[i]?=some y->y∈z->bad i=false)/\bs.length-z.length<bs.length-seen.length)
     (ZeO out λe s'=>∃ bs clock seen,(if (List.range es.length).any bad=true then e=.ret/\s'=⟨sF,bF,hIt s0.H id L fr kn es bs clock seen⟩ else e=.normal/\s'=Zr3 k1 k2 k4 s0 d tn tm (hIt s0.H id L fr kn es bs clock seen))) e s':=by
   intro e s' h
   by_cases hb:bad i=true
   ·rw [Z9 hb] at h
    obtain ⟨rfl,rfl⟩:=h
    show ∃ bs clock seen,_
    refine ⟨bs,clock,seen++[y],?_⟩
    rw [Z9 (List.any_eq_true.2 ⟨i,List.mem_range.2 hib,hb⟩)]
    exact ⟨rfl,rfl⟩
   rw [Z8 hb] at h
   obtain ⟨rfl,rfl⟩:=h
   have hnd':(seen++[y]).Nodup:=by
    rw [List.nodup_append]
    refine ⟨hnd,by simp,λa ha b hb'=>?_⟩
    simp only [ZP] at hb'
    subst hb'
    intro e;subst e;exact hnew ha
   have hsub':∀ z∈seen++[y],z∈bs:=λz hz=>by
    rcases List.mem_append.1 hz with h|h
    ·exact hsub z h
    simp only [ZP] at h;subst h;exact List.mem_of_getElem? hi
   have hle:(seen++[y]).length<=bs.length:=ZpF _ _ hnd' hsub'
   refine ⟨seen++[y],⟨rfl,hnd',hsub',λj z hj hz=>?_⟩,?_⟩
   ·rcases List.mem_append.1 hz with h|h
    ·exact hgood j z hj h
    simp only [ZP] at h
    subst h
    have:i=j:=by
     obtain ⟨h1,e1⟩:=List.getElem?_eq_some_iff.1 hi
     obtain ⟨h2,e2⟩:=List.getElem?_eq_some_iff.1 hj
     exact (List.getElem_inj hit.nd).1 (e1.trans e2.symm)
    subst this
    simpa using hb
   rw [ZI,List.length_singleton] at hle ⊢
   omega
  exact ZrP fin
 by_cases hb:(List.range es.length).any bad=true
 ·rw [Z9 hb] at hQ
  refine ⟨.ret,_,?_,hQ⟩
  intro c hc k g a w hr
  refine wpIn_mono (main c hc k g a w hr) ?_
  rintro e a' w' ⟨s',g',h1,bs,clock,seen,h2⟩
  rw [Z9 hb] at h2
  obtain ⟨rfl,rfl⟩:=h2
  exact ⟨_,g',Rel.itEnd hH h1,rfl,rfl⟩
 rw [Z8 hb] at hQ
 refine ⟨.normal,_,?_,hQ⟩
 intro c hc k g a w hr
 refine wpIn_mono (main c hc k g a w hr) ?_
 rintro e a' w' ⟨s',g',h1,bs,clock,seen,h2⟩
 rw [Z8 hb] at h2
 obtain ⟨rfl,rfl⟩:=h2
 exact ⟨_,g',Rel.itEnd hH h1,rfl,rfl⟩
end
end Go.Eng

namespace Go.Eng
open Go
section
variable {H0 H H':List HO} {f0 items fix:List Za9} {α:Type}
theorem HP.snocNil (sz:Nat)(frz:Bool):∀ {items:List Za9},HP H items->HP H (items++[.arr (.p (.sl sz true [])) sz frz []])
 | [],_=>(HP.nil H).nilArr sz frz
 | i::is,h=>by
  refine HP.cons (HP.snocNil sz frz h.2.2) h.1 ?_
  intro id hi j hj hjo
  rcases List.mem_append.1 hj with hj|hj
  ·exact h.2.1 id hi j hj hjo
  simp only [ZP] at hj
  subst hj
  obtain ⟨_,_,_,_,e⟩:=hjo
  cases e
theorem Fp.snocNil (h:Fp H0 H f0 items)(sz:Nat)(frz:Bool):Fp H0 H f0 (items++[.arr (.p (.sl sz true [])) sz frz []]):=
 h.trans
  {size:=Nat.le_refl _
   same:=λ_ _ _=>rfl
   now:=h.now.snocNil sz frz
   occ:=λx hx id hxo=>by
    rcases List.mem_append.1 hx with hx|hx
    ·exact .inl ⟨x,hx,hxo⟩
    simp only [ZP] at hx
    subst hx
    obtain ⟨_,_,_,_,e⟩:=hxo
    cases e }
theorem Fp.push (h:Fp H0 H f0 items)(o:HO):Fp H0 (H++[o]) f0 items :=
 h.trans
  {size:=by simp
   same:=λid hlt _=>Zx hlt
   now:=h.now.push o
   occ:=λx hx id hxo=>.inl ⟨x,hx,hxo⟩ }
def zipT (sz:Nat)(enc:α->List PC):List (Int×List α)->List AV->List Za9
 | p::m,a::as=>.arr a sz false (p.2.map enc)::zipT sz enc m as
 | _,_=>[]
def zipE:List (Int×List α)->List AV->Ent
 | p::m,a::as=>([p.1],a)::zipE m as
 | _,_=>[]
def mapT (id sz:Nat)(enc:α->List PC)(m:List (Int×List α))(as:List AV):List Za9:=mpT id 0 (zipE m as)::zipT sz enc m as
theorem ZkV {κ υ:Type}[DecidableEq κ](p:κ×υ)(m:List (κ×υ))(x:κ)(z:υ):Zhk (p::m) x z=if p.1=x then p.2 else Zhk m x z:=by
 unfold Zhk ZpK
 rw [Zu]
 by_cases h:p.1=x
 ·simp [h]
 simp [h]
theorem ZkW (p:List Int×AV)(es:Ent)(x:List Int):Zjg (p::es) x=if p.1=x then some p.2 else Zjg es x:=by
 unfold Zjg
 rw [Zu]
 by_cases h:p.1=x
 ·simp [h]
 simp [h]
theorem ZqN {a:AV}{sz:Nat}{frz:Bool}{rows:List (List PC)}(h:Lies H (.arr a sz frz rows)):Zeb a=true/\Za3 a=true:=by
 rcases ZlW h with rfl|⟨id,ver,rfl⟩
 ·exact ⟨rfl,rfl⟩
 exact ⟨rfl,rfl⟩
def mval (sz:Nat)(m:List (Int×List α))(as:List AV)(x:Int):AV:=(Zjg (zipE m as) [x]).getD (.p (.sl sz true []))
theorem ZnX {sz:Nat}{enc:α->List PC}{x:Int}:∀ {m:List (Int×List α)} {as:List AV} {pre:List Za9},Fp H0 H f0 (pre++zipT sz enc m as)->Za3 (mval sz m as x)=true
 | [],as,pre,h=>by cases as<;>rfl
 | p::m,[],pre,h=>rfl
 | p::m,a::as,pre,h=>by
  unfold mval
  simp only [zipE,ZkW]
  by_cases e:[p.1]=[x]
  ·rw [Z9 e]
   have:=h.get pre.length (i:=.arr a sz false (p.2.map enc)) (by rw [Zy (Nat.le_refl _)];simp [zipT])
   exact (ZqN this).2
  rw [Z8 e]
  exact ZnX (pre:=pre++[.arr a sz false (p.2.map enc)]) (by simpa [zipT] using h)
theorem Zq7 {sz bytes:Nat}(enc:α->List PC){x:Int}{e:α}{r:List α}:∀ {m:List (Int×List α)} {as:List AV} {pre:List Za9},as.length=m.length->Fp H0 H f0 (pre++zipT sz enc m as)->appI bytes (Zhk m x []) [e]=some r →
  ∃ a1 H1 as',appV H sz bytes (mval sz m as x) [enc e]=some (a1,H1)/\Zeb a1=true/\as'.length=(Zed m x r).length/\mset (zipE m as) [x] a1=zipE (Zed m x r) as'/\Fp H0 H1 f0 (pre++zipT sz enc (Zed m x r) as')
 | [],[],pre,_,h,hr=>by
  have hn:=h.snocNil sz false
  simp only [zipT,List.append_nil] at hn
  obtain ⟨a',H',h1,h2⟩:=Fp.app (k:=pre.length) (a:=.p (.sl sz true [])) (sz:=sz) (frz:=false) (l:=[]) (m:=[e]) enc hn (by rw [Zy (Nat.le_refl _)];simp) hr
  rw [ZnV] at h2
  have hl:=h2.get pre.length (i:=.arr a' sz false (r.map enc)) (by rw [Zy (Nat.le_refl _)];simp)
  exact ⟨a',H',[a'],h1,(ZqN hl).1,rfl,rfl,h2⟩
 | [],a::as,pre,hl,_,_=>by simp at hl
 | p::m,[],pre,hl,_,_=>by simp at hl
 | p::m,a::as,pre,hl,h,hr=>by
  rw [ZkV] at hr
  by_cases hx:p.1=x
  ·rw [Z9 hx] at hr
   obtain ⟨a',H',h1,h2⟩:=Fp.app (k:=pre.length) (a:=a) (sz:=sz) (frz:=false) (l:=p.2) (m:=[e]) enc h (by rw [Zy (Nat.le_refl _)];simp [zipT]) hr
   have e1:(pre++zipT sz enc (p::m) (a::as)).set pre.length (.arr a' sz false (r.map enc))=pre++zipT sz enc ((x,r)::m) (a'::as):=by
    rw [ZT _ _ (Nat.le_refl _),Nat.sub_self];rfl
   rw [e1] at h2
   have hl2:=h2.get pre.length (i:=.arr a' sz false (r.map enc)) (by rw [Zy (Nat.le_refl _)];simp [zipT])
   refine ⟨a',H',a'::as,?_,(ZqN hl2).1,?_,?_,?_⟩
   ·unfold mval
    simp only [zipE,ZkW]
    rw [Z9 (by rw [hx])]
    exact h1
   ·simp only [Zed,hx,Zaa,ZJ] at hl ⊢;exact hl
   ·simp only [zipE,mset,Zed,hx,Zaa]
   simp only [Zed,hx,Zaa];exact h2
  rw [Z8 hx] at hr
  obtain ⟨a1,H1,as',h1,h2,h3,h4,h5⟩:=Zq7 enc (m:=m) (as:=as) (pre:=pre++[.arr a sz false (p.2.map enc)]) (by simpa using hl) (by simpa [zipT] using h) hr
  have hx':¬ [p.1]=[x]:=λe=>hx (by simpa using e)
  refine ⟨a1,H1,a::as',?_,h2,?_,?_,?_⟩
  ·unfold mval at h1 ⊢
   simp only [zipE,ZkW]
   rw [Z8 hx']
   exact h1
  ·simp only [Zed,hx,Z7,ZJ,h3]
  ·simp only [zipE,mset,Zed,hx,hx',Z7,h4]
  simp only [Zed,hx,Z7]
  simpa [zipT] using h5
theorem Fp.mapApp {id sz bytes:Nat}(enc:α->List PC){x:Int}{e:α}{r:List α}{m:List (Int×List α)}{as:List AV}(hF:Fp H0 H f0 (fix++mapT id sz enc m as))(hl:as.length=m.length)(hr:appI bytes (Zhk m x []) [e]=some r) :
  H[id]?=some (.lp mapL [] (.mp 0 (zipE m as)))/\Za3 (mval sz m as x)=true/\∃ a1 H1 as' H2,appV H sz bytes (mval sz m as x) [enc e]=some (a1,H1)/\H1[id]?=some (.lp mapL [] (.mp 0 (zipE m as)))/\Zeb a1=true ∧
   as'.length=(Zed m x r).length/\H2=H1.set id (.lp mapL [] (.mp 0 (mset (zipE m as) [x] a1)))/\Fp H0 H2 f0 (fix++mapT id sz enc (Zed m x r) as'):=by
 have hid:H[id]?=some (.lp mapL [] (.mp 0 (zipE m as))):=hF.get fix.length (i:=mpT id 0 (zipE m as)) (by rw [Zy (Nat.le_refl _)];simp [mapT])
 have hF':Fp H0 H f0 ((fix++[mpT id 0 (zipE m as)])++zipT sz enc m as):=by simpa [mapT] using hF
 obtain ⟨a1,H1,as',h1,h2,h3,h4,h5⟩:=Zq7 enc hl hF' hr
 have hid1:H1[id]?=some (.lp mapL [] (.mp 0 (zipE m as))):=h5.get fix.length (i:=mpT id 0 (zipE m as)) (by rw [Zq,Zy (Nat.le_refl _)];simp)
 obtain ⟨H2,e2,h6⟩:=Fp.setMp (k:=fix.length) (id:=id) (kn:=0) (es:=zipE m as) h5 (by rw [Zq,Zy (Nat.le_refl _)];simp) (zipE (Zed m x r) as')
 refine ⟨hid,ZnX hF',a1,H1,as',H2,h1,hid1,h2,h3,by rw [h4];exact e2,?_⟩
 have e3:(fix++[mpT id 0 (zipE m as)]++zipT sz enc (Zed m x r) as').set fix.length (mpT id 0 (zipE (Zed m x r) as'))=fix++mapT id sz enc (Zed m x r) as':=by
  rw [Zq,ZT _ _ (Nat.le_refl _),Nat.sub_self];rfl
 rwa [e3] at h6
theorem Fp.mapNew {sz:Nat}(enc:α->List PC)(hF:Fp H0 H f0 items):∃ id H',id=H.length/\H'=H++[.lp mapL [] (.mp 0 [])]/\Fp H0 H' f0 (mapT id sz enc ([]:List (Int×List α)) []++items):=Fp.newMp hF 0
theorem ZyH {id sz kn:Nat}{enc:α->List PC}{m:List (Int×List α)}{as:List AV}{bs:List Nat}{clock:Nat}{seen:List Nat}{es:Ent}(hF:Fp H0 H f0 (fix++mapT id sz enc m as)) :
  HP (hIt H id mapL [] kn es bs clock seen) (fix++zipT sz enc m as):=by
 have hid:H[id]?=some (.lp mapL [] (.mp 0 (zipE m as))):=hF.get fix.length (i:=mpT id 0 (zipE m as)) (by rw [Zy (Nat.le_refl _)];simp [mapT])
 have h1:HP H (fix++zipT sz enc m as):=by
  have:=hF.now.drop fix.length
  rwa [List.eraseIdx_append_of_length_le (Nat.le_refl _),Nat.sub_self] at this
 refine h1.same λi hi q ho=>?_
 have hlt:=(h1.lies i hi).lt q ho
 have hne:q≠id:=by
  intro e
  subst e
  obtain ⟨j,hj,hji⟩:=List.getElem_of_mem hi
  have hk:(fix++mapT q sz enc m as)[fix.length]?=some (mpT q 0 (zipE m as)):=by rw [Zy (Nat.le_refl _)];simp [mapT]
  by_cases hjf:j<fix.length
  ·have h2:(fix++mapT q sz enc m as)[j]?=some i:=by
    rw [Zx hjf,← hji,List.getElem_append_left hjf,ZC hjf]
   exact hF.now.apart h2 hk (by omega) ho rfl
  have h2:(fix++mapT q sz enc m as)[j+1]?=some i:=by
   rw [Zy (by omega),← hji,List.getElem_append_right (by omega)]
   simp only [mapT]
   rw [show j+1-fix.length=(j-fix.length)+1 by omega,Zz,ZC]
  exact hF.now.apart h2 hk (by omega) ho rfl
 unfold hIt
 rw [Zx (by simpa using hlt),ZG (Ne.symm hne)]
theorem Zts {sz:Nat}{enc:α->List PC}:∀ {m:List (Int×List α)} {as:List AV},as.length=m.length->∀ (i:Nat) (p:List Int×AV),(zipE m as)[i]?=some p->∃ q,m[i]?=some q/\p.1=[q.1]/\(zipT sz enc m as)[i]?=some (.arr p.2 sz false (q.2.map enc))
 | [],[],_,i,p,h=>by simp [zipE] at h
 | [],_::_,hl,_,_,_=>by simp at hl
 | _::_,[],hl,_,_,_=>by simp at hl
 | q::m,a::as,hl,0,p,h=>by
  simp only [zipE,ZA,Z2] at h
  subst h
  exact ⟨q,rfl,rfl,rfl⟩
 | q::m,a::as,hl,i+1,p,h=>Zts (m:=m) (as:=as) (by simpa using hl) i p (by simpa [zipE] using h)
theorem ZqA:∀ {m:List (Int×List α)} {as:List AV},as.length=m.length->(zipE m as).length=m.length
 | [],[],_=>rfl
 | [],_::_,hl=>by simp at hl
 | _::_,[],hl=>by simp at hl
 | q::m,a::as,hl=>by simp only [zipE,ZJ];rw [ZqA (by simpa using hl)]
def rgF (f:List α->Option Bool):List (Int×List α)->Option Bool
 | []=>some false
 | p::m=>(f p.2).bind λb=>(rgF f m).bind λc=>some (b||c)
def Zo2 (f:List α->Option Bool)(m:List (Int×List α))(i:Nat):Bool:=match m[i]? with
 | some p=>f p.2==some true
 | none=>false
theorem Ztu {f:List α->Option Bool}:∀ {m:List (Int×List α)} {b:Bool},rgF f m=some b->(∀ (i:Nat) p,m[i]?=some p->∃ c,f p.2=some c)/\(List.range m.length).any (Zo2 f m)=b
 | [],b,h=>by simp only [rgF,Z2] at h;subst h;exact ⟨by simp,rfl⟩
 | p::m,b,h=>by
  obtain ⟨c,h1,h2⟩:=bind_some h
  obtain ⟨d,h3,h4⟩:=bind_some h2
  simp only [Z2] at h4
  obtain ⟨i1,i2⟩:=Ztu h3
  refine ⟨λi q hq=>?_,?_⟩
  ·cases i with
   | zero=>simp only [ZA,Z2] at hq;subst hq;exact ⟨c,h1⟩
   | succ i=>exact i1 i q (by simpa using hq)
  rw [ZJ,List.range_succ_eq_map,List.any_cons,List.any_map]
  have e1:Zo2 f (p::m) 0=c:=by
   unfold Zo2
   simp only [ZA,h1]
   cases c<;>rfl
  have e2:(Zo2 f (p::m)) ∘ Nat.succ=Zo2 f m:=by
   funext i
   simp only [Function.comp,Zo2,Zz]
  rw [e1,e2,i2,h4]
end
section
variable {P:Program} {n:Nat} {s s0 s1:St} {H H':List HO} {items:List Za9}
theorem HP.two (h:HP H items){i j:Nat}{x y:Za9}(hi:items[i]?=some x)(hj:items[j]?=some y)(hne:i≠j):HP H [x,y] :=
 ⟨h.get i hi,λid hx z hz hzo=>by
  simp only [ZP] at hz
  subst hz
  exact h.apart hi hj hne hx hzo,h.get j hj,by simp,trivial⟩
theorem HP.three (h:HP H items){i j k:Nat}{x y z:Za9}(hi:items[i]?=some x)(hj:items[j]?=some y)(hk:items[k]?=some z)(hij:i≠j)(hik:i≠k)(hjk:j≠k):HP H [x,y,z] :=
 ⟨h.get i hi,λid hx w hw hwo=>by
  rcases List.mem_cons.1 hw with rfl|hw
  ·exact h.apart hi hj hij hx hwo
  simp only [ZP] at hw
  subst hw
  exact h.apart hi hk hik hx hwo,h.two hj hk hjk⟩
theorem Zt6 {a:IC}{Q:Exit->St->Prop}(h:EvX P n a s Q):vc P n (.box a) Q s:=h
theorem Zt7 {a:IC}{Q:Exit->St->Prop}(s1:St)(he:s=s1)(h:vc P n a Q s1):vc P n a Q s:=he ▸ h
theorem ZtR {ops:List IOp}(h:(opsF Zkk ops s).isSome=true)(he:opsD ops s=s0):Zab P ops s s0:=he ▸ ZmO h
theorem Zt0 {id kn:Nat}{L:LC}{fr:List (Nat×AV)}{es:Ent}{bs:List Nat}{clock:Nat}{seen:List Nat}(hid:id<H.length):(hIt H id L fr kn es bs clock seen)[id]?=some (.lp L fr (.mps kn es bs clock)):=by
 unfold hIt
 rw [Zx (by simpa using hid),List.getElem?_set_self hid]
theorem ZyG {id kn:Nat}{L:LC}{fr:List (Nat×AV)}{es:Ent}{bs:List Nat}{clock:Nat}{seen:List Nat}:(hIt H id L fr kn es bs clock seen)[H.length]?=some (.lp itL [] (.it id clock seen clock)):=by
 unfold hIt
 rw [Zy (by simp)];simp
theorem ZsT {d id:Nat}{xs:List IX}{es:Ent}{x:Int}{zero r:AV}(hs:s.H=H)(hy:xs.map (ev s.fr)=[.map id,keyA 0 [x]])(hH:H[id]?=some (.lp mapL [] (.mp 0 es)))(hr:r=(Zjg es [x]).getD zero)(hno:Za3 r=true) :
  ZaM P (.sp (some d) (.mapGet 0 false zero) xs) s ⟨put s.fr d r,s.bx,s.H⟩:=by
 subst hs
 exact Zpf (d:=some d) hy hH rfl (by rw [hr];rfl) hno rfl
theorem ZsS {id:Nat}{xs:List IX}{es:Ent}{x:Int}{y:AV}(hs:s.H=H)(hy:xs.map (ev s.fr)=[.map id,keyA 0 [x],y])(hH:H[id]?=some (.lp mapL [] (.mp 0 es)))(hok:Zeb y=true)(hH':H'=H.set id (.lp mapL [] (.mp 0 (mset es [x] y)))) :
  ZaM P (.sp none (.mapSet 0) xs) s ⟨s.fr,s.bx,H'⟩:=by
 subst hs
 exact Zpe hy hH rfl hok (by rw [hH'])
theorem Zr1 {d:Nat}{xs:List IX}{id j kn i x:Nat}{L:LC}{fr:List (Nat×AV)}{es:Ent}{bs:List Nat}{clock:Nat}{seen:List Nat}{p:List Int×AV}(hs:s.H=H)(hx:xs.map (ev s.fr)=[.map j])(hi:es[i]?=some p)(hb:bs[i]?=some x)(hv:Zeb p.2=true)
  (hH:H[id]?=some (.lp L fr (.mps kn es bs clock))) (hJ:H[j]?=some (.lp itL [] (.it id clock (seen++[x]) clock))) :
  ZaM P (.sp (some d) .entry xs) s ⟨put s.fr d (.tup [keyA kn p.1,p.2]),s.bx,s.H⟩:=by
 subst hs
 exact ZsV hi hb hv hx hH hJ
end
end Go.Eng

