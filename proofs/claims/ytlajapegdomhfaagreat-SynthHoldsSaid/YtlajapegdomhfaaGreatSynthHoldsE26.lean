/-Part of the proof. -/
import Derived.Test.YtlajapegdomhfaaGreatSynthHoldsE18
import Derived.Laws.StructEq
import Derived.KernelRfl
import Derived.Laws.IdiomRangeMap
set_option linter.all false
namespace Go.Eng
open Go
theorem Ztw {α:Type}{l:List α}{i:Nat}{x:α}(h:l[i]?=some x):i<l.length:=(List.getElem?_eq_some_iff.1 h).1
section
variable {P:Program} {n:Nat} {g:G} {s:St} {a:Act} {w:World}
end
end Go.Eng

namespace Go.Eng
open Go
theorem Zue {α:Type}(n:Nat)(z:α)(l:List α)(h:l.length=n){m:List α}(e:m=(List.range n).map λi=>l.getD i z):m=l:=by
 subst e;apply List.ext_getElem?;intro i;rw[ZH];by_cases hi:i<n
 ·rw[List.getElem?_range hi,ZF (by omega)];simp[Zz,ZF (show i<l.length by omega)]
 rw[ZG (l:=List.range n) (by simp;omega),ZG (by omega)];rfl
theorem ZdU {α:Type}{l:List α}{i:Int}{e:α}(h:idx l i=some e):0<=i/\i.toNat<l.length/\l[i.toNat]?=some e:=by
 unfold idx at h;split at h
 ·rename_i h0;exact⟨h0,(List.getElem?_eq_some_iff.1 h).1,h⟩
 cases h
theorem ZsA {α:Type}{l:List α}{i:Int}{e:α}{t off n sz:Nat}{k:IntKind}(h:idx l i=some e)(hn:l.length=n):
  Za6 (.iaddr n sz) [.loc t off,.p (.int k i)]=some (.loc t (off+i.toNat*sz)):=by
 obtain⟨h0,h1,_⟩:=ZdU h;simp only[Za6];rw[Zaj ⟨h0,by omega⟩];rfl
theorem Zf1 {α:Type}{l:List α}{i:Int}{e:α}{t off n sz:Nat}{k:IntKind}(h:idx l i=some e)(hn:l.length=n):
  Za6 (.iaddr n sz) [.ptr t off,.p (.int k i)]=some (.ptr t (off+i.toNat*sz)):=by
 obtain⟨h0,h1,_⟩:=ZdU h;simp only[Za6];rw[Zaj ⟨h0,by omega⟩];rfl
theorem Zwu {α:Type}{l:List α}{i:Int}{e:α}{off:Nat}(f:α->AV)(pre post:List AV)(h:idx l i=some e)(hp:pre.length=off){cs:List AV}(hc:cs=pre++(l.map f++post)):
  sub (off+i.toNat*1) 1 cs=some [f e]:=by
 obtain⟨h0,h1,h2⟩:=ZdU h;subst hc hp;unfold sub;rw[Zaj (by simp;omega)];have e1:(pre++(l.map f++post))[pre.length+i.toNat*1]?=some (f e):=by
  rw[ZB (by omega),show pre.length+i.toNat*1-pre.length=i.toNat by omega,ZA (by simpa using h1),ZH,h2];rfl
 congr 1
 have:=List.drop_eq_getElem_cons (Ztw e1);rw[this];have e2:(pre++(l.map f++post))[pre.length+i.toNat*1]'(Ztw e1)=f e:=by
  rw[ZF (Ztw e1)]at e1;simpa using e1
 rw[e2];simp
theorem Znb {α:Type}{l:List α}{i:Int}{e y:α}{off:Nat}(f:α->AV)(pre post:List AV)(h:idx l i=some e)(hp:pre.length=off){cs vs cs':List AV}(hc:cs=pre++(l.map f++post))(hv:vs=[f y])
  (hc':cs'=pre++((l.set i.toNat y).map f++post)):ZbU (off+i.toNat*1) vs cs=some cs':=by
 obtain⟨h0,h1,h2⟩:=ZdU h;subst hc hp hv hc';unfold ZbU;rw[Zaj (by simp;omega)]
 congr 1
 rw[Nat.mul_one,List.take_append,Z4 (by omega),show pre.length+i.toNat-pre.length=i.toNat by omega,Z2 (by simp;omega)];simp only[Zs]
 congr 1
 rw[List.drop_append,List.drop_eq_nil_of_le (by simp;omega),ZY,show pre.length+i.toNat+[f y].length-pre.length=i.toNat+1 by simp;omega,
  List.drop_append_of_le_length (by simp;omega),←Zs,←Zs]
 congr 1
 rw[List.map_set,List.set_eq_take_append_cons_drop,Zaj (by simpa using h1)];simp
theorem Zuu {X Y:List AV}{pre post cs':List AV}(h:X=Y)(hc:cs'=pre++(X++post)):cs'=pre++(Y++post):=h▸hc
section
variable {P:Program} {n:Nat} {s:St}
theorem Zvs {α:Type}{l:List α}{i:Int}{e:α}{d t off:Nat}{x:IX}{cs:List AV}(f:α->AV)(pre post:List AV)(h:idx l i=some e)(hx:ev s.fr x=.loc t (off+i.toNat*1))(hb:bget s.bx t=some cs)
  (hc:cs=pre++(l.map f++post)) (hp:pre.length=off) (hok:ZdG (f e)=true:=by rfl):ZaH P (.loadL d x 1 false) s ⟨put s.fr d (f e),s.bx,s.H⟩:=by
 have hs:=Zwu f pre post h hp hc;simp only[ZaH,Za0,hx,rd,hb,Z8,hs,ZaL,hok,Bool.and_self,Zak,mk,Zaa,Zg,Zah]
theorem ZsK {α:Type}{l:List α}{i:Int}{e:α}{d id off:Nat}{x:IX}{cs:List AV}{H:List HO}(f:α->AV)(pre post:List AV)(h:idx l i=some e)(hs:s.H=H)(hx:ev s.fr x=.ptr id (off+i.toNat*1))(hl:Lies H (.cel id cs))
  (hc:cs=pre++(l.map f++post)) (hp:pre.length=off) (hok:ZdG (f e)=true:=by rfl):ZaH P (.load d x 1 false) s ⟨put s.fr d (f e),s.bx,s.H⟩:=by
 subst hs;have hl':s.H[id]?=some (.cells cs):=hl;have hs:=Zwu f pre post h hp hc;simp only[ZaH,Za0,hx,rd,hl',Z8,hs,ZaL,hok,Bool.and_self,Zak,mk,Zaa,Zg,Zah]
theorem Zwv {x y:IX}{m:Nat}{s':St}(h:ZaH P (.store x y m) s s')(hl:ZqP (ev s.fr x)=false):ZaH P (.storeH x y m) s s':=by
 simp only[ZaH,Za0]at h⊢;split at h
 ·rename_i hc;rw[Zaj ⟨hl,hc⟩];exact h
 cases h
theorem Fp.lit {α:Type}{H0 H:List HO}{f0 items:List ZaO}(sz:Nat)(l:List α)(enc:α->List PC)(hH:Fp H0 H f0 items):
  ∃a H',a=.osl sz H.length 0 0 (l.map enc).length/\H'=H++[.arr sz 0 false (l.map enc)]/\Fp H0 H' f0 (.arr a sz false (l.map enc)::items):=
 ⟨_,_,rfl,rfl,hH.new (.inr ⟨H.length,0,rfl,false,λ_=>rfl,by simp⟩) (λid ⟨_,_,_,_,e⟩=>by cases e;rfl)⟩
theorem Zov {d sz:Nat}{xs:List IX}{ys:List AV}{rows:List (List PC)}{H H':List HO}{a:AV}(hs:s.H=H)(hy:xs.map (ev s.fr)=ys)(hr:ZnK sz ys=some rows)(ha:a=.osl sz H.length 0 0 rows.length)(hH:H'=H++[.arr sz 0 false rows]):
  ZaH P (.litSl d sz xs) s ⟨put s.fr d a,s.bx,H'⟩:=by
 subst hs hy ha hH;simp only[ZaH,Za0,hr,Zaa]
end
end Go.Eng

namespace Go.Eng
open Go
theorem passC_nil' {fl:List Bool}{H:List HO}:ZmD fl H []=some ([],H):=rfl
theorem Zby {b:Bool}{fl:List Bool}{H H1 H2:List HO}{x x':AV}{xs xs':List AV}(h1:ZpA b H x=some (x',H1))(h2:ZmD fl H1 xs=some (xs',H2)):ZmD (b::fl) H (x::xs)=some (x'::xs',H2):=by
 simp only[ZmD,List.headD_cons,List.tail_cons,h1,Z8,h2,Zaa]
theorem ZcR {H:List HO}{c:AV}(h:ZaV c=true):ZpA true H c=some (c,H):=by simp[ZpA,h]
theorem Zhp {H H1:List HO}{c x:AV}(h:frz1 H c=some (x,H1)):ZpA false H c=some (x,H1):=by simpa[ZpA]using h
theorem Zho {fl:List Bool}{H H':List HO}{cs cs':List AV}(h:ZmD fl H cs=some (cs',H')):ZqL fl H (.agg cs)=some (.agg cs',H'):=by simp only[ZqL,h,Zaa]
theorem Zbs {H H':List HO}{x x':AV}(h:frzV H x=some (x',H')):ZqL [] H x=some (x',H'):=by rw[Ztd];exact h
theorem passL_nil' {fl:List (List Bool)}{H:List HO}:Znn fl H []=some ([],H):=rfl
theorem Za5 {b:List Bool}{fl:List (List Bool)}{H H1 H2:List HO}{x x':AV}{xs xs':List AV}(h1:ZqL b H x=some (x',H1))(h2:Znn fl H1 xs=some (xs',H2)):Znn (b::fl) H (x::xs)=some (x'::xs',H2):=by
 simp only[Znn,List.headD_cons,List.tail_cons,h1,Z8,h2,Zaa]
theorem ZdF {H:List HO}{a:AV}{sz:Nat}{frz:Bool}{rows:List (List PC)}(h:Lies H (.arr a sz frz rows)):ZaV a=true:=by
 rcases ZoA h with rfl|⟨_,_,rfl⟩<;>rfl
section
variable {P:Program} {n:Nat} {s:St}
theorem ZgE {d:Option Nat}{f:Nat}{xs:List IX}{ys args:List AV}{r:AV}{H H1 H':List HO}(hs:s.H=H)(hy:xs.map (ev s.fr)=ys)(fl:List (List Bool))(hf:Znn fl H ys=some (args,H1))(hc:ZbW P f args H1 r H'):ZaH P (.call d f xs) s ⟨putO s.fr d r,s.bx,H'⟩:=by
 subst hs hy;exact⟨args,H1,r,H',⟨fl,hf⟩,hc,rfl⟩
theorem Zqe {f:Nat}{F:IFn}(hk:chkF P f F=true){args:List AV}{H:List HO}(ids:List Nat)(K:AV->List HO->Prop)(hK:∀r H,K r H->ZaV r=true)(hl:args.length=F.nargs)(hno:noLocL args=true)
  (h:vc P F.nt F.body (endQ λs'=>∃xs,rawL (wS ids s') F.res=some xs/\K (ZcP xs) (weakH ids s'.H)) ⟨Zhy args 0,[],H⟩):∃r H',ZbW P f args H r H'/\K r H':=by
 obtain⟨e,s',h1,h2⟩:=vcd _ h;have key:(∃xs,rawL (wS ids s') F.res=some xs/\K (ZcP xs) (weakH ids s'.H))->(e=.normal∨e=.ret)->∃r H',ZbW P f args H r H'/\K r H':=by
  rintro⟨xs,x1,x3⟩ he;refine⟨ZcP xs,weakH ids s'.H,Zsr hk hl hno (hK _ _ x3) (EvI.weak ids (Zbd _ _ _ (Zcz _ (λe1 s1 q=>?_) h1))),x3⟩;obtain⟨q1,q2⟩:=q;subst q1 q2;rcases he with rfl|rfl
  ·exact⟨xs,x1,rfl,rfl⟩
  exact⟨xs,x1,rfl,rfl⟩
 cases e with
 |normal=>exact key h2 (.inl rfl)
 |ret=>exact key h2 (.inr rfl)
 |_=>exact h2.elim
theorem Zcb {f:Nat}{F:IFn}(hk:chkF P f F=true){args:List AV}{H H':List HO}{r:AV}(hl:args.length=F.nargs)(hno:noLocL args=true)(hr:ZaV r=true)
  (h:EvI P F.nt F.body ⟨Zhy args 0,[],H⟩ (endQ λs'=>∃xs,rawL s' F.res=some xs/\ZcP (weakVs xs)=r/\s'.H=H')):ZbW P f args H r H':=by
 unfold chkF at hk;split at hk
 ·rename_i fn hf;split at hk
  ·rename_i c hb;simp only[Ze,Zag,Zh]at hk;obtain⟨⟨⟨⟨hc,hres⟩,hna⟩,hnt⟩,hname⟩:=hk;refine⟨⟨fn,hf,by rw[hb];rfl,hname⟩,hr,λok0 ρ w vs hhr hv=>?_⟩;have hrel:=Zp0 (n:=fn.ntmps) hhr hv hno (by omega);refine Zsn (r:=none) (m:=0) (callsIn_of_wp_marks hf hb trivial (wpIn_mono (h c (by rw[←hnt];exact hc) _ _ _ _ (by rw[←hnt];exact hrel)) ?_));rintro e a' w' ⟨s',g',h1,h2⟩;have key:(∃xs,rawL s' F.res=some xs/\ZcP (weakVs xs)=r/\s'.H=H')->LeavesInM (FR none) 0 P fn a'.tmps (λe w'=>∃v' ρ',e=.returned v'/\HR (k0 ok0 ρ H w) ρ' H' w'/\VR (cx (k0 ok0 ρ H w) ⟨ρ',noB⟩ H' w') r v'∧
     Zbl (cx (k0 ok0 ρ H w) ⟨ρ,noB⟩ H w) (cx (k0 ok0 ρ H w) ⟨ρ',noB⟩ H' w')) a'.defers .returning w':=by
    rintro⟨xs,x1,rfl,rfl⟩;refine h1.leavesAll λw2 h2=>?_
    obtain⟨us,u1,u2⟩:=Zko (P:=P) h2 hres x1;refine⟨_,?_,_,g'.ρ,rfl,h2.toHR,VR.later h2.noBoxes _ _ hr (Zrw u2.weakVs),h2.hist.trans h2.noBoxes⟩;rw[Znf];have hm:(fn.results.mapM (m:=Sem) (resF a'.tmps)).run P w2=.ok us.toArray w2:=by
     rw[←Array.toArray_toList (xs:=fn.results),List.mapM_toArray,Sem.run_map,u1];rfl
    simp only[Sem.run_bind,hm,Result.andThen_ok,Sem.run_pure]
   cases e with
   |normal=>exact key h2
   |ret=>exact key h2
   |_=>exact h2.elim
  cases hk
 cases hk
theorem ZbL {res:List RV}{r:AV}{H:List HO}(h:(rawL s res).map (λxs=>ZcP (weakVs xs))=some r)(hH:s.H=H):∃xs,rawL s res=some xs/\ZcP (weakVs xs)=r/\s.H=H:=by
 cases hs:rawL s res with
 |none=>rw[hs]at h;cases h
 |some xs=>rw[hs]at h;exact⟨xs,rfl,by simpa using h,hH⟩
theorem Zsx {α:Type}{l r:List α}{sz:Nat}{f:Bool}{k k' k'':IntKind}{lo hi:Int}(enc:α->List PC)(h:subI l lo hi=some r):
  Za6 (.slice sz true true true) [.p (.sl sz f (l.map enc)),.p (.int k lo),.p (.int k' hi),.p (.int k'' hi)]=some (.p (.sl sz true (r.map enc))):=by
 obtain⟨h1,h2,h3,h4,h5⟩:=Zwt enc h;have h0:0<=hi:=by omega
 simp only[Za6,Zli,Zgd,Zak,Zaj h1,Zaj h0,Z8];rw[Zaj ⟨rfl,by omega,by simp;omega,trivial,trivial,λ_=>trivial⟩,h5]
end
end Go.Eng
namespace Go.Eng
open Go
theorem Zvi {H:List HO}:FrzC H [] []:=by rw[FrzC]
theorem Zdf {H:List HO}{c x:AV}{cs xs:List AV}(h1:frz1 H c=some (x,H))(h2:FrzC H cs xs):FrzC H (c::cs) (x::xs):=by rw[FrzC];exact⟨x,xs,rfl,h1,h2⟩
theorem Zvh {H:List HO}{cs xs:List AV}(h:FrzC H cs xs):FrzQ H (.agg cs) (.agg xs):=⟨xs,rfl,h⟩
theorem Zyt {H:List HO}:FrzL H [] []:=by rw[FrzL]
theorem ZtT {H:List HO}{c x:AV}{cs xs:List AV}(h1:FrzQ H c x)(h2:FrzL H cs xs):FrzL H (c::cs) (x::xs):=by rw[FrzL];exact⟨x,xs,rfl,h1,h2⟩
section
variable {P:Program} {s:St}
theorem ZxJ {d f:Nat}{xs:List IX}{ys args:List AV}{r:AV}{H:List HO}(hs:s.H=H)(hy:xs.map (ev s.fr)=ys)(hf:FrzL H ys args)(hc:Zle P f args r):ZaH P (.callQ d f xs) s ⟨put s.fr d r,s.bx,s.H⟩:=by
 subst hs hy;exact⟨args,r,hf,hc,rfl⟩
end
theorem Zye {H:List HO}{id sz ver:Nat}{f:Bool}{rows:List (List PC)}(hid:H[id]?=some (.arr sz ver f rows)){b x:AV}(h:frz1 H b=some (x,H)):
  frz1 (H.set id (.arr sz ver true rows)) b=some (x,H.set id (.arr sz ver true rows)):=by
 have hlt:=Ztw hid;unfold frz1 at h⊢;split at h
 ·simp only[Zab,Zac]at h;simp[h.1]
 ·simp only[Zab,Zac]at h;simp[h.1]
 ·simp only[Zab,Zac]at h;simp[h.1]
 ·split at h
  ·rename_i hc;simp only[Zab,Zac]at h;simp[hc,h.1]
  cases h
 ·simp only[Zab,Zac]at h;simp[h.1]
 ·simp only[Zab,Zac]at h;simp[h.1]
 ·rename_i sz0 id0 ver0 off len;split at h
  ·rename_i sz' ver' frz rows' hH;split at h
   ·rename_i hc;cases hs:sub off len rows' with
    |none=>simp[hs]at h
    |some r=>
     simp only[hs,Zaa,Zab,Zac]at h;by_cases e:id=id0
     ·subst e;rw[hid]at hH;simp only[Zab,HO.arr.injEq]at hH;obtain⟨rfl,rfl,rfl,rfl⟩:=hH;have:(H.set id (.arr sz ver true rows))[id]?=some (.arr sz ver true rows):=by simp[hlt]
      simp only[this];rw[Zaj hc];obtain⟨rfl,rfl⟩:=hc;simp only[hs,Zaa,Zab,Zac];exact⟨h.1,by rw[List.set_set]⟩
     have:(H.set id (.arr sz ver true rows))[id0]?=some (.arr sz' ver' frz rows'):=by rw[ZK e];exact hH
     simp only[this];rw[Zaj hc];simp only[hs,Zaa,Zab,Zac];exact⟨h.1,by rw[List.set_comm _ _ e,h.2]⟩
   cases h
  cases h
 cases h
theorem Fp.frzd {α:Type}{H0 H:List HO}{f0 items:List ZaO}{k:Nat}{a:AV}{sz:Nat}{frz:Bool}{l:List α}(enc:α->List PC)(hF:Fp H0 H f0 items)(hk:items[k]?=some (.arr a sz frz (l.map enc))):
  ∃H',frzV H a=some (.p (.sl sz false (l.map enc)),H')/\frz1 H' a=some (.p (.sl sz false (l.map enc)),H')/\(∀b x,frz1 H b=some (x,H)->frz1 H' b=some (x,H'))/\Fp H0 H' f0 (items.set k (.arr a sz true (l.map enc))):=by
 rcases hF.get k hk with⟨rfl,hl⟩|⟨id,ver,rfl,f,hf,hid⟩
 ·refine⟨H,by rw[hl];rfl,by rw[hl];rfl,λ_ _ h=>h,?_⟩;exact hF.step hk (.inl ⟨rfl,hl⟩) (λid ⟨_,_,_,_,e⟩=>by cases e) (λ_ _ _=>rfl) (Nat.le_refl _)
 have hlt:=Ztw hid;have e1:frz1 H (.osl sz id ver 0 (l.map enc).length)=some (.p (.sl sz false (l.map enc)),H.set id (.arr sz ver true (l.map enc))):=by
  simp only[frz1,hid,and_self,Zak,sub,Z7,Nat.le_refl,Zw,Z3,Zaa]
 have hid':(H.set id (.arr sz ver true (l.map enc)))[id]?=some (.arr sz ver true (l.map enc)):=by simp[hlt]
 refine⟨H.set id (.arr sz ver true (l.map enc)),e1,?_,λb x h=>Zye hid h,?_⟩
 ·simp only[frz1,hid',and_self,Zak,sub,Z7,Nat.le_refl,Zw,Z3,Zaa,List.set_set]
 refine hF.step hk (.inr ⟨id,ver,by simp,true,by simp,by simp[hlt]⟩) (λid' ⟨_,_,_,_,e⟩=>by cases e;exact .inl ⟨sz,ver,0,_,rfl⟩) (λid' hl' ho=>?_) (by simp);rw[ZK];intro e;subst e;exact ho ⟨sz,ver,0,_,rfl⟩
end Go.Eng

namespace Go.Eng
open Go Go.MapKept
abbrev Ent:=List (List Int×AV)
def Zla (es:Ent)(ks:List Int):Option AV:=(es.find? (λp=>decide (p.1=ks))).map (·.2)
def mset (es:Ent)(ks:List Int)(v:AV):Ent:=match es with
 |[]=>[(ks,v)]
 |p::r=>if p.1=ks then(ks,v)::r else p::mset r ks v
def keyA (kn:Nat)(ks:List Int):AV:=if kn=0 then .p (.int .i64 (ks.headD 0))else .agg (ks.map λn=>.p (.int .i64 n))
def fEnt:Ent->List MapEntry->List Int->Nat->Option (Nat×Value)
 |p::es,e::ents,ks,i=>if p.1=ks then some (i,e.val)else fEnt es ents ks (i+1)
 |_,_,_,_=>none
theorem ZwX {c:Cx}{kn:Nat}{ks:List Int}{v:Value}(h:VR c (keyA kn ks) v):v=keyV kn ks:=by
 unfold keyA at h;unfold keyV;split at h
 ·rename_i e;rw[Zaj e];exact ZcM h
 rename_i e;rw[Zai e];rw[VR]at h;obtain⟨vs,rfl,h⟩:=h
 congr 1
 have:vs=ks.map (Value.int .i64):=by
  clear e;induction ks generalizing vs with
  |nil=>rw[ZV,VRL]at h;exact h
  |cons x xs ih=>
   rw[ZU,VRL]at h;obtain⟨u,us,rfl,h1,h2⟩:=h;rw[ZcM h1,ih us h2];rfl
 rw[this]
theorem ZoI {c:Cx}:∀(ks:List Int),VRL c (ks.map λn=>.p (.int .i64 n)) (ks.map (Value.int .i64))
 |[]=>by simp[VRL]
 |x::xs=>by rw[ZU,ZU,VRL];exact⟨_,_,rfl,Zec _ _,ZoI xs⟩
theorem Zn2:∀(as bs:List Int),as.length=bs.length->∀ks:List Bool,ks=as.map (λ_=>true)→
  Zcw ks (as.map λn=>.p (.int .i64 n)) (bs.map λn=>.p (.int .i64 n))=some (decide (as=bs))
 |[],[],_,ks,e=>by subst e;rfl
 |a::as,b::bs,h,ks,e=>by
  subst e;have:=Zn2 as bs (by simpa using h) _ rfl;simp only[ZU,Zcw,Zak,this,Zaa]
  congr 1
  by_cases h1:a=b<;>by_cases h2:as=bs<;>simp[h1,h2]
 |[],_::_,h,_,_=>by simp at h
 |_::_,[],h,_,_=>by simp at h
section
variable {P:Program}
theorem Zn0 {w:World}{kk:IntKind}:∀(es:Ent) (ents:List MapEntry) (ks:List Int) (i:Nat),ents.map (·.key)=es.map (λp=>keyV 0 p.1)->(∀p∈es,p.1.length=1)->ks.length=1→
  Instr.findNow (.int kk) (keyV 0 ks) ents i=some (fEnt es ents ks i)
 |[],[],ks,i,_,_,_=>rfl
 |p::es,e::ents,ks,i,h,hl,hk=>by
  simp only[ZU,Zt]at h;obtain⟨x,hx⟩:=List.length_eq_one_iff.1 hk;obtain⟨y,hy⟩:=List.length_eq_one_iff.1 (hl p (by simp));have ih:=Zn0 (w:=w) (kk:=kk) es ents ks (i+1) h.2 (λq hq=>hl q (by simp[hq])) hk;unfold Instr.findNow fEnt;rw[h.1];subst hx;rw[hy];simp only[keyV,Zak,List.headD_cons,Instr.sameNow];by_cases e1:y=x
  ·subst e1;simp
  have e2:(x==y)=false:=by simp[Ne.symm e1]
  have e3:¬([y]=[x]):=by simp[e1]
  rw[Zai e3,e2];exact ih
 |[],_::_,_,_,h,_,_=>by simp at h
 |_::_,[],_,_,h,_,_=>by simp at h
theorem Zh4 {w:World}{kt:TypeId}{kn:Nat}(h0:kn≠0){ks0:List Bool}(hq:eqOK P kt ks0=true)(hks:ks0.length=kn)(ht:∀b∈ks0,b=true):
  ∀(es:Ent) (ents:List MapEntry) (ks:List Int) (i:Nat),ents.map (·.key)=es.map (λp=>keyV kn p.1)->(∀p∈es,p.1.length=kn)->ks.length=kn→
  (Instr.findAsking kt (keyV kn ks) ents i).run P w=.ok (fEnt es ents ks i) w
 |[],[],ks,i,_,_,_=>rfl
 |p::es,e::ents,ks,i,h,hl,hk=>by
  simp only[ZU,Zt]at h;have ih:=Zh4 (w:=w) h0 hq hks ht es ents ks (i+1) h.2 (λq hq=>hl q (by simp[hq])) hk;have hp:=hl p (by simp);have hks0:ks0=ks.map (λ_=>true):=by
   refine List.ext_getElem (by simp[hks,hk]) λj h1 h2=>?_
   simp[ht _ (List.getElem_mem h1)]
  have hrun:(Op.equal kt (keyV kn ks) (keyV kn p.1)).run P w=.ok (decide (ks=p.1)) w:=by
   simp only[keyV,Zai h0];exact Zlk (c:=⟨λ_=>True,w,[],[],noB⟩) hq (Zn2 ks p.1 (by rw[hk,hp]) ks0 hks0) (ZoI ks) (ZoI p.1)
  unfold Instr.findAsking fEnt;rw[h.1];simp only[Sem.run_bind,hrun,Result.andThen_ok];by_cases e1:p.1=ks
  ·rw[Zaj e1];simp[e1]
  have e2:¬ks=p.1:=λe=>e1 e.symm
  rw[Zai e1];simp only[e2,decide_false,Zg,Zah];exact ih
 |[],_::_,_,_,h,_,_=>by simp at h
 |_::_,[],_,_,h,_,_=>by simp at h
theorem ZpO {kt:TypeId}{kn:Nat}(h:Zum P kt kn=true):(kn=0/\∃kk,P.underlying kt=some (.int kk))∨
  (kn≠0/\∃fs ks0,P.underlying kt=some (.struct fs)/\eqOK P kt ks0=true/\ks0.length=kn/\(∀b∈ks0,b=true)/\ZdR P 0 fs.toList ks0=true):=by
 unfold Zum at h;split at h
 ·rename_i kk hu;exact .inl ⟨by simpa using h,kk,hu⟩
 ·rename_i fs hu;simp only[Ze,Zag]at h;obtain⟨⟨⟨h1,h2⟩,_⟩,h3⟩:=h;refine .inr ⟨h2,fs,_,hu,h3,by simp[h1],by simp,?_⟩;simp only[eqOK,Ze,hu]at h3;exact h3.1.1
 cases h
theorem Zqk {fs:Array Field}{a b:Value}:Instr.sameNow (.struct fs) a b=none:=by
 unfold Instr.sameNow;rfl
theorem Zlj {w:World}{kt:TypeId}{kn:Nat}(h:Zum P kt kn=true){es:Ent}{ents:List MapEntry}{ks:List Int}(he:ents.map (·.key)=es.map (λp=>keyV kn p.1))(hl:∀p∈es,p.1.length=klen kn)(hk:ks.length=klen kn):
  (Instr.findKey kt (keyV kn ks) ents).run P w=.ok (fEnt es ents ks 0) w:=by
 rcases ZpO h with⟨rfl,kk,hu⟩|⟨h0,fs,ks0,hu,hq,hks,ht,_⟩
 ·unfold Instr.findKey;simp only[Sem.run_bind,run_underlying hu,Result.andThen_ok,Zn0 (w:=w) es ents ks 0 he hl hk];rfl
 have hkl:klen kn=kn:=by simp[klen,h0]
 rw[hkl]at hl hk;have hask:=Zh4 (w:=w) h0 hq hks ht es ents ks 0 he hl hk;unfold Instr.findKey;simp only[Sem.run_bind,run_underlying hu,Result.andThen_ok];cases ents with
 |nil=>
  cases es with
  |nil=>rfl
  |cons=>simp at he
 |cons e ents=>
  unfold Instr.findNow;rw[Zqk];exact hask
theorem Zp2 {w:World}{m:Nat}{b0:Bool}:∀(fs:List Field) (ks0:List Bool) (off:Nat) (cs:Array Value) (ks:List Int),ZdR P off fs ks0=true->(∀b∈ks0,b=true)->cs.toList.drop off=ks.map (Value.int .i64)->ks.length=ks0.length→
  (forIn fs PUnit.unit λf (_:PUnit)=>(do
    if f.name ≠ "_" then
     let x←part f.type cs f.offset
     Instr.checkKey b0 (m+1) f.type x
     pure (ForInStep.yield PUnit.unit)
    else pure (ForInStep.yield PUnit.unit):Sem _)).run P w=.ok PUnit.unit w
 |[],ks0,off,cs,ks,_,_,_,_=>rfl
 |f::fs,k::ks0,off,cs,x::ks,hf,ht,hc,hl=>by
  simp only[ZdR,Ze,Zh,Zag,beq_eq_false_iff_ne]at hf;obtain⟨⟨⟨hn,ho⟩,hk⟩,hf⟩:=hf;obtain rfl:k=true:=ht k (by simp);have hxo:cs[f.offset]?=some (.int .i64 x):=by
   have:=congrArg (·[0]?) hc;simpa[ho]using this
  have hx':cs.toList.drop (off+1)=ks.map (Value.int .i64):=by
   have:=congrArg List.tail hc;simpa using this
  have ih:=Zp2 (w:=w) (m:=m) (b0:=b0) fs ks0 (off+1) cs ks hf (λb hb=>ht b (by simp[hb])) hx' (by simpa using hl);cases hty:P.underlying f.type with
  |none=>simp[hty]at hk
  |some T=>
   cases T<;>simp[hty]at hk;rename_i kk;have hpl:P.plainKey f.type=true:=by simp[Program.plainKey,hty]
   have h1:=run_part_plain (P:=P) w hpl hxo;simp only[List.forIn_cons,Sem.run_bind,hn,ne_eq,not_false_eq_true,Zak,h1,Result.andThen_ok,Instr.checkKey,run_underlying hty,Sem.run_pure];exact ih
 |_::_,[],_,_,_,hf,_,_,_=>by simp[ZdR]at hf
 |_::_,_::_,_,_,[],_,_,_,hl=>by simp at hl
theorem Zkb {w:World}{kt:TypeId}{kn:Nat}(h:Zum P kt kn=true){ks:List Int}(hk:ks.length=klen kn)(b:Bool)(m:Nat):
  (Instr.checkKey b (m+2) kt (keyV kn ks)).run P w=.ok () w:=by
 rcases ZpO h with⟨rfl,kk,hu⟩|⟨h0,fs,ks0,hu,hq,hks,ht,hfl⟩
 ·simp[Instr.checkKey,run_underlying hu,keyV]
 have hkl:ks.length=ks0.length:=by rw[hk,hks];simp[klen,h0]
 have:=Zp2 (w:=w) (m:=m) (b0:=b) fs.toList ks0 0 (ks.map (Value.int .i64)).toArray ks hfl ht (by simp) hkl;unfold Instr.checkKey;simp only[Sem.run_bind,run_underlying hu,Result.andThen_ok,keyV,Zai h0];rw[←Array.forIn_toList];simp only[ne_eq,ite_not,bind_pure_comp]at this⊢;rw[this];rfl
theorem Zx9 {kn:Nat}{a b:List Int}(ha:a.length=klen kn)(hb:b.length=klen kn)(h:keyV kn a=keyV kn b):a=b:=by
 unfold keyV klen at*;split at h
 ·rename_i e;rw[Zaj e]at ha hb;obtain⟨x,rfl⟩:=List.length_eq_one_iff.1 ha;obtain⟨y,rfl⟩:=List.length_eq_one_iff.1 hb;simpa using h
 simp only[Value.agg.injEq]at h;have h2:=congrArg Array.toList h;simp only[List.toList_toArray]at h2;refine List.map_inj_right (λx y e=>?_)|>.1 h2;simpa using e
theorem Zmk:∀(ks:List Int) (n:Nat),((ks.map (Value.int .i64)).zip (ks.map (Value.int .i64))).all (λ(x,y)=>Instr.sameBits n x y)=true
 |[],_=>rfl
 |x::xs,n=>by
  simp only[ZU,List.zip_cons_cons,List.all_cons,Ze];exact⟨by simp[Instr.sameBits],Zmk xs n⟩
theorem ZsM (kn:Nat)(ks:List Int)(n:Nat):Instr.sameBits (n+1) (keyV kn ks) (keyV kn ks)=true:=by
 unfold keyV;split
 ·simp[Instr.sameBits]
 have:=Zmk ks n;simp only[Instr.sameBits,beq_self_eq_true,Zk,List.toList_toArray];exact this
theorem ZsO {w:World}(kn:Nat)(ks:List Int):(Instr.keyThatStays (keyV kn ks) (keyV kn ks)).run P w=.ok (keyV kn ks) w:=by
 simp[Instr.keyThatStays,ZsM kn ks 9999]
theorem ZpZ {c:Cx}:∀{es:Ent} {ents:List MapEntry} {ks:List Int} {i:Nat},es.length=ents.length->fEnt es ents ks i=none->Zla es ks=none/\(∀p∈es,p.1≠ks)/\∀v,mset es ks v=es++[(ks,v)]
 |[],[],ks,i,_,_=>⟨rfl,by simp,λ_=>rfl⟩
 |p::es,e::ents,ks,i,hl,h=>by
  unfold fEnt at h;split at h
  ·cases h
  rename_i hne;obtain⟨h1,h2,h3⟩:=ZpZ (c:=c) (es:=es) (ents:=ents) (by simpa using hl) h;refine⟨?_,?_,λv=>?_⟩
  ·simp only[Zla,Zx,hne,decide_false]at h1⊢;exact h1
  ·intro q hq;rcases List.mem_cons.1 hq with rfl|hq
   ·exact hne
   exact h2 q hq
  simp only[mset,Zai hne,h3 v,Zu]
 |[],_::_,_,_,hl,_=>by simp at hl
 |_::_,[],_,_,hl,_=>by simp at hl
theorem ZpY {c:Cx}:∀{es:Ent} {ents:List MapEntry} {ks:List Int} {i j:Nat} {u:Value},VRL c (es.map (·.2)) (ents.map (·.val))->fEnt es ents ks i=some (j,u)→
  ∃x q e,Zla es ks=some x/\VR c x u/\j=i+q/\es[q]?=some (ks,x)/\ents[q]?=some e/\∀v,mset es ks v=es.set q (ks,v)
 |p::es,e::ents,ks,i,j,u,hv,h=>by
  simp only[ZU]at hv;rw[VRL]at hv;obtain⟨u0,us,e1,hv1,hv2⟩:=hv;simp only[Zt]at e1;obtain⟨rfl,rfl⟩:=e1;unfold fEnt at h;split at h
  ·rename_i hp;simp only[Zab,Zac]at h;obtain⟨rfl,rfl⟩:=h;refine⟨p.2,0,e,?_,hv1,rfl,?_,rfl,λv=>?_⟩
   ·simp[Zla,Zx,hp]
   ·simp[←hp]
   simp[mset,hp]
  rename_i hp;obtain⟨x,q,e',h1,h2,h3,h4,h5,h6⟩:=ZpY (es:=es) (ents:=ents) hv2 h;refine⟨x,q+1,e',?_,h2,by omega,by simpa using h4,by simpa using h5,λv=>?_⟩
  ·simp only[Zla,Zx,hp,decide_false]at h1⊢;exact h1
  simp[mset,hp,h6 v]
 |[],_,_,_,_,_,_,h=>by simp[fEnt]at h
 |_::_,[],_,_,_,_,_,h=>by simp[fEnt]at h
theorem Zx1 {kn:Nat}{es:Ent}{ks:List Int}{v:AV}(h:∀p∈es,p.1.length=klen kn)(hk:ks.length=klen kn):∀p∈mset es ks v,p.1.length=klen kn:=by
 induction es with
 |nil=>simpa[mset]using hk
 |cons p r ih=>
  unfold mset;intro q hq;split at hq
  ·rcases List.mem_cons.1 hq with rfl|hq
   ·exact hk
   exact h q (by simp[hq])
  rcases List.mem_cons.1 hq with rfl|hq
  ·exact h _ (by simp)
  exact ih (λp hp=>h p (by simp[hp])) q hq
theorem ZzQ {es:Ent}{ks:List Int}{v:AV}(h:ZaL (es.map (·.2))=true)(hv:ZdG v=true):ZaL ((mset es ks v).map (·.2))=true:=by
 induction es with
 |nil=>simp[mset,ZaL,hv]
 |cons p r ih=>
  simp only[ZU,ZaL,Ze]at h;unfold mset;split
  ·simp only[ZU,ZaL,hv,h.2,Bool.and_self]
  simp only[ZU,ZaL,h.1,ih h.2,Bool.and_self]
def mapL:LC:=⟨[],0,λ_ _=>True,true⟩
end
section
variable {P:Program} {k:K0} {n:Nat} {g:G} {s:St} {a:Act} {w:World}
theorem Rel.setMp (h:Rel k n g s a w){id l:Nat}{L:LC}{fr:List (Nat×AV)}{st st':LS}{es:Array MapEntry}{m:Nat}{o':Obj}(hH:s.H[id]?=some (.lp L fr st))(hρ:g.ρ[id]?=some l)(hr:w.heap[l]?=some (.map es m))
  (ho:Zbl (cx k g s.H w) (cx k g (s.H.set id (.lp L fr st')) (w.putObj l o'))->HoR (cx k g (s.H.set id (.lp L fr st')) (w.putObj l o')) l (.lp L fr st')):
  Rel k n g ⟨s.fr,s.bx,s.H.set id (.lp L fr st')⟩ a (w.putObj l o'):=by
 have u:Off w (w.putObj l o') l:=.put _ (λvs e f h=>by rw[hr]at h;cases h);have hget:=getElem?_set' (y:=HO.lp L fr st') hH;have hlt:l<w.heap.size:=(Array.getElem?_eq_some_iff.1 hr).1;have hl:Zbl (cx k g s.H w) (cx k g (s.H.set id (.lp L fr st')) (w.putObj l o')):=
  {stay:=λa x ho hc=>by
    refine⟨u.cell hc,ho.1,ho.2.1,λj hj=>?_⟩;obtain⟨sz,ver,rows,h1,h2⟩:=ho.2.2 j hj;refine⟨sz,ver,rows,?_,h2⟩;rw[hget,Zai (λe=>by subst e;rw[hH]at h1;cases h1)];exact h1
   arr:=λj sz ver frz rows e=>by
    have e':s.H[j]?=some (.arr sz ver frz rows):=e;refine⟨ver,frz,rows,?_,Nat.le_refl _,λ_=>⟨Nat.le_refl _,rfl,λb vs _ hb=>⟨vs,u.blk hb,rfl⟩⟩⟩;show(s.H.set id _)[j]?=_;rw[hget,Zai (λe1=>by subst e1;rw[hH]at e';cases e')];exact e'
   cells:=λj cs e=>by
    have e':s.H[j]?=some (.cells cs):=e;refine⟨⟨cs,?_⟩,rfl⟩;show(s.H.set id _)[j]?=_;rw[hget,Zai (λe1=>by subst e1;rw[hH]at e';cases e')];exact e'
   lp:=λj L' fr' st1 e=>by
    have e':s.H[j]?=some (.lp L' fr' st1):=e;refine⟨?_,rfl⟩;by_cases hj:id=j
    ·subst hj;rw[hH]at e';cases e';exact⟨st',by show(s.H.set id _)[id]?=_;rw[hget,Zaj rfl]⟩
    exact⟨st1,by show(s.H.set id _)[j]?=_;rw[hget,Zai hj];exact e'⟩}
 have hobj:∀b,b≠l->∀o,w.heap[b]?=some o->(w.putObj l o').heap[b]?=some o:=λb hb o ho=>(u.block b hb).trans ho
 exact
  {defers:=h.defers.mono λD _ hD=>hobj D (λe=>by subst e;rw[hr]at hD;cases hD) _ hD
   rnd:=λl' hl'=>by
    obtain⟨r1,h1⟩:=h.rnd l' hl';exact⟨r1,hobj l' (λe=>by subst e;rw[hr]at h1;cases h1) _ h1⟩
   tsz:=h.tsz
   slots:=λt=>Zbz hl (λ_ _ e=>e) (h.tops t) (h.slots t)
   tops:=h.tops
   boxes:=λt cs e=>let ⟨b,hb,hr'⟩:=h.boxes t cs e;⟨b,hb,hr'.later hl (hobj b (λe=>by
    subst e;obtain⟨_,vs,⟨et,hr'⟩,_⟩:=hr';rw[show w.heap[b]?=_ from hr']at hr;cases hr))⟩
   boxed:=h.boxed
   heap:=λj o e=>by
    simp only[hget]at e;by_cases hj:id=j
    ·subst hj;simp only[Zak,Zab]at e;subst e;exact⟨l,hρ,ho hl⟩
    simp only[hj,Zah]at e;obtain⟨b,hb,hr'⟩:=h.heap j o e;exact⟨b,hb,hr'.later hl (hobj b (λe=>hj (h.inj id j l hρ (by rw[←e];exact hb))))⟩
   len:=by simp[h.len]
   inj:=h.inj
   binj:=h.binj
   apart:=h.apart
   own:=h.own
   keep:=h.keep.off u (h.own id l hρ)
   hist:=h.hist.trans hl}
theorem Zvt {q:SpK}{s s':St}{d:Option Nat}{xs:List IX}{v:AV}{H':List HO}(hv:ZaV v=true)
  (h:∀(k:K0) (n:Nat) (g:G) (t:St) (a:Act) (w:World) (o:Oper) (d:Option Nat) (ys:List IX),ys.map (ev t.fr)=xs.map (ev s.fr)->t.H=s.H->Rel k n g t a w->ZmO P n o d q ys=true->Did P k n ⟨Eng.putO t.fr d v,t.bx,H'⟩ a w o)
  (hs:s'=⟨Eng.putO s.fr d v,s.bx,H'⟩):ZaH P (.sp d q xs) s s':=⟨v,H',⟨hv,h⟩,hs⟩
theorem ZpC (h:Rel k n g s a w){X:List Operand}{xs:List IX}{ys:List AV}(hm:Za7 X xs=true)(he:xs.map (ev s.fr)=ys):VRL (cx k g s.H w) ys (X.map a.eval):=by
 rw[←he];exact ZaU h hm
theorem ZxD {s s':St}{d:Option Nat}(kn:Nat)(hs:s'=⟨Eng.putO s.fr d (.map s.H.length),s.bx,s.H++[.lp mapL [] (.mp kn [])]⟩):ZaH P (.sp d .mkMap []) s s':=by
 refine Zvt rfl ?_ hs;intro k n g t a w o d ys _ hH h hc;rw[←hH];simp only[ZmO,Ze,Zag]at hc;obtain⟨⟨hd,hdn⟩,hc⟩:=hc;split at hc
 ·rename_i ty hop;have ho:HoR (cx k ⟨g.ρ++[w.heap.size],g.β⟩ (t.H++[.lp mapL [] (.mp kn [])]) (w.alloc (.map #[] 0))) w.heap.size (.lp mapL [] (.mp kn [])):=
   .inr ⟨rfl,rfl,(by simp),#[],0,World.alloc_heap_new w _,stamped_empty 0,rfl,(by simp[VRL])⟩
  obtain⟨h1,hl⟩:=h.newObjG (o:=.lp mapL [] (.mp kn [])) (.map #[] 0) ho;refine⟨.map (some w.heap.size),w.alloc (.map #[] 0),⟨g.ρ++[w.heap.size],g.β⟩,.inl ?_,?_⟩
  ·simp[execOp,hop,Instr.makeMap]
  rw[hd];refine h1.putO hdn ?_ rfl;rw[VR];refine⟨mapL,[],.mp kn [],w.heap.size,?_,rfl,?_,rfl⟩
  ·show(t.H++[_])[t.H.length]?=_;simp
  show(g.ρ++[_])[t.H.length]?=_;rw[←h.len];simp
 cases hc
def mres (ok:Bool)(es:Ent)(ks:List Int)(zero:AV):AV:=if ok then .tup [(Zla es ks).getD zero,.p (.bool (Zla es ks).isSome)]else(Zla es ks).getD zero
theorem Rel.theMp (h:Rel k n g s a w){id:Nat}{L:LC}{fr:List (Nat×AV)}{kn:Nat}{es:Ent}(hH:s.H[id]?=some (.lp L fr (.mp kn es))){v:Value}(hv:VR (cx k g s.H w) (.map id) v)(hn:L.n=0):
  L.mpk=true/\∃b,g.ρ[id]?=some b/\v=.map (some b)/\MpR (cx k g s.H w) b (.mp kn es):=by
 rw[VR]at hv;obtain⟨L',fr',st',b,h1,h2,h3,h4⟩:=hv;have h1':s.H[id]?=some (.lp L' fr' st'):=h1;rw[hH]at h1';cases h1';obtain⟨b',hb',hq⟩:=h.heap id _ hH;have h3':g.ρ[id]?=some b:=h3;rw[h3']at hb';cases hb';rcases hq with⟨q,_⟩|⟨_,q⟩
 ·rw[h2]at q;cases q
 exact⟨h2,b,h3',by rw[h4,mapV,Zaj hn],q⟩
theorem ZsJ {s s':St}{d:Option Nat}{xs:List IX}{id kn:Nat}{L:LC}{fr:List (Nat×AV)}{es:Ent}{ks:List Int}{ok:Bool}{zero r:AV}(hy:xs.map (ev s.fr)=[.map id,keyA kn ks])
  (hH:s.H[id]?=some (.lp L fr (.mp kn es))) (hk:ks.length=klen kn) (hr:r=mres ok es ks zero) (hno:ZaV r=true) (hs:s'=⟨Eng.putO s.fr d r,s.bx,s.H⟩) (hn:L.n=0:=by rfl):ZaH P (.sp d (.mapGet kn ok zero) xs) s s':=by
 refine Zvt hno ?_ hs;intro k n g t a w o d ys hys hHt h hc;rw[hy]at hys;rw[←hHt]at hH⊢;simp only[ZmO,Ze,Zag]at hc;obtain⟨⟨hd,hdn⟩,hc⟩:=hc;split at hc
 ·rename_i ty X Y ok' hop;simp only[Ze,Zag]at hc;obtain⟨⟨rfl,hty⟩,hm⟩:=hc;split at hty
  ·rename_i kt et hu;simp only[Ze]at hty;obtain⟨hkey,hz⟩:=hty;obtain⟨u1,u2,e,v1,v2⟩:=Zgt (ZpC h hm hys);simp only[ZU,ZV,Zt,Zad]at e;have e2:=ZwX v2;obtain⟨_,b,hb,e1,hok,hlen,ents,clock,q1,q2,q3,q4⟩:=h.theMp hH v1 hn;have hz':∃z,(zeroValue et).run P w=.ok z w/\VR (cx k g t.H w) zero z:=by
    split at hz
    ·rename_i i hi;split at hz
     ·rename_i z hz0;exact⟨z,by simp[zeroValue,typeInfo,hi,hz0],(Zk4 hz).1⟩
     cases hz
    cases hz
   obtain⟨z,hz1,hz2⟩:=hz';have hgo:(getObj b).run P w=.ok (.map ents clock) w:=MapKept.run_getObj_map (w:=w) q1;have hck:=Zkb (w:=w) hkey hk ents.isEmpty 9998;have hfk:=Zlj (w:=w) hkey q3 hlen hk;have hrun:∀u:Value,u=(match fEnt es ents.toList ks 0 with
     |some (_,v)=>if ok then Value.tuple #[v,.bool true]else v
     |none=>if ok then Value.tuple #[z,.bool false]else z)->(execOp a.eval o).run P w=.ok (.value u) w:=by
    intro u hu';simp only[execOp,hop,e.1,e.2,e1,e2,Instr.lookup,Sem.run_bind,run_underlying hu,Result.andThen_ok,hgo,hck,hfk,Sem.run_pure];subst hu';cases hf:fEnt es ents.toList ks 0 with
    |none=>cases ok<;>simp[hz1]
    |some p=>cases ok<;>simp
   have hlen2:es.length=ents.toList.length:=by
    have:=congrArg List.length q3;simpa using this.symm
   refine⟨_,w,g,.inl (hrun _ rfl),?_⟩;rw[hd];refine h.putO hdn ?_ (ZaP hno);subst hr;cases hf:fEnt es ents.toList ks 0 with
   |none=>
    obtain⟨m1,_,_⟩:=ZpZ (c:=cx k g t.H w) hlen2 hf;unfold mres;rw[m1];cases ok
    ·exact hz2
    simp only[Zak];rw[VR];exact⟨[z,.bool false],rfl,by rw[VRL];exact⟨_,_,rfl,hz2,by rw[VRL];exact⟨_,_,rfl,Zes _,by rw[VRL]⟩⟩⟩
   |some p=>
    obtain⟨j,u⟩:=p;obtain⟨x,q,e',m1,m2,_⟩:=ZpY q4 hf;unfold mres;rw[m1];cases ok
    ·exact m2
    simp only[Zak];rw[VR];exact⟨[u,.bool true],rfl,by rw[VRL];exact⟨_,_,rfl,m2,by rw[VRL];exact⟨_,_,rfl,Zes _,by rw[VRL]⟩⟩⟩
  cases hty
 cases hc
theorem Zxn {c:Cx}:∀{xs:List AV} {us:List Value} (q:Nat) {x:AV} {u:Value},VRL c xs us->VR c x u->VRL c (xs.set q x) (us.set q u)
 |[],us,q,x,u,h,_=>by rw[VRL]at h;subst h;simp[VRL]
 |y::ys,us,q,x,u,h,hx=>by
  rw[VRL]at h;obtain⟨v,vs,rfl,h1,h2⟩:=h;cases q with
  |zero=>rw[List.set_cons_zero,List.set_cons_zero,VRL];exact⟨_,_,rfl,hx,h2⟩
  |succ q=>rw[List.set_cons_succ,List.set_cons_succ,VRL];exact⟨_,_,rfl,h1,Zxn q h2 hx⟩
theorem Zr7 {α:Type}(f:α->α)(y:α)(es:Array α)(q:Nat)(hq:∀e,es[q]?=some e->f e=y):(es.modify q f).toList=es.toList.set q y:=by
 apply List.ext_getElem?;intro j;rw[ZJ,Array.getElem?_toList,Array.getElem?_modify,Array.getElem?_toList];by_cases e:q=j
 ·subst e;simp only[Zak];by_cases hlt:q<es.size
  ·have:=hq es[q] (Zb hlt);simp[hlt,this]
  simp[hlt]
 simp[e]
theorem ZsI {s s':St}{xs:List IX}{id kn:Nat}{L:LC}{fr:List (Nat×AV)}{es:Ent}{ks:List Int}{v:AV}(hy:xs.map (ev s.fr)=[.map id,keyA kn ks,v])
  (hH:s.H[id]?=some (.lp L fr (.mp kn es))) (hk:ks.length=klen kn) (hok:ZdG v=true) (hs:s'=⟨s.fr,s.bx,s.H.set id (.lp L fr (.mp kn (mset es ks v)))⟩) (hn:L.n=0:=by rfl):ZaH P (.sp none (.mapSet kn) xs) s s':=by
 refine Zvt (v:=.any) (d:=none) rfl ?_ hs;intro k n g t a w o d ys hys hHt h hc;rw[hy]at hys;rw[←hHt]at hH⊢;simp only[ZmO,Ze,Zag]at hc;obtain⟨⟨hd,hdn⟩,hc⟩:=hc;have main:∀(ty:TypeId) (X Y Z:Operand),((execOp a.eval o)=(do Instr.mapUpdate ty (a.eval X) (a.eval Y) (a.eval Z);pure .skip))→
   ((match P.underlying ty with|some (.map kt _)=>Zum P kt kn|_=>false)&&Za7 [X,Y,Z] ys)=true->Did P k n ⟨Eng.putO t.fr d .any,t.bx,t.H.set id (.lp L fr (.mp kn (mset es ks v)))⟩ a w o:=by
  intro ty X Y Z hop hc;simp only[Ze]at hc;obtain⟨hty,hm⟩:=hc;split at hty
  ·rename_i kt et hu;obtain⟨u1,u2,u3,e,v1,v2,v3⟩:=ZmU (ZpC h hm hys);simp only[ZU,ZV,Zt,Zad]at e;have e2:=ZwX v2;obtain⟨hmk,b,hb,e1,hokc,hlen,ents,clock,q1,q2,q3,q4⟩:=h.theMp hH v1 hn;have q1':w.heap[b]?=some (.map ents clock):=q1;have hgo:(getObj b).run P w=.ok (.map ents clock) w:=MapKept.run_getObj_map (w:=w) q1;have hck:=Zkb (w:=w) hty hk false 9998;have hfk:=Zlj (w:=w) hty q3 hlen hk;have hlen2:es.length=ents.toList.length:=by
    have:=congrArg List.length q3;simpa using this.symm
   have hlt:b<w.heap.size:=(Array.getElem?_eq_some_iff.1 q1').1;have fin:∀(ents':Array MapEntry) (clock':Nat),(execOp a.eval o).run P w=.ok .skip (w.putObj b (.map ents' clock'))->Stamped ents' clock'->ents'.toList.map (·.key)=(mset es ks v).map (λp=>keyV kn p.1)→
     VRL (cx k g t.H w) ((mset es ks v).map (·.2)) (ents'.toList.map (·.val))->Did P k n ⟨Eng.putO t.fr d .any,t.bx,t.H.set id (.lp L fr (.mp kn (mset es ks v)))⟩ a w o:=by
    intro ents' clock' hrun hst hkeys hvals;have hokm:=ZzQ (ks:=ks) hokc hok;have h1:=h.setMp (o':=.map ents' clock') (st':=.mp kn (mset es ks v)) hH hb q1' (λhl=>.inr ⟨hmk,hokm,Zx1 hlen hk,ents',clock',World.putObj_heap_same hlt,hst,hkeys,VRL.later hl _ _ (ZaM hokm) hvals⟩);refine⟨undef,_,g,.inr ⟨hrun,rfl⟩,?_⟩;rw[hd];exact h1.putO hdn (by simp[VR]) rfl
   cases hf:fEnt es ents.toList ks 0 with
   |none=>
    obtain⟨_,m2,m3⟩:=ZpZ (c:=cx k g t.H w) hlen2 hf;refine fin (ents.push {key:=keyV kn ks,val:=u3,born:=clock}) (clock+1) ?_ (stamped_push q2 λx hx e3=>?_) ?_ ?_
    ·rw[hop];simp only[e.1,e.2.1,e.2.2,e1,e2,Instr.mapUpdate,Sem.run_bind,run_underlying hu,Result.andThen_ok,hgo,hck,hfk,hf,run_setObj_map _ q1',Sem.run_pure];rfl
    ·obtain⟨i,hi,e4⟩:=List.getElem_of_mem hx;have e5:(ents.toList.map (·.key))[i]?=some (keyV kn ks):=by rw[ZH,ZF hi,Zaa,e4,e3]
     rw[q3,ZH]at e5;cases e6:es[i]? with
     |none=>rw[e6]at e5;cases e5
     |some p=>
      rw[e6,Zaa,Zab]at e5;have hp:=List.mem_of_getElem? e6;exact m2 p hp (Zx9 (hlen p hp) hk e5)
    ·rw[m3];simp[q3]
    rw[m3];simp only[ZT,ZU,ZV,Array.toList_push];exact ZiL q4 (by rw[VRL];exact⟨_,_,rfl,v3,by rw[VRL]⟩)
   |some p=>
    obtain⟨j,u⟩:=p;obtain⟨x,q,e',m1,m2,m3,m4,m5,m6⟩:=ZpY q4 hf;have hj:j=q:=by omega
    subst hj;have m5':ents[j]?=some e':=by rw[←Array.getElem?_toList];exact m5
    have hkey:e'.key=keyV kn ks:=by
     have e5:(ents.toList.map (·.key))[j]?=some e'.key:=by rw[ZH,m5,Zaa]
     rw[q3,ZH,m4,Zaa,Zab]at e5;exact e5.symm
    have hmod:(ents.modify j λe=>{e with key:=keyV kn ks,val:=u3}).toList=ents.toList.set j {e' with key:=keyV kn ks,val:=u3}:=
     Zr7 _ _ _ _ (λe0 he0=>by rw[m5']at he0;cases he0;rfl)
    refine fin (ents.modify j λe=>{e with key:=keyV kn ks,val:=u3}) clock ?_ (stamped_modify q2 _ _ (λ_ _=>rfl) (λe0 _ he0=>by rw[m5']at he0;cases he0;exact hkey.symm)) ?_ ?_
    ·rw[hop];simp only[e.1,e.2.1,e.2.2,e1,e2,Instr.mapUpdate,Sem.run_bind,run_underlying hu,Result.andThen_ok,hgo,hck,hfk,hf,m5',Zaa,Z9,hkey,ZsO,run_setObj_map _ q1',Sem.run_pure];rfl
    ·rw[hmod,m6,List.map_set,List.map_set,q3]
    rw[hmod,m6,List.map_set,List.map_set];exact Zxn j q4 v3
  cases hty
 split at hc
 ·rename_i ty X Y Z hop;exact main ty X Y Z (by simp[execOp,hop]) hc
 ·rename_i ty X Y Z hop;exact main ty X Y Z (by simp[execOp,hop]) hc
 cases hc
end
end Go.Eng

namespace Go.Eng
open Go Go.MapKept
theorem ZtA:∀(us:List Value) (st:Nat) (cells:Array Value),(∀u∈us,u.oneCell'=true)->st+us.length=cells.size→
  ∃arr,Instr.fill (λi=>some (i*1,1)) cells ((List.range' st us.length).zip us)=some arr/\arr.toList=cells.toList.take st++us
 |[],st,cells,_,hs=>⟨cells,rfl,by simp only[ZP,Nat.add_zero]at hs;rw[hs,←Zd,Z3,List.append_nil]⟩
 |u::us,st,cells,h1,hs=>by
  have hu:u.cells=#[u]:=by have:=h1 u (by simp);cases u<;>simp_all[Value.cells,Value.oneCell']
  simp only[ZN]at hs;have hlt:st<cells.size:=by omega
  obtain⟨arr,a1,a2⟩:=ZtA us (st+1) (cells.setIfInBounds st u) (λv hv=>h1 v (by simp[hv])) (by simp;omega);refine⟨arr,?_,?_⟩
  ·simp only[ZN,ZZ,List.zip_cons_cons,Instr.fill,hu,Nat.mul_one];rw[Zai (by simp;omega)];simpa using a1
  rw[a2,Array.toList_setIfInBounds,List.take_set,Z5 (by simpa using hlt)];rw[Z1 _ _ (by simp;omega)];simp[Nat.min_eq_left (Nat.le_of_lt hlt)]
section
variable {P:Program} {k:K0} {n:Nat} {g:G} {s:St} {a:Act} {w:World}
theorem ZxP (h:Rel k n g s a w){t:TypeId}{len:Nat}{parts:Array (Nat×Operand)}{xs:List IX}(hl:Zul P t 1 len parts.toList=true)(hm:Za7 (parts.toList.map (·.2)) xs=true)
  (hok:ZaL (xs.map (ev s.fr))=true):
  ∃vs e,(Instr.buildSlice t len (parts.map λ(i,x)=>(i,a.eval x))).run P w=.ok (.slice (some ⟨w.heap.size,0,none⟩) xs.length xs.length) (w.alloc (.cells vs e))/\VRL (cx k g s.H w) (xs.map (ev s.fr)) vs.toList:=by
 simp only[Zul,Ze,Zag]at hl;obtain⟨⟨hty,hix⟩,hsmall⟩:=hl;have hv:=ZaU h hm;have hplen:parts.toList.length=len:=by
  have:=congrArg List.length hix;simpa using this
 have hxl:xs.length=len:=by
  have:=hv.length;simp only[ZO]at this;omega
 split at hty
 ·rename_i e ht;simp only[Ze]at hty;obtain⟨hsz,hty⟩:=hty;split at hty
  ·rename_i i hi;split at hty
   ·rename_i z hz;simp only[Zag]at hty;have hzv:(zeroValue e).run P w=.ok z w:=by simp[zeroValue,typeInfo,hi,hz]
    generalize hus:(parts.toList.map (·.2)).map a.eval=us at hv;have hul:us.length=len:=by rw[←hus];simpa using hplen
    generalize hcells:(Array.range (len*1)).map ((if len*1=0 then #[]else z.cells)[· %(if len*1=0 then #[]else z.cells).size]!)=cells;have hcsz:cells.size=len:=by rw[←hcells];simp
    obtain⟨arr,a1,a2⟩:=ZtA us 0 cells (Zkv hok hv) (by omega);simp only[List.take_zero,ZY]at a2;refine⟨arr,e,?_,by rw[a2];exact hv⟩;have elist:(parts.map λ(p:Nat×Operand)=>(p.1,a.eval p.2)).toList=(List.range' 0 us.length).zip us:=by
     have e1:List.range' 0 us.length=parts.toList.map (·.1):=by rw[hix,hul,Z0]
     rw[e1,←hus,Array.toList_map,List.map_map,List.zip_map'];rfl
    have hsz':=Zc5 (P:=P) (w:=w) hsz;have hn:¬(16777216<len*1):=by omega
    unfold Instr.buildSlice;by_cases h0:len*1=0
    ·simp only[h0,Zak]at hcells;simp only[Sem.run_bind,run_underlying ht,Result.andThen_ok,hsz',h0,Zak,Sem.run_pure,Nat.not_lt_zero,gt_iff_lt,Zah];rw[elist,hcells,a1];simp[newRow,hxl]
    simp only[h0,Zah]at hcells;simp only[Sem.run_bind,run_underlying ht,Result.andThen_ok,hsz',h0,Zah,Sem.run_pure,gt_iff_lt,hzv,show(2 ^ 24:Nat)=16777216 from rfl,hn];rw[elist,hcells,a1];simp[newRow,hxl]
   cases hty
  cases hty
 cases hty
theorem ZxH {s s':St}{d:Option Nat}{xs:List IX}{ys:List AV}(hy:xs.map (ev s.fr)=ys)(hok:ZaL ys=true)(hs:s'=⟨Eng.putO s.fr d (.csl s.H.length ys.length),s.bx,s.H++[.cells ys]⟩):ZaH P (.sp d .litC xs) s s':=by
 refine Zvt rfl ?_ hs;intro k n g t a w o d xs' hys hH h hc;rw[hy]at hys;rw[←hH];simp only[ZmO,Ze,Zag]at hc;obtain⟨⟨hd,hdn⟩,hc⟩:=hc;split at hc
 ·rename_i ty len parts hop;simp only[Ze]at hc;obtain⟨vs,e,hrun,hv⟩:=ZxP h hc.1 hc.2 (by rw[hys];exact hok);rw[hys]at hv;have hxl:xs'.length=ys.length:=by rw[←hys];simp
  rw[hxl]at hrun;have hl:=h.laterNewG (o:=.cells ys) (.cells vs e);have ho:HoR (cx k ⟨g.ρ++[w.heap.size],g.β⟩ (t.H++[.cells ys]) (w.alloc (.cells vs e))) w.heap.size (.cells ys):=
   ⟨hok,vs,⟨e,World.alloc_heap_new w _⟩,VRL.later hl _ _ (ZaM hok) hv⟩
  obtain⟨h1,_⟩:=h.newObjG (o:=.cells ys) (.cells vs e) ho;refine⟨.slice (some ⟨w.heap.size,0,none⟩) ys.length ys.length,w.alloc (.cells vs e),⟨g.ρ++[w.heap.size],g.β⟩,.inl ?_,?_⟩
  ·simp only[execOp,hop,Sem.run_bind];rw[hrun];rfl
  rw[hd];refine h1.putO hdn ?_ rfl;rw[VR];refine⟨ys,w.heap.size,?_,?_,rfl⟩
  ·show(t.H++[_])[t.H.length]?=_;simp
  show(g.ρ++[_])[t.H.length]?=_;rw[←h.len];simp
 cases hc
theorem Zy0 {d:Nat}{xs:List IX}{ys:List AV}{id:Nat}{H H':List HO}(hs:s.H=H)(hy:xs.map (ev s.fr)=ys)(hok:ZaL ys=true)(hid:id=H.length)(hH:H'=H++[.cells ys]):
  ZaH P (.sp (some d) .litC xs) s ⟨put s.fr d (.csl id ys.length),s.bx,H'⟩:=by
 subst hs hid hH;exact ZxH hy hok rfl
def Zto {κ υ:Type}[DecidableEq κ](l:List (κ×υ))(x:κ):Option υ:=(l.find? (λp=>decide (p.1=x))).map (·.2)
def Zio {κ υ:Type}[DecidableEq κ](l:List (κ×υ))(x:κ)(z:υ):υ:=(Zto l x).getD z
def Zd6 {κ υ:Type}[DecidableEq κ](l:List (κ×υ))(x:κ)(v:υ):List (κ×υ):=match l with
 |[]=>[(x,v)]
 |p::r=>if p.1=x then(x,v)::r else p::Zd6 r x v
def encE {κ υ:Type}(ke:κ->List Int)(ve:υ->AV)(l:List (κ×υ)):Ent:=l.map λp=>(ke p.1,ve p.2)
class KeyE (κ:Type) (kn:Nat) (ke:κ->List Int):Prop where
 len:∀x,(ke x).length=klen kn
 inj:∀x y,ke x=ke y->x=y
def ke1 (x:Int):List Int:=[x]
instance:KeyE Int 0 ke1:=⟨λ_=>rfl,λx y h=>by simpa[ke1]using h⟩
theorem ZwS {κ υ:Type}[DecidableEq κ]{kn:Nat}{ke:κ->List Int}(hk:KeyE κ kn ke)(ve:υ->AV)(l:List (κ×υ))(x:κ):Zla (encE ke ve l) (ke x)=(Zto l x).map ve:=by
 induction l with
 |nil=>rfl
 |cons p r ih=>
  by_cases e:p.1=x
  ·simp[Zla,Zto,encE,e]
  have e2:¬ke p.1=ke x:=λh=>e (hk.inj _ _ h)
  simp only[Zla,Zto,encE,ZU,Zx,e,e2,decide_false]at ih⊢;exact ih
theorem Zx2 {κ υ:Type}[DecidableEq κ]{kn:Nat}{ke:κ->List Int}(hk:KeyE κ kn ke)(ve:υ->AV)(l:List (κ×υ))(x:κ)(v:υ):mset (encE ke ve l) (ke x) (ve v)=encE ke ve (Zd6 l x v):=by
 induction l with
 |nil=>rfl
 |cons p r ih=>
  by_cases e:p.1=x
  ·simp[mset,Zd6,encE,e]
  have e2:¬ke p.1=ke x:=λh=>e (hk.inj _ _ h)
  simp only[encE]at ih;simp only[mset,Zd6,encE,ZU,e,e2,Zah,ih]
abbrev mpT (id kn:Nat) (es:Ent):ZaO:=.lp id mapL [] (.mp kn es)
theorem st_mkMap' {d:Nat}(kn:Nat){id:Nat}{H H':List HO}(hs:s.H=H)(hid:id=H.length)(hH:H'=H++[.lp mapL [] (.mp kn [])]):
  ZaH P (.sp (some d) .mkMap []) s ⟨put s.fr d (.map id),s.bx,H'⟩:=by
 subst hs hid hH;exact ZxD kn rfl
theorem ZyZ {κ υ:Type}[DecidableEq κ]{d:Nat}{xs:List IX}{id kn:Nat}{ke:κ->List Int}[hk:KeyE κ kn ke]{ve:υ->AV}{l:List (κ×υ)}{x:κ}{z:υ}{zero:AV}{H:List HO}{r:AV}(hs:s.H=H)(hy:xs.map (ev s.fr)=[.map id,keyA kn (ke x)])
  (hl:Lies H (mpT id kn (encE ke ve l))) (hz:zero=ve z) (hr:r=ve (Zio l x z)) (hno:∀v,ZaV (ve v)=true):
  ZaH P (.sp (some d) (.mapGet kn false zero) xs) s ⟨put s.fr d r,s.bx,s.H⟩:=by
 subst hs;refine ZsJ hy hl (hk.len x) (by rw[mres,ZwS hk];simp only[Zg,Zah];rw[hr,hz,Zio];cases Zto l x<;>rfl) (by rw[hr];exact hno _) rfl
theorem ZyY {κ υ:Type}[DecidableEq κ]{xs:List IX}{id kn:Nat}{ke:κ->List Int}[hk:KeyE κ kn ke]{ve:υ->AV}{l:List (κ×υ)}{x:κ}{v:υ}{y:AV}{H H':List HO}(hs:s.H=H)(hy:xs.map (ev s.fr)=[.map id,keyA kn (ke x),y])
  (hl:Lies H (mpT id kn (encE ke ve l))) (hv:y=ve v) (hok:ZdG y=true) (hH:H'=H.set id (.lp mapL [] (.mp kn (encE ke ve (Zd6 l x v))))):
  ZaH P (.sp none (.mapSet kn) xs) s ⟨s.fr,s.bx,H'⟩:=by
 subst hs hH;refine ZsI hy hl (hk.len x) hok (by rw[hv,Zx2 hk])
end
section
variable {H H0:List HO} {f0 items:List ZaO}
theorem Fp.newMp (hF:Fp H0 H f0 items)(kn:Nat):∃id H',id=H.length/\H'=H++[.lp mapL [] (.mp kn [])]/\Fp H0 H' f0 (mpT id kn []::items):=
 ⟨_,_,rfl,rfl,hF.new (by simp[Lies]) (λid e=>by cases e;rfl)⟩
theorem ZkT {s s0:St}(t:Nat){ts:List Nat}{a x:AV}{H1:List HO}(ht:t<1000000)(hs:s.H=H)(hb:get s.fr t=a)(hf:frzV H a=some (x,H1))
  (h:ZrT ts ⟨put s.fr t x,s.bx,H1⟩=some s0):ZrT (t::ts) s=some s0:=by
 subst hs hb;simp only[ZrT,Zaj ht,hf,Z8,h]
theorem Fp.setMp (hF:Fp H0 H f0 items){k id kn:Nat}{es:Ent}(hk:items[k]?=some (mpT id kn es))(es':Ent):
  ∃H',H'=H.set id (.lp mapL [] (.mp kn es'))/\Fp H0 H' f0 (items.set k (mpT id kn es')):=by
 have hid:H[id]?=some (.lp mapL [] (.mp kn es)):=hF.get k hk;have hlt:=(List.getElem?_eq_some_iff.1 hid).1;refine⟨_,rfl,hF.step hk (by simp[Lies,hlt]) (λid' e=>.inl e) (λid' hl ho=>?_) (by simp)⟩;rw[ZK];intro e;subst e;exact ho rfl
end
theorem Zyf {a:AV}{sz m:Nat}{H:List HO}{r:AV×List HO}(h:OwnF sz m a)(hv:frzV H a=some r):frz1 H a=some r:=by
 cases h<;>exact hv
theorem Zxx {P:Program}{n:Nat}{s:St}{fs:List Nat}{a:IC}{Q:Exit->St->Prop}(h:vc P n a (puQ fs Q) s):vc P n (.pu fs a) Q s:=h
def Zr4 {α:Type}(sz:Nat)(enc:α->List PC)(l:List α):AV:=match l with
 |[]=>.nl .nilSl
 |_::_=>.p (.sl sz false (l.map enc))
theorem ZvF {α:Type}{sz:Nat}{enc:α->List PC}{l:List α}:Zip (Zr4 sz enc l)=true:=by cases l<;>rfl
theorem Ztl {α:Type}{sz:Nat}{enc:α->List PC}{l:List α}(h:l.isEmpty=true):Zr4 sz enc l=.nl .nilSl:=by cases l<;>simp_all[Zr4]
theorem Zr3 {α:Type}{sz:Nat}{enc:α->List PC}{l:List α}(h:l.isEmpty=false):Zr4 sz enc l=.p (.sl sz false (l.map enc)):=by cases l<;>simp_all[Zr4]
theorem ZoL {α:Type}{sz:Nat}{enc:α->List PC}{l:List α}{b neg:Bool}(h:l.isEmpty=false):Za6 (.isNil neg) [.p (.sl sz b (l.map enc))]=some (.p (.bool neg)):=by cases l<;>simp_all[Za6]
def neL {α:Type}(l:List α):Option Unit:=if l.isEmpty then none else some ()
theorem Zx0 {α:Type}{l:List α}{u:Unit}(h:neL l=some u):l.isEmpty=false:=by cases l<;>simp_all[neL]
end Go.Eng

namespace Go.Eng
open Go
def opAt (ops:List IOp)(m:Nat):Ins:=match ops[m]? with
 |some o=>o.i
 |none=>.newH 0 []
def okAt (ops:List IOp)(m:Nat)(s:St):Bool:=match ops[m]? with
 |some o=>bnOK o s.fr&&(match o.g with
  |none=>true
  |some (t,b)=>match get s.fr t with
   |.p (.bool b')=>b==b'
   |_=>false)
 |none=>false
def preB (ops:List IOp)(m:Nat)(s:St):Bool:=(opsF Zeu (ops.take m) s).isSome&&okAt ops m (opsD (ops.take m) s)
section
variable {P:Program} {n:Nat} {s s1 s2:St} {ops:List IOp} {keep:List Nat} {Q:Exit->St->Prop} {K:St->Prop}
theorem Zba.o0 (m:Nat)(hs:ZaH P (opAt ops m) (opsD (ops.take m) s) s1)(rest:Zba P (ops.drop (m+1)) s1 s2)(hm:preB ops m s=true:=by kernel_rfl):Zba P ops s s2:=by
 simp only[preB,Ze]at hm;obtain⟨h1,h2⟩:=hm;refine Zba.chunk m h1 ?_;unfold okAt at h2;unfold opAt at hs;cases ho:ops[m]? with
 |none=>rw[ho]at h2;cases h2
 |some o=>
  rw[ho]at h2 hs;simp only[Ze]at h2 hs;have hd:ops.drop m=o::ops.drop (m+1):=by
   obtain⟨hlt,e⟩:=List.getElem?_eq_some_iff.1 ho;rw[List.drop_eq_getElem_cons hlt,e]
  rw[hd];refine⟨s1,?_,rest⟩;have hbn:bnOK o (opsD (ops.take m) s).fr=true:=h2.1;unfold AOp;cases hg:o.g with
  |none=>exact⟨hbn,hs⟩
  |some p=>
   obtain⟨t,b⟩:=p;rw[hg]at h2;simp only at h2⊢;have hx:∃b',get (opsD (ops.take m) s).fr t=.p (.bool b')/\(b==b')=true:=by
    have h3:=h2.2;split at h3
    ·rename_i b' hv;exact⟨b',hv,h3⟩
    cases h3
   obtain⟨b',hv,h3⟩:=hx;rw[hv];have:=eq_of_beq h3;subst this;simp only[Zak];exact⟨hbn,hs⟩
def AK (P:Program)(ops:List IOp)(k:Nat)(s s1:St):Prop:=Zba P (ops.drop k) s s1
def segO (ops:List IOp)(k m:Nat):List IOp:=(ops.drop k).take m
def preK (ops:List IOp)(k m:Nat)(s:St):Bool:=preB (ops.drop k) m s
theorem Zba.o {k:Nat}(m:Nat)(hs:ZaH P (opAt ops (k+m)) (opsD (segO ops k m) s) s1)(rest:AK P ops (k+m+1) s1 s2)(hm:preK ops k m s=true:=by kernel_rfl):AK P ops k s s2:=by
 refine Zba.o0 (s1:=s1) m ?_ ?_ hm
 ·have:opAt (ops.drop k) m=opAt ops (k+m):=by unfold opAt;rw[ZE]
  rw[this];exact hs
 rw[List.drop_drop,←Nat.add_assoc];exact rest
def upd (s:St)(d:Nat)(r:AV):St:=⟨put s.fr d r,s.bx,s.H⟩
def updH (s:St)(d:Nat)(r:AV)(H:List HO):St:=⟨put s.fr d r,s.bx,H⟩
def updO (s:St)(d:Option Nat)(r:AV)(H:List HO):St:=⟨putO s.fr d r,s.bx,H⟩
theorem Zba.u {k d:Nat}{r:AV}(m:Nat)(hs:ZaH P (opAt ops (k+m)) (opsD (segO ops k m) s) ⟨put (opsD (segO ops k m) s).fr d r,(opsD (segO ops k m) s).bx,(opsD (segO ops k m) s).H⟩)(rest:AK P ops (k+m+1) (upd (opsD (segO ops k m) s) d r) s2)(hm:preK ops k m s=true:=by kernel_rfl):AK P ops k s s2:=Zba.o m hs rest hm
theorem Zba.h {k d:Nat}{r:AV}{H:List HO}(m:Nat)(hs:ZaH P (opAt ops (k+m)) (opsD (segO ops k m) s) ⟨put (opsD (segO ops k m) s).fr d r,(opsD (segO ops k m) s).bx,H⟩)(rest:AK P ops (k+m+1) (updH (opsD (segO ops k m) s) d r H) s2)(hm:preK ops k m s=true:=by kernel_rfl):AK P ops k s s2:=Zba.o m hs rest hm
theorem Zba.v {k:Nat}{d:Option Nat}{r:AV}{H:List HO}(m:Nat)(hs:ZaH P (opAt ops (k+m)) (opsD (segO ops k m) s) ⟨putO (opsD (segO ops k m) s).fr d r,(opsD (segO ops k m) s).bx,H⟩)(rest:AK P ops (k+m+1) (updO (opsD (segO ops k m) s) d r H) s2)(hm:preK ops k m s=true:=by kernel_rfl):AK P ops k s s2:=Zba.o m hs rest hm
theorem Zba.f {k:Nat}(h:(opsF Zeu (ops.drop k) s).isSome=true:=by kernel_rfl):AK P ops k s (opsD (ops.drop k) s):=ZpD h
def EP (P:Program)(ops:List IOp)(k:Nat)(s:St)(K:St->Prop):Prop:=∃s1,AK P ops k s s1/\K s1
theorem EP.o {k:Nat}(m:Nat)(hs:ZaH P (opAt ops (k+m)) (opsD (segO ops k m) s) s1)(rest:EP P ops (k+m+1) s1 K)(hm:preK ops k m s=true:=by kernel_rfl):EP P ops k s K:=
 let ⟨s2,h1,h2⟩:=rest;⟨s2,.o m hs h1 hm,h2⟩
theorem EP.f {k:Nat}(hk:K (opsD (ops.drop k) s))(h:(opsF Zeu (ops.drop k) s).isSome=true:=by kernel_rfl):EP P ops k s K:=⟨_,Zba.f h,hk⟩
theorem ZiY {d:Nat}{x:IX}{m:Nat}{isA:Bool}(h:ZaH P (.load d x m isA) s s1)(hl:ZqP (ev s.fr x)=false:=by kernel_rfl):ZaH P (.loadH d x m isA) s s1:=by
 simp only[ZaH,Za0]at h⊢;rw[Zai (by rw[hl];decide)];have:rd s.bx s.H m (ev s.fr x)=rd [] s.H m (ev s.fr x):=by
  cases he:ev s.fr x with
  |loc t o=>rw[he]at hl;simp[ZqP]at hl
  |_=>rfl
 rw[←this];exact h
def ZKX:AV->Bool
 |.ppt .. =>true
 |_=>false
theorem ZyW {d:Nat}{x:IX}{m:Nat}{isA:Bool}(h:ZaH P (.load d x m isA) s s1)(hl:ZKX (ev s.fr x)=true):ZaH P (.loadI d x m isA) s s1:=by
 simp only[ZaH,Za0]at h⊢;unfold ZKX at hl;split at hl
 ·rename_i sz rows i off he;simp only[he]at h⊢;exact h
 cases hl
def ZyC:AV->Bool
 |.p (.sl _ true _)=>true
 |_=>false
theorem Zz8 {d:Nat}{x y:IX}{sz bytes:Nat}(h:ZaH P (.app d x y sz bytes) s s1)(hx:ZyC (ev s.fr x)=true):ZaH P (.appN d x y sz bytes) s s1:=by
 simp only[ZaH,Za0]at h⊢;unfold ZyC at hx;split at hx
 ·rename_i a b he;rw[he]at h;simp only[he];exact h
 cases hx
theorem rg (h:AK P ops 0 s s1)(hq:Q .normal (ZbX keep s1)):vc P n (.reg ops keep) Q s:=⟨s1,h,hq⟩
theorem rgS (S:St)(h:AK P ops 0 s s1)(hk:ZbX keep s1=S)(hq:Q .normal S):vc P n (.reg ops keep) Q s:=⟨s1,h,hk▸hq⟩
theorem rqS (S:St)(h:AK P ops 0 s s1)(hk:ZbX keep s1=S)(hq:Q .normal S)(hs:Zmj s.fr ops=true:=by kernel_rfl):vc P n (.regD ops keep) Q s:=⟨hs,s1,h,hk▸hq⟩
theorem rgR (R:St->Prop)(h:EP P ops 0 s (λs1=>R (ZbX keep s1)))(hq:∀S,R S->Q .normal S):vc P n (.reg ops keep) Q s:=let ⟨s1,h1,h2⟩:=h;⟨s1,h1,hq _ h2⟩
theorem sq {a b:IC}(h:vc P n a (Zk9 (vc P n b Q) Q) s):vc P n (.seq a b) Q s:=h
theorem bk {id:Nat}{a:IC}(h:vc P n a (ZeM id Q) s):vc P n (.block id a) Q s:=h
theorem kq {ks:List Nat}{a:IC}(h:vc P n a Q (ZbX ks s)):vc P n (.kp ks a) Q s:=h
theorem sk (h:Q .normal s):vc P n .skip Q s:=h
theorem rt (h:Q .ret s):vc P n .ret Q s:=h
theorem xq {id:Nat}(h:Q (.exit id) s):vc P n (.exit id) Q s:=h
theorem tq {next:St->Prop}(h:next s):Zk9 next Q .normal s:=h
theorem tr {next:St->Prop}(h:Q .ret s):Zk9 next Q .ret s:=h
theorem tx {next:St->Prop}{j:Nat}(h:Q (.exit j) s):Zk9 next Q (.exit j) s:=h
theorem tg {next:St->Prop}{j:Nat}(h:Q (.goto j) s):Zk9 next Q (.goto j) s:=h
theorem bn {id:Nat}(h:Q .normal s):ZeM id Q .normal s:=h
theorem br {id:Nat}(h:Q .ret s):ZeM id Q .ret s:=h
theorem bx {id:Nat}(h:Q .normal s):ZeM id Q (.exit id) s:=by simp only[ZeM,Zak];exact h
theorem bo {id j:Nat}(h:Q (.exit j) s)(hj:(j==id)=false:=by kernel_rfl):ZeM id Q (.exit j) s:=by
 have:¬j=id:=by simpa using hj
 simp only[ZeM,Zai this];exact h
theorem hp0:HP ([]:List HO) []:=trivial
theorem kr {α:Sort _}{a b:α}(h:a=b:=by kernel_rfl):a=b:=h
theorem it {x:IX}{a b:IC}{c:Bool}{α:Type}{A B:Option α}{r:α}(h:(if c=true then A else B)=some r)
  (h1:c=true->A=some r->vc P n a Q (Zlb x s)) (h2:c=false->B=some r->vc P n b Q (Zlb x s)) (hx:ev s.fr x=.p (.bool c):=by kernel_rfl):vc P n (.cond x a b) Q s:=Zz3 hx h h1 h2
theorem bs {α β:Type}{x:Option α}{f:α->Option β}{r:β}(h:x.bind f=some r):∃a,x=some a/\f a=some r:=bind_some h
theorem rbd {K:List HO->Prop}{k id:Nat}{L:LC}{fr0:List (Nat×AV)}{e:Exit}{b:Bool}{H0 H1:List HO}{f0 items:List ZaO}(st:LS)(hF:Fp H0 H1 f0 items)(hk:items[k]?=some (.lp id L fr0 .busy))(he:Zsj e=some (b,st))
  (h:∀H6,Fp H0 H6 f0 (items.set k (.lp id L fr0 st))->K H6) (hs:s.H=H1:=by kernel_rfl):∃H',ZsT id L fr0 b H' e s/\K H':=Zy6 st (hs.symm▸hF) hk he h
theorem Fp.pk {H0 H H':List HO}{f0 items L:List ZaO}(h:Fp H0 H f0 items)(ks:List Nat)(hn:Ztj ks=true)(hL:(ks.filterMap λk=>items[k]?)=L:=by kernel_rfl)(hH:H=H':=by kernel_rfl):Fp H0 H' f0 L:=by
 subst hL hH;exact h.pick ks hn
theorem Fp.at {H0 H H':List HO}{f0 items L:List ZaO}(h:Fp H0 H f0 items)(hL:items=L:=by kernel_rfl)(hH:H=H':=by kernel_rfl):Fp H0 H' f0 L:=by
 subst hL hH;exact h
end
end Go.Eng

namespace Go.Eng
open Go
def itL:LC:=⟨[],1,λ_ _=>True,true⟩
section
variable {P:Program}
theorem ZtZ (w:World)(ty:TypeId)(r bm since:Nat)(seen:Array Nat)(es:Array MapEntry)(clock:Nat)(hr:w.heap[r]?=some (.mapIter (some bm) since seen clock))(hb:w.heap[bm]?=some (.map es clock))
  (hold:∀x∈es.toList,x.born<since) (hsc:since<=clock):
  ((leftOf es seen).size=0/\(Instr.next (.pointer (some ⟨r,0,none⟩)) false ty).run P w=.ok (.tuple #[.bool false]) w)∨
  ∃e∈(leftOf es seen).toList,∃w1:World,(w1=w∨w1=w.drew)/\(Instr.next (.pointer (some ⟨r,0,none⟩)) false ty).run P w=.ok (.tuple #[.bool true,e.key,e.val]) (w1.putObj r (.mapIter (some bm) since (seen.push e.born) clock)):=by
 simp only[Instr.next,getObj,Sem.run_bind,Sem.run,hr,hb,Result.andThen,next_test_false seen es since clock hold hsc,Zg,Zah];unfold leftOf;have hmem:∀x∈(Array.filter (λe=>!seen.contains e.born) es).toList,x.born<since:=λx hx=>hold x (by simp at hx⊢;exact hx.1)
 generalize Array.filter (λe=>!seen.contains e.born) es=L at hmem⊢;have e1:L.filter (λx=>decide (x.born<since))=L:=Array.filter_eq_self.2 (λx hx=>by simpa using hmem x (by simpa using hx));have e2:L.filter (λx=>decide (x.born≥since))=#[]:=by
  rw[Array.filter_eq_empty_iff];intro x hx;have:=hmem x (by simpa using hx);simp;omega
 simp only[e1,e2,Array.append_empty];by_cases h0:L.size=0
 ·left;have:L=#[]:=Array.eq_empty_of_size_eq_zero h0;subst this;refine⟨rfl,?_⟩;simp[choose,Sem.run,Question.forced]
 right;have hne:L.isEmpty=false:=by simp[Array.isEmpty,h0]
 simp only[hne,Zg,Zah,Array.empty_append,Array.size_map];have hch:∃(j:Nat) (w1:World),j<L.size/\(w1=w∨w1=w.drew)/\(choose (Question.mapNext L.size)).run P w=.ok j w1:=by
  by_cases hf:L.size<=1
  ·exact⟨0,w,by omega,.inl rfl,by simp[choose,Sem.run,Question.forced,hf]⟩
  exact⟨_,w.drew,Nat.mod_lt _ (by omega),.inr rfl,by
   simp only[choose,Sem.run,Question.forced,Zag,hf,Zah,Question.cut];rfl⟩
 obtain⟨j,w1,hj,hal,hrun⟩:=hch;refine⟨L[j],by simp,w1,hal,?_⟩;have hr1:w1.heap[r]?=some (.mapIter (some bm) since seen clock):=by
  rcases hal with rfl|rfl
  ·exact hr
  exact hr
 simp only[hrun,Array.getElem?_map,Zb hj,Zaa,Sem.run_bind,setObj,Sem.run,hr1,Result.andThen];rfl
theorem ZsQ (w:World)(r bm since:Nat)(seen:Array Nat)(es:Array MapEntry)(clock:Nat)(e:MapEntry)(hr:w.heap[r]?=some (.mapIter (some bm) since (seen.push e.born) clock))(hb:w.heap[bm]?=some (.map es clock))(he:e∈es.toList)
  (hn:(es.toList.map (·.born)).Nodup):(Instr.entry (.pointer (some ⟨r,0,none⟩))).run P w=.ok (.tuple #[e.key,e.val]) w:=by
 have hf:es.find? (·.born==e.born)=some e:=by rw[←Array.find?_toList];exact find_born e es.toList hn he
 simp only[Instr.entry,getObj,Sem.run_bind,Sem.run,hr,hb,Result.andThen,Array.back?_push,Zae,Zg,Zah,hf];rfl
theorem Zfv {w:World}{r:Nat}{o:Obj}(h:w.heap[r]?=some o):w.putObj r o=w:=by
 unfold World.putObj;have:w.heap.setIfInBounds r o=w.heap:=by
  apply Array.ext_getElem?;intro i;rw[Array.getElem?_setIfInBounds];by_cases e:r=i
  ·subst e;rw[Zaj rfl,h];have hlt:=(Array.getElem?_eq_some_iff.1 h).1;simp[hlt]
  rw[Zai e]
 rw[this]
end
section
variable {P:Program} {k:K0} {n:Nat} {g:G} {s:St} {a:Act} {w:World}
theorem Rel.setOb (h:Rel k n g s a w){id l:Nat}{L:LC}{fr:List (Nat×AV)}{st st':LS}{x o':Obj}(hH:s.H[id]?=some (.lp L fr st))(hρ:g.ρ[id]?=some l)(hr:w.heap[l]?=some x)
  (hx1:∀vs e f,x≠.cells vs e f) (hx2:∀r,x≠.loop r) (hx3:∀d,x≠.deferred d)
  (ho:Zbl (cx k g s.H w) (cx k g (s.H.set id (.lp L fr st')) (w.putObj l o'))->HoR (cx k g (s.H.set id (.lp L fr st')) (w.putObj l o')) l (.lp L fr st')):
  Rel k n g ⟨s.fr,s.bx,s.H.set id (.lp L fr st')⟩ a (w.putObj l o'):=by
 have u:Off w (w.putObj l o') l:=.put _ (λvs e f h=>by rw[hr]at h;exact hx1 _ _ _ (Option.some.inj h));have hget:=getElem?_set' (y:=HO.lp L fr st') hH;have hlt:l<w.heap.size:=(Array.getElem?_eq_some_iff.1 hr).1;have hl:Zbl (cx k g s.H w) (cx k g (s.H.set id (.lp L fr st')) (w.putObj l o')):=
  {stay:=λa x ho hc=>by
    refine⟨u.cell hc,ho.1,ho.2.1,λj hj=>?_⟩;obtain⟨sz,ver,rows,h1,h2⟩:=ho.2.2 j hj;refine⟨sz,ver,rows,?_,h2⟩;rw[hget,Zai (λe=>by subst e;rw[hH]at h1;cases h1)];exact h1
   arr:=λj sz ver frz rows e=>by
    have e':s.H[j]?=some (.arr sz ver frz rows):=e;refine⟨ver,frz,rows,?_,Nat.le_refl _,λ_=>⟨Nat.le_refl _,rfl,λb vs _ hb=>⟨vs,u.blk hb,rfl⟩⟩⟩;show(s.H.set id _)[j]?=_;rw[hget,Zai (λe1=>by subst e1;rw[hH]at e';cases e')];exact e'
   cells:=λj cs e=>by
    have e':s.H[j]?=some (.cells cs):=e;refine⟨⟨cs,?_⟩,rfl⟩;show(s.H.set id _)[j]?=_;rw[hget,Zai (λe1=>by subst e1;rw[hH]at e';cases e')];exact e'
   lp:=λj L' fr' st1 e=>by
    have e':s.H[j]?=some (.lp L' fr' st1):=e;refine⟨?_,rfl⟩;by_cases hj:id=j
    ·subst hj;rw[hH]at e';cases e';exact⟨st',by show(s.H.set id _)[id]?=_;rw[hget,Zaj rfl]⟩
    exact⟨st1,by show(s.H.set id _)[j]?=_;rw[hget,Zai hj];exact e'⟩}
 have hobj:∀b,b≠l->∀o,w.heap[b]?=some o->(w.putObj l o').heap[b]?=some o:=λb hb o ho=>(u.block b hb).trans ho
 exact
  {defers:=h.defers.mono λD _ hD=>hobj D (λe=>by subst e;rw[hr]at hD;exact hx3 _ (Option.some.inj hD)) _ hD
   rnd:=λl' hl'=>by
    obtain⟨r1,h1⟩:=h.rnd l' hl';exact⟨r1,hobj l' (λe=>by subst e;rw[hr]at h1;exact hx2 _ (Option.some.inj h1)) _ h1⟩
   tsz:=h.tsz
   slots:=λt=>Zbz hl (λ_ _ e=>e) (h.tops t) (h.slots t)
   tops:=h.tops
   boxes:=λt cs e=>let ⟨b,hb,hr'⟩:=h.boxes t cs e;⟨b,hb,hr'.later hl (hobj b (λe=>by
    subst e;obtain⟨_,vs,⟨et,hr'⟩,_⟩:=hr';rw[show w.heap[b]?=_ from hr']at hr;exact hx1 _ _ _ (Option.some.inj hr).symm))⟩
   boxed:=h.boxed
   heap:=λj o e=>by
    simp only[hget]at e;by_cases hj:id=j
    ·subst hj;simp only[Zak,Zab]at e;subst e;exact⟨l,hρ,ho hl⟩
    simp only[hj,Zah]at e;obtain⟨b,hb,hr'⟩:=h.heap j o e;exact⟨b,hb,hr'.later hl (hobj b (λe=>hj (h.inj id j l hρ (by rw[←e];exact hb))))⟩
   len:=by simp[h.len]
   inj:=h.inj
   binj:=h.binj
   apart:=h.apart
   own:=h.own
   keep:=h.keep.off u (h.own id l hρ)
   hist:=h.hist.trans hl}
theorem Rel.theOb (h:Rel k n g s a w){id:Nat}{L:LC}{fr:List (Nat×AV)}{st:LS}(hH:s.H[id]?=some (.lp L fr st)){v:Value}(hv:VR (cx k g s.H w) (.map id) v):
  L.mpk=true/\∃b,g.ρ[id]?=some b/\v=mapV L b/\MpR (cx k g s.H w) b st:=by
 rw[VR]at hv;obtain⟨L',fr',st',b,h1,h2,h3,h4⟩:=hv;have h1':s.H[id]?=some (.lp L' fr' st'):=h1;rw[hH]at h1';cases h1';obtain⟨b',hb',hq⟩:=h.heap id _ hH;have h3':g.ρ[id]?=some b:=h3;rw[h3']at hb';cases hb';rcases hq with⟨q,_⟩|⟨_,q⟩
 ·rw[h2]at q;cases q
 exact⟨h2,b,h3',h4,q⟩
def hIt (H:List HO)(id:Nat)(L:LC)(fr:List (Nat×AV))(kn:Nat)(es:Ent)(bs:List Nat)(clock:Nat)(seen:List Nat):List HO:=
 H.set id (.lp L fr (.mps kn es bs clock))++[.lp itL [] (.it id clock seen clock)]
def hEnd (H:List HO):List HO:=H++[.lp itL [] .itd]
structure ItOK (es:Ent) (bs:List Nat) (clock:Nat):Prop where
 len:bs.length=es.length
 nd:bs.Nodup
 lt:∀x∈bs,x<clock
theorem Rel.range (h:Rel k n g s a w){o:Oper}{d:Nat}{xs:List IX}(hc:ZmO P n o (some d) .range xs=true){id kn:Nat}{L:LC}{fr:List (Nat×AV)}{es:Ent}(hx:xs.map (ev s.fr)=[.map id])(hH:s.H[id]?=some (.lp L fr (.mp kn es)))(hn:L.n=0):
  ∃bs clock,ItOK es bs clock/\Did P k n ⟨Eng.put s.fr d (.map s.H.length),s.bx,hIt s.H id L fr kn es bs clock []⟩ a w o:=by
 simp only[ZmO,Ze,Zag]at hc;obtain⟨⟨hd,hdn⟩,hc⟩:=hc;split at hc
 ·rename_i t X hop;simp only[Ze]at hc;obtain⟨hc1,hc2⟩:=hc;have hv:=ZpC h hc2 hx;simp only[ZU,ZV]at hv;rw[VRL]at hv;obtain⟨v,vs,e,hv,_⟩:=hv;simp only[Zt]at e;obtain⟨e,_⟩:=e;obtain⟨hmk,b,hb,ev1,hok,hlen,ents,clock,q1,q2,q3,q4⟩:=h.theMp hH hv hn;have q1':w.heap[b]?=some (.map ents clock):=q1;split at hc1
  rotate_left
  ·cases hc1
  rename_i kt et hu;have hlen2:(ents.toList.map (·.born)).length=es.length:=by
   have:=congrArg List.length q3;simpa using this
  refine⟨ents.toList.map (·.born),clock,⟨hlen2,q2.2.1,λx hx=>by
   obtain⟨y,hy,rfl⟩:=List.mem_map.1 hx;exact q2.1 y hy⟩,?_⟩
  have h1:Rel k n g ⟨s.fr,s.bx,s.H.set id (.lp L fr (.mps kn es (ents.toList.map (·.born)) clock))⟩ a w:=by
   have:=h.setOb (o':=.map ents clock) (st':=.mps kn es (ents.toList.map (·.born)) clock) hH hb q1' (by simp) (by simp) (by simp) (λhl=>by
    rw[Zfv q1']at hl⊢;exact .inr ⟨hmk,hok,hlen,ents,q1',q2,q3,VRL.later hl _ _ (ZaM hok) q4,rfl⟩)
   rwa [Zfv q1']at this
  have hid:id<s.H.length:=(List.getElem?_eq_some_iff.1 hH).1;obtain⟨h2,hl2⟩:=h1.newObjG (o:=.lp itL [] (.it id clock [] clock)) (.mapIter (some b) clock #[] clock) (by
   refine .inr ⟨rfl,b,L,fr,.mps kn es (ents.toList.map (·.born)) clock,?_,?_,World.alloc_heap_new w _⟩
   ·show(s.H.set id _++[_])[id]?=_;rw[ZA (by simpa using hid),List.getElem?_set_self hid]
   show(g.ρ++[_])[id]?=_;rw[ZA (by rw[h.len];exact hid)];exact hb)
  refine⟨.pointer (some ⟨w.heap.size,0,none⟩),w.alloc (.mapIter (some b) clock #[] clock),⟨g.ρ++[w.heap.size],g.β⟩,.inl ?_,?_⟩
  ·have hrun:=run_range_map (P:=P) w t kt et b ents clock hu q1';have e0:a.eval X=.map (some b):=by rw[e,ev1]
   simp only[execOp,hop,e0,Sem.run_bind,hrun,Result.andThen_ok,Sem.run_pure]
  rw[hd];refine h2.putO (d:=some d) hdn ?_ rfl;rw[VR];refine⟨itL,[],.it id clock [] clock,w.heap.size,?_,rfl,?_,rfl⟩
  ·show(s.H.set id _++[_])[s.H.length]?=_;rw[ZB (by simp)];simp
  show(g.ρ++[_])[s.H.length]?=_;rw[←h.len];simp
 cases hc
theorem Rel.theMps (h:Rel k n g s a w){id:Nat}{L:LC}{fr:List (Nat×AV)}{kn:Nat}{es:Ent}{bs:List Nat}{clock:Nat}(hH:s.H[id]?=some (.lp L fr (.mps kn es bs clock))):
  L.mpk=true/\∃b,g.ρ[id]?=some b/\MpR (cx k g s.H w) b (.mps kn es bs clock):=by
 obtain⟨b,hb,hq⟩:=h.heap id _ hH;rcases hq with⟨_,q⟩|⟨hm,q⟩
 ·obtain⟨_,r,_,_,_,_,_,q⟩:=q;exact q.elim
 exact⟨hm,b,hb,q⟩
theorem Rel.next (h:Rel k n g s a w){o:Oper}{d:Nat}{xs:List IX}(hc:ZmO P n o (some d) .next xs=true){id j kn:Nat}{L:LC}{fr:List (Nat×AV)}{es:Ent}{bs:List Nat}{clock:Nat}{seen:List Nat}
  (hx:xs.map (ev s.fr)=[.map j]) (hH:s.H[id]?=some (.lp L fr (.mps kn es bs clock))) (hJ:s.H[j]?=some (.lp itL [] (.it id clock seen clock))):
  ((∀x∈bs,x∈seen)/\Did P k n ⟨Eng.put s.fr d (.tup [.p (.bool false)]),s.bx,s.H⟩ a w o)∨
  ∃i,∃hi:i<bs.length,bs[i]∉seen/\Did P k n ⟨Eng.put s.fr d (.tup [.p (.bool true),.any,.any]),s.bx,s.H.set j (.lp itL [] (.it id clock (seen++[bs[i]]) clock))⟩ a w o:=by
 simp only[ZmO,Ze,Zag]at hc;obtain⟨⟨hd,hdn⟩,hc⟩:=hc;split at hc
 ·rename_i X str hop;simp only[Ze,Zh]at hc;obtain⟨rfl,hc2⟩:=hc;have hv:=ZpC h hc2 hx;simp only[ZU,ZV]at hv;rw[VRL]at hv;obtain⟨v,vs,e,hv,_⟩:=hv;simp only[Zt]at e;obtain⟨e,_⟩:=e;obtain⟨_,b,hb,ev1,bm,L1,fr1,st1,i1,i2,i3⟩:=h.theOb hJ hv;obtain⟨hmk,bm',hbm,hok,hlen,ents,q1,q2,q3,q4,q5⟩:=h.theMps hH;have:bm'=bm:=by have:=(show g.ρ[id]?=_ from i2).symm.trans hbm;simpa using this.symm
  subst this;have q1':w.heap[bm']?=some (.map ents clock):=q1;have i3':w.heap[b]?=some (.mapIter (some bm') clock seen.toArray clock):=i3;have e0:a.eval X=.pointer (some ⟨b,0,none⟩):=by rw[e,ev1];rfl
  rcases ZtZ (P:=P) w o.type b bm' clock seen.toArray ents clock i3' q1' q2.1 (Nat.le_refl _)with⟨h0,hrun⟩|⟨en,he,w1,hw1,hrun⟩
  ·left;refine⟨λx hx=>?_,.tuple #[.bool false],w,g,.inl ?_,?_⟩
   ·rw[←q5]at hx;obtain⟨y,hy,rfl⟩:=List.mem_map.1 hx;by_cases hs:y.born∈seen
    ·exact hs
    have:y∈leftOf ents seen.toArray:=by
     unfold leftOf;rw[Array.mem_filter];refine⟨Array.mem_toList_iff.1 hy,?_⟩;simpa using hs
    have hpos:=Array.size_pos_of_mem this;omega
   ·simp only[execOp,hop,e0,Sem.run_bind,hrun,Result.andThen_ok,Sem.run_pure]
   rw[hd];refine h.putO (d:=some d) hdn ?_ rfl;rw[VR];exact⟨[.bool false],rfl,by rw[VRL];exact⟨_,_,rfl,by rw[VR,PR],by rw[VRL]⟩⟩
  right;obtain⟨he1,he2⟩:=mem_left he;have hbn:en.born∈bs:=by rw[←q5];exact List.mem_map.2 ⟨en,he1,rfl⟩
  obtain⟨i,hi,hie⟩:=List.getElem_of_mem hbn;refine⟨i,hi,?_,.tuple #[.bool true,en.key,en.val],w1.putObj b (.mapIter (some bm') clock (seen.toArray.push en.born) clock),g,.inl ?_,?_⟩
  ·rw[hie];simpa using he2
  ·simp only[execOp,hop,e0,Sem.run_bind,hrun,Result.andThen_ok,Sem.run_pure]
  have h1:Rel k n g s a w1:=by
   rcases hw1 with rfl|rfl
   ·exact h
   exact h.grow (Grow.drew w)
  have i4:w1.heap[b]?=some (.mapIter (some bm') clock seen.toArray clock):=by
   rcases hw1 with rfl|rfl
   ·exact i3'
   exact i3'
  have hlt:=(Array.getElem?_eq_some_iff.1 i4).1;have hid:id≠j:=λe=>by subst e;rw[hH]at hJ;cases hJ
  have h2:=h1.setOb (o':=.mapIter (some bm') clock (seen.toArray.push en.born) clock) (st':=.it id clock (seen++[bs[i]]) clock) hJ hb i4 (by simp) (by simp) (by simp) (λhl=>by
   refine .inr ⟨rfl,bm',L,fr,.mps kn es bs clock,?_,hbm,?_⟩
   ·show(s.H.set j _)[id]?=_;rw[ZK (Ne.symm hid)];exact hH
   show(w1.putObj b _).heap[b]?=_;rw[World.putObj_heap_same hlt,hie];simp)
  rw[hd];refine h2.putO (d:=some d) hdn ?_ rfl;rw[VR];exact⟨[.bool true,en.key,en.val],rfl,by rw[VRL];exact⟨_,_,rfl,by rw[VR,PR],by rw[VRL];exact⟨_,_,rfl,by rw[VR];trivial,by rw[VRL];exact⟨_,_,rfl,by rw[VR];trivial,by rw[VRL]⟩⟩⟩⟩
 cases hc
theorem ZyH {c:Cx}:∀{xs:List AV} {vs:List Value},VRL c xs vs->∀(i:Nat) x,xs[i]?=some x->∃v,vs[i]?=some v/\VR c x v
 |[],_,_,i,x,h=>by simp at h
 |y::ys,vs,h,i,x,hi=>by
  rw[VRL]at h;obtain⟨v,us,rfl,h1,h2⟩:=h;cases i with
  |zero=>simp only[ZD,Zab]at hi;subst hi;exact⟨v,rfl,h1⟩
  |succ i=>exact ZyH h2 i x (by simpa using hi)
theorem ZvU (kn:Nat)(ks:List Int):ZaV (keyA kn ks)=true:=by
 unfold keyA;split
 ·rfl
 simp only[ZaV];induction ks with
 |nil=>rfl
 |cons x xs ih=>simpa[ZaV.noLocL,ZaV]using ih
theorem ZzR (c:Cx)(kn:Nat)(ks:List Int):VR c (keyA kn ks) (keyV kn ks):=by
 unfold keyA keyV;split
 ·rw[VR,PR]
 rw[VR];exact⟨_,rfl,ZoI ks⟩
theorem ZxI {d:Nat}{xs:List IX}{id j kn i x:Nat}{L:LC}{fr:List (Nat×AV)}{es:Ent}{bs:List Nat}{clock:Nat}{seen:List Nat}{p:List Int×AV}(hi:es[i]?=some p)(hb:bs[i]?=some x)(hv:ZdG p.2=true)
  (hx:xs.map (ev s.fr)=[.map j]) (hH:s.H[id]?=some (.lp L fr (.mps kn es bs clock))) (hJ:s.H[j]?=some (.lp itL [] (.it id clock (seen++[x]) clock))):
  ZaH P (.sp (some d) .entry xs) s ⟨Eng.put s.fr d (.tup [keyA kn p.1,p.2]),s.bx,s.H⟩:=by
 have hno:ZaV (.tup [keyA kn p.1,p.2])=true:=by
  have h2:ZaV p.2=true:=by
   have:noLocL [p.2]=true:=ZaM (by simp[ZaL,hv]);simpa[ZaV.noLocL]using this
  simp[ZaV,ZaV.noLocL,ZvU,h2]
 refine Zvt hno ?_ rfl;intro k n g t a w o d' ys hys hHt h hc;rw[hx]at hys;rw[←hHt]at hH hJ⊢;simp only[ZmO,Ze,Zag]at hc;obtain⟨⟨hd,hdn⟩,hc⟩:=hc;split at hc
 ·rename_i X hop;have hv:=ZpC h hc hys;simp only[ZU,ZV]at hv;rw[VRL]at hv;obtain⟨v,vs,e,hv,_⟩:=hv;simp only[Zt]at e;obtain⟨e,_⟩:=e;obtain⟨_,b,hb',ev1,bm,L1,fr1,st1,i1,i2,i3⟩:=h.theOb hJ hv;obtain⟨hmk,bm',hbm,hok,hlen,ents,q1,q2,q3,q4,q5⟩:=h.theMps hH;have:bm'=bm:=by have:=(show g.ρ[id]?=_ from i2).symm.trans hbm;simpa using this.symm
  subst this;have q1':w.heap[bm']?=some (.map ents clock):=q1;have e0:a.eval X=.pointer (some ⟨b,0,none⟩):=by rw[e,ev1];rfl
  have hlt:i<ents.toList.length:=by
   have h1:=(List.getElem?_eq_some_iff.1 hi).1;have:=congrArg List.length q3;simp only[ZO]at this;omega
  have hborn:ents.toList[i].born=x:=by
   have:=congrArg (·[i]?) q5;simp only[ZH,ZF hlt,Zaa]at this;rw[hb]at this;exact Option.some.inj this
  have hkey:ents.toList[i].key=keyV kn p.1:=by
   have:=congrArg (·[i]?) q3;simp only[ZH,ZF hlt,Zaa,hi]at this;exact Option.some.inj this
  have hval:VR (cx k g t.H w) p.2 ents.toList[i].val:=by
   obtain⟨u,hu,hr⟩:=ZyH q4 i p.2 (by rw[ZH,hi];rfl);rw[ZH,ZF hlt]at hu;simp only[Zaa,Zab]at hu;rw[hu];exact hr
  have i3':w.heap[b]?=some (.mapIter (some bm') clock (seen.toArray.push ents.toList[i].born) clock):=by
   rw[hborn];have:(seen.toArray.push x)=(seen++[x]).toArray:=by simp
   rw[this];exact i3
  have hrun:=ZsQ (P:=P) w b bm' clock seen.toArray ents clock ents.toList[i] i3' q1' (List.getElem_mem hlt) q2.2.1;refine⟨.tuple #[ents.toList[i].key,ents.toList[i].val],w,g,.inl ?_,?_⟩
  ·simp only[execOp,hop,e0,Sem.run_bind,hrun,Result.andThen_ok,Sem.run_pure]
  rw[hd];refine h.putO hdn ?_ (ZaP hno);rw[VR];exact⟨[ents.toList[i].key,ents.toList[i].val],rfl,by rw[VRL];exact⟨_,_,rfl,by rw[hkey];exact ZzR _ _ _,by rw[VRL];exact⟨_,_,rfl,hval,by rw[VRL]⟩⟩⟩
 cases hc
end
section
variable {P:Program} {n:Nat}
theorem EvI.seq2 {x y:IC}{Q:Exit->St->Prop}{s:St}(h:EvI P n x s (Zk9 (λs'=>EvI P n y s' Q) Q)):EvI P n (.seq x y) s Q:=by
 intro c hc k g a w hr;cases c<;>simp only[chkC,Zg,Ze]at hc;rename_i c1 c2;refine wpIn_seq (wpIn_mono (h c1 hc.1 k g a w hr) ?_);rintro e a' w' ⟨s',g',h1,h2⟩;cases e with
 |normal=>exact h2 c2 hc.2 k g' a' w' h1
 |_=>exact⟨s',g',h1,h2⟩
theorem EvI.block2 {id:Nat}{x:IC}{Q:Exit->St->Prop}{s:St}(h:EvI P n x s (ZeM id Q)):EvI P n (.block id x) s Q:=by
 intro c hc k g a w hr;cases c<;>simp only[chkC,Zg,Ze,Zag]at hc;rename_i id' c1;obtain⟨rfl,hc⟩:=hc;refine wpIn_block (wpIn_mono (h c1 hc k g a w hr) ?_);rintro e a' w' ⟨s',g',h1,h2⟩;cases e with
 |exit j=>
  simp only[ZeM]at h2;simp only[Exit.inBlock];split
  ·rename_i e;rw[Zaj e]at h2;exact⟨s',g',h1,h2⟩
  rename_i e;rw[Zai e]at h2;exact⟨s',g',h1,h2⟩
 |_=>exact⟨s',g',h1,h2⟩
theorem EvI.loop2 {b:IC}{Q:Exit->St->Prop}{α:Type}(R:α->St->Prop)(μ:α->Nat)(round:∀x s,R x s->EvI P n b s (Zk9 (λs'=>∃y,R y s'/\μ y<μ x) Q))(x:α)(s:St)(h:R x s):EvI P n (.loop b) s Q:=by
 intro c hc k g a w hr;cases c<;>simp only[chkC,Zg]at hc;rename_i c1;refine Zmc (R:=λx a w=>∃s g,R x s/\Rel k n g s a w) μ (λx a w h=>?_) x a w ⟨s,g,h,hr⟩;obtain⟨s,g,hx,hr⟩:=h;refine wpIn_mono (round x s hx c1 hc k g a w hr) ?_;rintro e a' w' ⟨s',g',h1,h2⟩;cases e with
 |normal=>
  obtain⟨y,hy,hlt⟩:=h2;exact⟨y,⟨s',g',hy,h1⟩,hlt⟩
 |_=>exact⟨s',g',h1,h2⟩
theorem ZmP {ops:Array Oper}:∀{l:List Oper} {i1 i2:List IOp},Zdk P n ops l (i1++i2)=true->∃l1 l2,l=l1++l2/\Zdk P n ops l1 i1=true/\Zdk P n ops l2 i2=true
 |l,[],i2,h=>⟨[],l,rfl,rfl,h⟩
 |[],x::i1,i2,h=>by simp[Zdk]at h
 |o::l,x::i1,i2,h=>by
  simp only[Zu,Zdk,Ze]at h;obtain⟨l1,l2,rfl,h1,h2⟩:=ZmP h.2;exact⟨o::l1,l2,rfl,by simp only[Zdk,Ze];exact⟨h.1,h1⟩,h2⟩
section
variable {k:K0} {ops:Array Oper} {r:Option Nat} {Q:Exit->Act->World->Prop}
theorem ZuM:∀(os:List Oper) (ios:List IOp) (os2:List Oper) (st:Nat) {g:G} {s s':St} {a:Act} {w:World},(∀j,(os++os2)[j]?=ops[st+j]?)->Zdk P n ops os ios=true->Rel k n g s a w->Zba P ios s s'→
  (∀g' a' w',Rel k n g' s' a' w'->wpOpsIn (FR r) 0 P ops Q (List.range' (st+os.length) os2.length) a' w')->wpOpsIn (FR r) 0 P ops Q (List.range' st (os++os2).length) a w
 |[],[],os2,st,g,s,s',a,w,_,_,h,hp,hK=>by
  simp only[Zba]at hp;subst hp;simpa using hK g a w h
 |o::os,io::ios,os2,st,g,s,s',a,w,hos,hc,h,hp,hK=>by
  simp only[Zba]at hp;obtain⟨s1,h1,h2⟩:=hp;simp only[Zdk,Ze]at hc;have h0:=hos 0;simp only[Zu,ZD,Nat.add_zero]at h0;simp only[Zu,ZN,ZZ];rw[wpOpsIn_cons];refine ZrY h h0.symm hc.1 h1 r (λg' a' w' h3=>?_);refine ZuM os ios os2 (st+1) (λj=>by have:=hos (j+1);simpa[Nat.add_assoc,Nat.add_comm 1 j]using this) hc.2 h3 h2 (λg2 a2 w2 h4=>?_);have:=hK g2 a2 w2 h4
  rwa [ZN,show st+(os.length+1)=st+1+os.length by omega]at this
 |[],_::_,_,_,_,_,_,_,_,_,hc,_,_,_=>by simp[Zdk]at hc
 |_::_,[],_,_,_,_,_,_,_,_,hc,_,_,_=>by simp[Zdk]at hc
theorem ZL8 {g:G}{a:Act}{w:World}{i:Nat}{o:Oper}{io:IOp}(hi:ops[i]?=some o)(hc:ZtE P n ops o io=true)(hg:io.g=none){R:St->Prop}(hd:∃s',R s'/\Did P k n s' a w o){K:Act->World->Prop}
  (hK:∀s' g' a' w',R s'->Rel k n g' s' a' w'->K a' w'):wpOpIn (FR r) 0 P ops Q i K a w:=by
 simp only[ZtE,Ze]at hc;obtain⟨⟨hgo,hc⟩,hnd⟩:=hc;obtain⟨s',hR,hd⟩:=hd;unfold wpOpIn;rw[hi];simp only;have hog:o.guard=none:=by
  unfold Zuo at hgo;rw[hg]at hgo;split at hgo
  ·assumption
  ·rename_i e;cases e
  cases hgo
 rw[Zaj (by simp[Region.wanted,hog])];exact Oper.wpIn_of_wp r (ZpH hnd) (hd.wp λg' a' w' h=>hK s' g' a' w' hR h)
end
theorem EvI.regND {pre post:List IOp}{nd:IOp}{keep:List Nat}{s s0:St}{Q:Exit->St->Prop}(R:St->Prop)(hp:Zba P pre s s0)(hg:nd.g=none)
  (hnd:∀k g a w o,Rel k n g s0 a w->ZbO P n o nd.i=true->∃s1,R s1/\Did P k n s1 a w o) (hpost:∀s1,R s1->∃s2,Zba P post s1 s2/\Q .normal (ZbX keep s2)):EvI P n (.reg (pre++nd::post) keep) s Q:=by
 intro c hc k g a w hr;cases c<;>simp only[chkC,Zg,Ze,Zh]at hc;rename_i id ops draw;obtain⟨rfl,hc⟩:=hc;obtain⟨l1,l2,he,h1,h2⟩:=ZmP hc;cases l2 with
 |nil=>simp[Zdk]at h2
 |cons o l2=>
  simp only[Zdk,Ze]at h2;refine wpIn_region ?_;have hget:∀j,(l1++o::l2)[j]?=ops[0+j]?:=λj=>by rw[←he];simp
  have hlen:(l1++o::l2).length=ops.size:=by rw[←he];simp
  have:=ZuM (r:=k.rd) (Q:=λe a' w'=>∃s' g',Rel k n g' s' a' w'/\Q e s') l1 pre (o::l2) 0 hget h1 hr hp (λg' a' w' h3=>by
   simp only[ZN,ZZ,Z7];rw[wpOpsIn_cons];have hci:ZbO P n o nd.i=true:=by
    have:=h2.1;simp only[ZtE,Ze]at this;exact this.1.2
   have ho:ops[l1.length]?=some o:=by have:=hget l1.length;simpa using this.symm
   refine ZL8 (g:=g') ho h2.1 hg (R:=R) (hnd k g' a' w' o h3 hci) (λs1 g2 a2 w2 hR h4=>?_);obtain⟨s2,hp2,hq⟩:=hpost s1 hR;refine ZpB l2 post (l1.length+1) (λj=>?_) h2.2 h4 hp2 (λg3 a3 w3 h5=>?_)
   ·have:=hget (l1.length+1+j);rw[ZB (by omega)]at this;simpa[show l1.length+1+j-l1.length=j+1 by omega]using this
   obtain⟨g4,h6⟩:=h5.keepOnly keep;exact⟨_,g4,h6,hq⟩)
  rw[hlen,←Z0]at this;exact this
theorem Zv7 {id:Nat}{G G':Exit->St->Prop}(hf:∀e s,G e s->G' e s):∀e s,ZeM id G e s->ZeM id G' e s:=by
 intro e s h;cases e with
 |exit q=>
  have h:(if q=id then G .normal s else G (.exit q) s):=h;show(if q=id then G' .normal s else G' (.exit q) s);by_cases e:q=id
  ·rw[Zaj e]at h⊢;exact hf _ _ h
  rw[Zai e]at h⊢;exact hf _ _ h
 |normal=>exact hf _ _ h
 |ret=>exact hf _ _ h
 |goto l=>exact hf _ _ h
 |panic c=>exact hf _ _ h
 |outgrown=>exact hf _ _ h
theorem Zti:∀(z bs:List Nat),z.Nodup->(∀x∈z,x∈bs)->z.length<=bs.length
 |[],_,_,_=>Nat.zero_le _
 |x::z,bs,hn,hs=>by
  have hx:=hs x (by simp);have hn':=List.nodup_cons.1 hn;have:=Zti z (bs.erase x) hn'.2 (λy hy=>(List.mem_erase_of_ne (λe=>by subst e;exact hn'.1 hy)).2 (hs y (by simp[hy])));rw[List.length_erase_of_mem hx]at this;have hpos:=List.length_pos_of_mem hx;simp only[ZN];omega
theorem Zq2 {α:Type}(A:List α)(x y:α):(A++[x]).set A.length y=A++[y]:=by
 rw[Z1 _ _ (Nat.le_refl _),Nat.sub_self];rfl
theorem Rel.itEnd {k:K0}{g:G}{fr0:List (Nat×AV)}{bx:List (Nat×List AV)}{H:List HO}{a:Act}{w:World}{id kn:Nat}{L:LC}{fr:List (Nat×AV)}{es:Ent}{bs:List Nat}{clock:Nat}{seen:List Nat}(hH:H[id]?=some (.lp L fr (.mp kn es)))
  (h:Rel k n g ⟨fr0,bx,hIt H id L fr kn es bs clock seen⟩ a w):Rel k n g ⟨fr0,bx,hEnd H⟩ a w:=by
 have hid:id<H.length:=(List.getElem?_eq_some_iff.1 hH).1;have hm:(hIt H id L fr kn es bs clock seen)[id]?=some (.lp L fr (.mps kn es bs clock)):=by
  unfold hIt;rw[ZA (by simpa using hid),List.getElem?_set_self hid]
 obtain⟨hmk,b,hb,hq⟩:=h.theMps hm;obtain⟨hok,hlen,ents,q1,q2,q3,q4,q5⟩:=hq;have q1':w.heap[b]?=some (.map ents clock):=q1;have h1:=h.setOb (o':=.map ents clock) (st':=.mp kn es) hm hb q1' (by simp) (by simp) (by simp) (λhl=>by
  rw[Zfv q1']at hl⊢;exact .inr ⟨hmk,hok,hlen,ents,clock,q1',q2,q3,VRL.later hl _ _ (ZaM hok) q4⟩)
 rw[Zfv q1']at h1;have e1:(hIt H id L fr kn es bs clock seen).set id (.lp L fr (.mp kn es))=H++[.lp itL [] (.it id clock seen clock)]:=by
  unfold hIt;rw[List.set_append_left _ _ (by simpa using hid),List.set_set]
  congr 1
  apply List.ext_getElem?;intro j;rw[ZJ];by_cases e:id=j
  ·subst e;rw[Zaj rfl,Zaj hid,hH]
  rw[Zai e]
 simp only[e1]at h1;have hj:(H++[HO.lp itL [] (.it id clock seen clock)])[H.length]?=some (.lp itL [] (.it id clock seen clock)):=by simp
 obtain⟨b2,hb2,hq2⟩:=h1.heap H.length _ hj;rcases hq2 with⟨q,_⟩|⟨_,hq2⟩
 ·cases q
 obtain⟨bm,L1,fr1,st1,i1,i2,i3⟩:=hq2;have i3':w.heap[b2]?=some (.mapIter (some bm) clock seen.toArray clock):=i3;have h2:=h1.setOb (o':=.mapIter (some bm) clock seen.toArray clock) (st':=.itd) hj hb2 i3' (by simp) (by simp) (by simp) (λhl=>by
  rw[Zfv i3'];exact .inr ⟨rfl,_,_,_,_,i3'⟩)
 rw[Zfv i3']at h2;simp only[Zq2]at h2;exact h2
def Zx5 (pre:List IOp)(d:Nat)(x:IX)(k1:List Nat)(out tn tm:Nat)(k2 k3 k4:List Nat)(nxt:Nat)(rest:IC):IC:=
 .seq (.reg (pre++⟨none,.sp (some d) .range [x],[],none⟩::[]) k1) (.block out (.loop (.seq (.reg ([]++⟨none,.sp (some tn) .next [.t d],[],none⟩::[⟨none,.val tm (.ext 0) [.t tn],[],none⟩]) k2)
  (.seq (.cond (.t tm) .skip (.kp k4 (.exit out))) (.kp k3 (.block nxt rest))))))
def Zh3 (k1:List Nat)(s0:St)(d:Nat):List (Nat×AV):=Znv k1 (put s0.fr d (.map s0.H.length))
def ZjY (k1:List Nat)(s0:St):List (Nat×List AV):=Ztu k1 s0.bx
def Zwy (k1 k2 k3:List Nat)(s0:St)(d tn tm:Nat)(H:List HO):St:=
 ZbX k3 (Zlb (.t tm) (ZbX k2 ⟨put (put (Zh3 k1 s0 d) tn (.tup [.p (.bool true),.any,.any])) tm (.p (.bool true)),ZjY k1 s0,H⟩))
def Zwz (k1 k2 k4:List Nat)(s0:St)(d tn tm:Nat)(H:List HO):St:=
 ZbX k4 (Zlb (.t tm) (ZbX k2 ⟨put (put (Zh3 k1 s0 d) tn (.tup [.p (.bool false)])) tm (.p (.bool false)),ZjY k1 s0,H⟩))
theorem ZwT {pre:List IOp}{d:Nat}{x:IX}{k1:List Nat}{out tn tm:Nat}{k2 k3 k4:List Nat}{nxt:Nat}{rest:IC}{s s0:St}{id kn:Nat}{L:LC}{fr:List (Nat×AV)}{es:Ent}(bad:Nat->Bool){sF:List (Nat×AV)}{bF:List (Nat×List AV)}
  (hp:Zba P pre s s0) (hx:ev s0.fr x=.map id) (hH:s0.H[id]?=some (.lp L fr (.mp kn es))) (hn:L.n=0) (hd:get (Zh3 k1 s0 d) d=.map s0.H.length) (hk2:k2.elem tm=true) (hne:tn≠tm)
  (hbody:∀i (p:List Int×AV),es[i]?=some p->∀(bs:List Nat) (clock:Nat) (seen:List Nat) (y:Nat),bs[i]?=some y->vc P n rest (ZeM nxt λe s'=>if bad i=true then e=.ret/\s'=⟨sF,bF,hIt s0.H id L fr kn es bs clock (seen++[y])⟩else e=.normal/\s'=⟨Zh3 k1 s0 d,ZjY k1 s0,hIt s0.H id L fr kn es bs clock (seen++[y])⟩)
   (Zwy k1 k2 k3 s0 d tn tm (hIt s0.H id L fr kn es bs clock (seen++[y]))))
  {Q:Exit->St->Prop} (hQ:if(List.range es.length).any bad=true then Q .ret ⟨sF,bF,hEnd s0.H⟩else Q .normal (Zwz k1 k2 k4 s0 d tn tm (hEnd s0.H))):EvX P n (Zx5 pre d x k1 out tn tm k2 k3 k4 nxt rest) s Q:=by
 have hid:id<s0.H.length:=(List.getElem?_eq_some_iff.1 hH).1;have main:EvI P n (Zx5 pre d x k1 out tn tm k2 k3 k4 nxt rest) s (λe s'=>∃bs clock seen,(if(List.range es.length).any bad=true then e=.ret/\s'=⟨sF,bF,hIt s0.H id L fr kn es bs clock seen⟩else e=.normal/\s'=Zwz k1 k2 k4 s0 d tn tm (hIt s0.H id L fr kn es bs clock seen))):=by
  unfold Zx5;refine EvI.seq2 (EvI.regND (λs1=>∃bs clock,ItOK es bs clock/\s1=⟨put s0.fr d (.map s0.H.length),s0.bx,hIt s0.H id L fr kn es bs clock []⟩) hp rfl (λk g a w o h hc=>?_) ?_)
  ·obtain⟨bs,clock,h1,h2⟩:=h.range (xs:=[x]) (by simpa only[ZbO]using hc) (by rw[ZU,hx];rfl) hH hn;exact⟨_,⟨bs,clock,h1,rfl⟩,h2⟩
  rintro s1 ⟨bs,clock,hit,rfl⟩;refine⟨_,rfl,?_⟩;show EvI P n _ ⟨Zh3 k1 s0 d,ZjY k1 s0,hIt s0.H id L fr kn es bs clock []⟩ _;refine EvI.block2 (EvI.loop2 (λ(seen:List Nat) s=>s=⟨Zh3 k1 s0 d,ZjY k1 s0,hIt s0.H id L fr kn es bs clock seen⟩/\seen.Nodup/\(∀y∈seen,y∈bs)/\∀i y:Nat,bs[i]?=some y->y∈seen->bad i=false) (λseen=>bs.length-seen.length) ?_ [] _ ⟨rfl,by simp,by simp,by simp⟩);rintro seen s ⟨rfl,hnd,hsub,hgood⟩;have hm:(hIt s0.H id L fr kn es bs clock seen)[id]?=some (.lp L fr (.mps kn es bs clock)):=by
   unfold hIt;rw[ZA (by simpa using hid),List.getElem?_set_self hid]
  have hj:(hIt s0.H id L fr kn es bs clock seen)[s0.H.length]?=some (.lp itL [] (.it id clock seen clock)):=by
   unfold hIt;rw[ZB (by simp)];simp
  have hset:∀y,(hIt s0.H id L fr kn es bs clock seen).set s0.H.length (.lp itL [] (.it id clock (seen++[y]) clock))=hIt s0.H id L fr kn es bs clock (seen++[y]):=λy=>by
   unfold hIt;simp
  refine EvI.seq2 (EvI.regND (λs1=>((∀y∈bs,y∈seen)/\s1=⟨put (Zh3 k1 s0 d) tn (.tup [.p (.bool false)]),ZjY k1 s0,hIt s0.H id L fr kn es bs clock seen⟩)∨
   ∃i y:Nat,bs[i]?=some y/\y∉seen/\s1=⟨put (Zh3 k1 s0 d) tn (.tup [.p (.bool true),.any,.any]),ZjY k1 s0,hIt s0.H id L fr kn es bs clock (seen++[y])⟩) (s0:=⟨Zh3 k1 s0 d,ZjY k1 s0,hIt s0.H id L fr kn es bs clock seen⟩) rfl rfl (λk g a w o h hc=>?_) ?_)
  ·rcases h.next (xs:=[.t d]) (by simpa only[ZbO]using hc) (by rw[ZU];show[get (Zh3 k1 s0 d) d]=_;rw[hd]) hm hj with⟨h1,h2⟩|⟨i,hi,h1,h2⟩
   ·exact⟨_,.inl ⟨h1,rfl⟩,h2⟩
   refine⟨_,.inr ⟨i,bs[i],ZF hi,h1,rfl⟩,?_⟩;have:=h2;simp only[hset]at this;exact this
  have hkeep:∀(f:List (Nat×AV)) (b:List (Nat×List AV)) (H:List HO) (v:AV),get (Znv k2 (put f tm v)) tm=v:=λf b H v=>by
   rw[ZpT,hk2,Zaj rfl,Zbr,Zaj rfl]
  rintro s1 (⟨hall,rfl⟩|⟨i,y,hi,hnew,rfl⟩)
  ·refine⟨⟨put (put (Zh3 k1 s0 d) tn (.tup [.p (.bool false)])) tm (.p (.bool false)),ZjY k1 s0,hIt s0.H id L fr kn es bs clock seen⟩,⟨_,⟨rfl,?_⟩,rfl⟩,?_⟩
   ·simp only[ZaH,Za0,ZU,ZV,ev,Zbr,Zak,Za6];rfl
   show EvI P n _ (ZbX k2 _) _;refine Zbd _ _ _ ?_;refine sq ?_;show(match get (Znv k2 _) tm with|.p (.bool t)=>_|_=>False);rw[hkeep _ [] []];simp only[Zg,Zah];refine kq (xq (tx (tx (Eng.bx ?_))));refine⟨bs,clock,seen,?_⟩;rw[Zai]
   ·exact⟨rfl,rfl⟩
   rw[Bool.not_eq_true,Bool.eq_false_iff];intro hc;obtain⟨i,hi,hb⟩:=List.any_eq_true.1 hc;have hlt:i<bs.length:=by rw[hit.len];exact List.mem_range.1 hi
   have:=hgood i bs[i] (ZF hlt) (hall _ (List.getElem_mem hlt));rw[this]at hb;cases hb
  refine⟨⟨put (put (Zh3 k1 s0 d) tn (.tup [.p (.bool true),.any,.any])) tm (.p (.bool true)),ZjY k1 s0,hIt s0.H id L fr kn es bs clock (seen++[y])⟩,⟨_,⟨rfl,?_⟩,rfl⟩,?_⟩
  ·simp only[ZaH,Za0,ZU,ZV,ev,Zbr,Zak,Za6];rfl
  show EvI P n _ (ZbX k2 _) _;have hib:i<es.length:=by
   have:=(List.getElem?_eq_some_iff.1 hi).1;rw[hit.len]at this;exact this
  refine Zbd _ _ _ ?_;refine sq ?_;show(match get (Znv k2 _) tm with|.p (.bool t)=>_|_=>False);rw[hkeep _ [] []];simp only[Zak];show vc P n rest (ZeM nxt _) (Zwy k1 k2 k3 s0 d tn tm (hIt s0.H id L fr kn es bs clock (seen++[y])));refine Zcz rest ?_ (hbody i es[i] (ZF hib) bs clock seen y hi);have fin:∀e s',(if bad i=true then e=.ret/\s'=⟨sF,bF,hIt s0.H id L fr kn es bs clock (seen++[y])⟩else e=.normal/\s'=⟨Zh3 k1 s0 d,ZjY k1 s0,hIt s0.H id L fr kn es bs clock (seen++[y])⟩)→
    Zk9 (λs'=>∃z:List Nat,(s'=⟨Zh3 k1 s0 d,ZjY k1 s0,hIt s0.H id L fr kn es bs clock z⟩/\z.Nodup/\(∀y∈z,y∈bs)/\∀i y:Nat,bs[i]?=some y->y∈z->bad i=false)/\bs.length-z.length<bs.length-seen.length)
     (ZeM out λe s'=>∃bs clock seen,(if(List.range es.length).any bad=true then e=.ret/\s'=⟨sF,bF,hIt s0.H id L fr kn es bs clock seen⟩else e=.normal/\s'=Zwz k1 k2 k4 s0 d tn tm (hIt s0.H id L fr kn es bs clock seen))) e s':=by
   intro e s' h;by_cases hb:bad i=true
   ·rw[Zaj hb]at h;obtain⟨rfl,rfl⟩:=h;show ∃bs clock seen,_;refine⟨bs,clock,seen++[y],?_⟩;rw[Zaj (List.any_eq_true.2 ⟨i,List.mem_range.2 hib,hb⟩)];exact⟨rfl,rfl⟩
   rw[Zai hb]at h;obtain⟨rfl,rfl⟩:=h;have hnd':(seen++[y]).Nodup:=by
    rw[List.nodup_append];refine⟨hnd,by simp,λa ha b hb'=>?_⟩;simp only[ZX]at hb';subst hb';intro e;subst e;exact hnew ha
   have hsub':∀z∈seen++[y],z∈bs:=λz hz=>by
    rcases List.mem_append.1 hz with h|h
    ·exact hsub z h
    simp only[ZX]at h;subst h;exact List.mem_of_getElem? hi
   have hle:(seen++[y]).length<=bs.length:=Zti _ _ hnd' hsub';refine⟨seen++[y],⟨rfl,hnd',hsub',λj z hj hz=>?_⟩,?_⟩
   ·rcases List.mem_append.1 hz with h|h
    ·exact hgood j z hj h
    simp only[ZX]at h;subst h;have:i=j:=by
     obtain⟨h1,e1⟩:=List.getElem?_eq_some_iff.1 hi;obtain⟨h2,e2⟩:=List.getElem?_eq_some_iff.1 hj;exact(List.getElem_inj hit.nd).1 (e1.trans e2.symm)
    subst this;simpa using hb
   rw[ZM,ZR]at hle⊢;omega
  exact Zv7 fin
 by_cases hb:(List.range es.length).any bad=true
 ·rw[Zaj hb]at hQ;refine⟨.ret,_,?_,hQ⟩;intro c hc k g a w hr;refine wpIn_mono (main c hc k g a w hr) ?_;rintro e a' w' ⟨s',g',h1,bs,clock,seen,h2⟩;rw[Zaj hb]at h2;obtain⟨rfl,rfl⟩:=h2;exact⟨_,g',Rel.itEnd hH h1,rfl,rfl⟩
 rw[Zai hb]at hQ;refine⟨.normal,_,?_,hQ⟩;intro c hc k g a w hr;refine wpIn_mono (main c hc k g a w hr) ?_;rintro e a' w' ⟨s',g',h1,bs,clock,seen,h2⟩;rw[Zai hb]at h2;obtain⟨rfl,rfl⟩:=h2;exact⟨_,g',Rel.itEnd hH h1,rfl,rfl⟩
end
end Go.Eng

namespace Go.Eng
open Go
section
variable {H0 H H':List HO} {f0 items fix:List ZaO} {α:Type}
theorem HP.snocNil (sz:Nat)(frz:Bool):∀{items:List ZaO},HP H items->HP H (items++[.arr (.p (.sl sz true [])) sz frz []])
 |[],_=>(HP.nil H).nilArr sz frz
 |i::is,h=>by
  refine HP.cons (HP.snocNil sz frz h.2.2) h.1 ?_;intro id hi j hj hjo;rcases List.mem_append.1 hj with hj|hj
  ·exact h.2.1 id hi j hj hjo
  simp only[ZX]at hj;subst hj;obtain⟨_,_,_,_,e⟩:=hjo;cases e
theorem Fp.snocNil (h:Fp H0 H f0 items)(sz:Nat)(frz:Bool):Fp H0 H f0 (items++[.arr (.p (.sl sz true [])) sz frz []]):=
 h.trans
  {size:=Nat.le_refl _
   same:=λ_ _ _=>rfl
   now:=h.now.snocNil sz frz
   occ:=λx hx id hxo=>by
    rcases List.mem_append.1 hx with hx|hx
    ·exact .inl ⟨x,hx,hxo⟩
    simp only[ZX]at hx;subst hx;obtain⟨_,_,_,_,e⟩:=hxo;cases e}
theorem Fp.push (h:Fp H0 H f0 items)(o:HO):Fp H0 (H++[o]) f0 items:=
 h.trans
  {size:=by simp
   same:=λid hlt _=>ZA hlt
   now:=h.now.push o
   occ:=λx hx id hxo=>.inl ⟨x,hx,hxo⟩}
def zipT (sz:Nat)(enc:α->List PC):List (Int×List α)->List AV->List ZaO
 |p::m,a::as=>.arr a sz false (p.2.map enc)::zipT sz enc m as
 |_,_=>[]
def zipE:List (Int×List α)->List AV->Ent
 |p::m,a::as=>([p.1],a)::zipE m as
 |_,_=>[]
def mapT (id sz:Nat)(enc:α->List PC)(m:List (Int×List α))(as:List AV):List ZaO:=mpT id 0 (zipE m as)::zipT sz enc m as
theorem Znq {κ υ:Type}[DecidableEq κ](p:κ×υ)(m:List (κ×υ))(x:κ)(z:υ):Zio (p::m) x z=if p.1=x then p.2 else Zio m x z:=by
 unfold Zio Zto;rw[Zx];by_cases h:p.1=x
 ·simp[h]
 simp[h]
theorem Znr (p:List Int×AV)(es:Ent)(x:List Int):Zla (p::es) x=if p.1=x then some p.2 else Zla es x:=by
 unfold Zla;rw[Zx];by_cases h:p.1=x
 ·simp[h]
 simp[h]
theorem ZuL {a:AV}{sz:Nat}{frz:Bool}{rows:List (List PC)}(h:Lies H (.arr a sz frz rows)):ZdG a=true/\ZaV a=true:=by
 rcases ZoA h with rfl|⟨id,ver,rfl⟩
 ·exact⟨rfl,rfl⟩
 exact⟨rfl,rfl⟩
def mval (sz:Nat)(m:List (Int×List α))(as:List AV)(x:Int):AV:=(Zla (zipE m as) [x]).getD (.p (.sl sz true []))
theorem Zq4 {sz:Nat}{enc:α->List PC}{x:Int}:∀{m:List (Int×List α)} {as:List AV} {pre:List ZaO},Fp H0 H f0 (pre++zipT sz enc m as)->ZaV (mval sz m as x)=true
 |[],as,pre,h=>by cases as<;>rfl
 |p::m,[],pre,h=>rfl
 |p::m,a::as,pre,h=>by
  unfold mval;simp only[zipE,Znr];by_cases e:[p.1]=[x]
  ·rw[Zaj e];have:=h.get pre.length (i:=.arr a sz false (p.2.map enc)) (by rw[ZB (Nat.le_refl _)];simp[zipT]);exact(ZuL this).2
  rw[Zai e];exact Zq4 (pre:=pre++[.arr a sz false (p.2.map enc)]) (by simpa[zipT]using h)
theorem Zva {sz bytes:Nat}(enc:α->List PC){x:Int}{e:α}{r:List α}:∀{m:List (Int×List α)} {as:List AV} {pre:List ZaO},as.length=m.length->Fp H0 H f0 (pre++zipT sz enc m as)->appI bytes (Zio m x []) [e]=some r→
  ∃a1 H1 as',appV H sz bytes (mval sz m as x) [enc e]=some (a1,H1)/\ZdG a1=true/\as'.length=(Zd6 m x r).length/\mset (zipE m as) [x] a1=zipE (Zd6 m x r) as'/\Fp H0 H1 f0 (pre++zipT sz enc (Zd6 m x r) as')
 |[],[],pre,_,h,hr=>by
  have hn:=h.snocNil sz false;simp only[zipT,List.append_nil]at hn;obtain⟨a',H',h1,h2⟩:=Fp.app (k:=pre.length) (a:=.p (.sl sz true [])) (sz:=sz) (frz:=false) (l:=[]) (m:=[e]) enc hn (by rw[ZB (Nat.le_refl _)];simp) hr;rw[Zq2]at h2;have hl:=h2.get pre.length (i:=.arr a' sz false (r.map enc)) (by rw[ZB (Nat.le_refl _)];simp);exact⟨a',H',[a'],h1,(ZuL hl).1,rfl,rfl,h2⟩
 |[],a::as,pre,hl,_,_=>by simp at hl
 |p::m,[],pre,hl,_,_=>by simp at hl
 |p::m,a::as,pre,hl,h,hr=>by
  rw[Znq]at hr;by_cases hx:p.1=x
  ·rw[Zaj hx]at hr;obtain⟨a',H',h1,h2⟩:=Fp.app (k:=pre.length) (a:=a) (sz:=sz) (frz:=false) (l:=p.2) (m:=[e]) enc h (by rw[ZB (Nat.le_refl _)];simp[zipT]) hr;have e1:(pre++zipT sz enc (p::m) (a::as)).set pre.length (.arr a' sz false (r.map enc))=pre++zipT sz enc ((x,r)::m) (a'::as):=by
    rw[Z1 _ _ (Nat.le_refl _),Nat.sub_self];rfl
   rw[e1]at h2;have hl2:=h2.get pre.length (i:=.arr a' sz false (r.map enc)) (by rw[ZB (Nat.le_refl _)];simp[zipT]);refine⟨a',H',a'::as,?_,(ZuL hl2).1,?_,?_,?_⟩
   ·unfold mval;simp only[zipE,Znr];rw[Zaj (by rw[hx])];exact h1
   ·simp only[Zd6,hx,Zak,ZN]at hl⊢;exact hl
   ·simp only[zipE,mset,Zd6,hx,Zak]
   simp only[Zd6,hx,Zak];exact h2
  rw[Zai hx]at hr;obtain⟨a1,H1,as',h1,h2,h3,h4,h5⟩:=Zva enc (m:=m) (as:=as) (pre:=pre++[.arr a sz false (p.2.map enc)]) (by simpa using hl) (by simpa[zipT]using h) hr;have hx':¬[p.1]=[x]:=λe=>hx (by simpa using e)
  refine⟨a1,H1,a::as',?_,h2,?_,?_,?_⟩
  ·unfold mval at h1⊢;simp only[zipE,Znr];rw[Zai hx'];exact h1
  ·simp only[Zd6,hx,Zah,ZN,h3]
  ·simp only[zipE,mset,Zd6,hx,hx',Zah,h4]
  simp only[Zd6,hx,Zah];simpa[zipT]using h5
theorem Fp.mapApp {id sz bytes:Nat}(enc:α->List PC){x:Int}{e:α}{r:List α}{m:List (Int×List α)}{as:List AV}(hF:Fp H0 H f0 (fix++mapT id sz enc m as))(hl:as.length=m.length)(hr:appI bytes (Zio m x []) [e]=some r):
  H[id]?=some (.lp mapL [] (.mp 0 (zipE m as)))/\ZaV (mval sz m as x)=true/\∃a1 H1 as' H2,appV H sz bytes (mval sz m as x) [enc e]=some (a1,H1)/\H1[id]?=some (.lp mapL [] (.mp 0 (zipE m as)))/\ZdG a1=true∧
   as'.length=(Zd6 m x r).length/\H2=H1.set id (.lp mapL [] (.mp 0 (mset (zipE m as) [x] a1)))/\Fp H0 H2 f0 (fix++mapT id sz enc (Zd6 m x r) as'):=by
 have hid:H[id]?=some (.lp mapL [] (.mp 0 (zipE m as))):=hF.get fix.length (i:=mpT id 0 (zipE m as)) (by rw[ZB (Nat.le_refl _)];simp[mapT]);have hF':Fp H0 H f0 ((fix++[mpT id 0 (zipE m as)])++zipT sz enc m as):=by simpa[mapT]using hF
 obtain⟨a1,H1,as',h1,h2,h3,h4,h5⟩:=Zva enc hl hF' hr;have hid1:H1[id]?=some (.lp mapL [] (.mp 0 (zipE m as))):=h5.get fix.length (i:=mpT id 0 (zipE m as)) (by rw[Zs,ZB (Nat.le_refl _)];simp);obtain⟨H2,e2,h6⟩:=Fp.setMp (k:=fix.length) (id:=id) (kn:=0) (es:=zipE m as) h5 (by rw[Zs,ZB (Nat.le_refl _)];simp) (zipE (Zd6 m x r) as');refine⟨hid,Zq4 hF',a1,H1,as',H2,h1,hid1,h2,h3,by rw[h4];exact e2,?_⟩;have e3:(fix++[mpT id 0 (zipE m as)]++zipT sz enc (Zd6 m x r) as').set fix.length (mpT id 0 (zipE (Zd6 m x r) as'))=fix++mapT id sz enc (Zd6 m x r) as':=by
  rw[Zs,Z1 _ _ (Nat.le_refl _),Nat.sub_self];rfl
 rwa [e3]at h6
theorem Fp.mapNew {sz:Nat}(enc:α->List PC)(hF:Fp H0 H f0 items):∃id H',id=H.length/\H'=H++[.lp mapL [] (.mp 0 [])]/\Fp H0 H' f0 (mapT id sz enc ([]:List (Int×List α)) []++items):=Fp.newMp hF 0
theorem ZKZ {id sz kn:Nat}{enc:α->List PC}{m:List (Int×List α)}{as:List AV}{bs:List Nat}{clock:Nat}{seen:List Nat}{es:Ent}(hF:Fp H0 H f0 (fix++mapT id sz enc m as)):
  HP (hIt H id mapL [] kn es bs clock seen) (fix++zipT sz enc m as):=by
 have hid:H[id]?=some (.lp mapL [] (.mp 0 (zipE m as))):=hF.get fix.length (i:=mpT id 0 (zipE m as)) (by rw[ZB (Nat.le_refl _)];simp[mapT]);have h1:HP H (fix++zipT sz enc m as):=by
  have:=hF.now.drop fix.length
  rwa [List.eraseIdx_append_of_length_le (Nat.le_refl _),Nat.sub_self]at this
 refine h1.same λi hi q ho=>?_
 have hlt:=(h1.lies i hi).lt q ho;have hne:q≠id:=by
  intro e;subst e;obtain⟨j,hj,hji⟩:=List.getElem_of_mem hi;have hk:(fix++mapT q sz enc m as)[fix.length]?=some (mpT q 0 (zipE m as)):=by rw[ZB (Nat.le_refl _)];simp[mapT]
  by_cases hjf:j<fix.length
  ·have h2:(fix++mapT q sz enc m as)[j]?=some i:=by
    rw[ZA hjf,←hji,List.getElem_append_left hjf,ZF hjf]
   exact hF.now.apart h2 hk (by omega) ho rfl
  have h2:(fix++mapT q sz enc m as)[j+1]?=some i:=by
   rw[ZB (by omega),←hji,List.getElem_append_right (by omega)];simp only[mapT];rw[show j+1-fix.length=(j-fix.length)+1 by omega,ZC,ZF]
  exact hF.now.apart h2 hk (by omega) ho rfl
 unfold hIt;rw[ZA (by simpa using hlt),ZK (Ne.symm hne)]
theorem Zyv {sz:Nat}{enc:α->List PC}:∀{m:List (Int×List α)} {as:List AV},as.length=m.length->∀(i:Nat) (p:List Int×AV),(zipE m as)[i]?=some p->∃q,m[i]?=some q/\p.1=[q.1]/\(zipT sz enc m as)[i]?=some (.arr p.2 sz false (q.2.map enc))
 |[],[],_,i,p,h=>by simp[zipE]at h
 |[],_::_,hl,_,_,_=>by simp at hl
 |_::_,[],hl,_,_,_=>by simp at hl
 |q::m,a::as,hl,0,p,h=>by
  simp only[zipE,ZD,Zab]at h;subst h;exact⟨q,rfl,rfl,rfl⟩
 |q::m,a::as,hl,i+1,p,h=>Zyv (m:=m) (as:=as) (by simpa using hl) i p (by simpa[zipE]using h)
theorem Zuz:∀{m:List (Int×List α)} {as:List AV},as.length=m.length->(zipE m as).length=m.length
 |[],[],_=>rfl
 |[],_::_,hl=>by simp at hl
 |_::_,[],hl=>by simp at hl
 |q::m,a::as,hl=>by simp only[zipE,ZN];rw[Zuz (by simpa using hl)]
def rgF (f:List α->Option Bool):List (Int×List α)->Option Bool
 |[]=>some false
 |p::m=>(f p.2).bind λb=>(rgF f m).bind λc=>some (b||c)
def Zsp (f:List α->Option Bool)(m:List (Int×List α))(i:Nat):Bool:=match m[i]? with
 |some p=>f p.2==some true
 |none=>false
theorem Zyy {f:List α->Option Bool}:∀{m:List (Int×List α)} {b:Bool},rgF f m=some b->(∀(i:Nat) p,m[i]?=some p->∃c,f p.2=some c)/\(List.range m.length).any (Zsp f m)=b
 |[],b,h=>by simp only[rgF,Zab]at h;subst h;exact⟨by simp,rfl⟩
 |p::m,b,h=>by
  obtain⟨c,h1,h2⟩:=bind_some h;obtain⟨d,h3,h4⟩:=bind_some h2;simp only[Zab]at h4;obtain⟨i1,i2⟩:=Zyy h3;refine⟨λi q hq=>?_,?_⟩
  ·cases i with
   |zero=>simp only[ZD,Zab]at hq;subst hq;exact⟨c,h1⟩
   |succ i=>exact i1 i q (by simpa using hq)
  rw[ZN,List.range_succ_eq_map,List.any_cons,List.any_map];have e1:Zsp f (p::m) 0=c:=by
   unfold Zsp;simp only[ZD,h1];cases c<;>rfl
  have e2:(Zsp f (p::m)) ∘ Nat.succ=Zsp f m:=by
   funext i;simp only[Function.comp,Zsp,ZC]
  rw[e1,e2,i2,h4]
end
section
variable {P:Program} {n:Nat} {s s0 s1:St} {H H':List HO} {items:List ZaO}
theorem HP.two (h:HP H items){i j:Nat}{x y:ZaO}(hi:items[i]?=some x)(hj:items[j]?=some y)(hne:i≠j):HP H [x,y]:=
 ⟨h.get i hi,λid hx z hz hzo=>by
  simp only[ZX]at hz;subst hz;exact h.apart hi hj hne hx hzo,h.get j hj,by simp,trivial⟩
theorem HP.three (h:HP H items){i j k:Nat}{x y z:ZaO}(hi:items[i]?=some x)(hj:items[j]?=some y)(hk:items[k]?=some z)(hij:i≠j)(hik:i≠k)(hjk:j≠k):HP H [x,y,z]:=
 ⟨h.get i hi,λid hx w hw hwo=>by
  rcases List.mem_cons.1 hw with rfl|hw
  ·exact h.apart hi hj hij hx hwo
  simp only[ZX]at hw;subst hw;exact h.apart hi hk hik hx hwo,h.two hj hk hjk⟩
theorem Zz4 {a:IC}{Q:Exit->St->Prop}(h:EvX P n a s Q):vc P n (.box a) Q s:=h
theorem Zz5 {a:IC}{Q:Exit->St->Prop}(s1:St)(he:s=s1)(h:vc P n a Q s1):vc P n a Q s:=he▸h
theorem Zy7 {ops:List IOp}(h:(opsF Zeu ops s).isSome=true)(he:opsD ops s=s0):Zba P ops s s0:=he▸ZpD h
theorem ZzT {id kn:Nat}{L:LC}{fr:List (Nat×AV)}{es:Ent}{bs:List Nat}{clock:Nat}{seen:List Nat}(hid:id<H.length):(hIt H id L fr kn es bs clock seen)[id]?=some (.lp L fr (.mps kn es bs clock)):=by
 unfold hIt;rw[ZA (by simpa using hid),List.getElem?_set_self hid]
theorem ZKY {id kn:Nat}{L:LC}{fr:List (Nat×AV)}{es:Ent}{bs:List Nat}{clock:Nat}{seen:List Nat}:(hIt H id L fr kn es bs clock seen)[H.length]?=some (.lp itL [] (.it id clock seen clock)):=by
 unfold hIt;rw[ZB (by simp)];simp
theorem ZxF {d id:Nat}{xs:List IX}{es:Ent}{x:Int}{zero r:AV}(hs:s.H=H)(hy:xs.map (ev s.fr)=[.map id,keyA 0 [x]])(hH:H[id]?=some (.lp mapL [] (.mp 0 es)))(hr:r=(Zla es [x]).getD zero)(hno:ZaV r=true):
  ZaH P (.sp (some d) (.mapGet 0 false zero) xs) s ⟨put s.fr d r,s.bx,s.H⟩:=by
 subst hs;exact ZsJ (d:=some d) hy hH rfl (by rw[hr];rfl) hno rfl
theorem ZxE {id:Nat}{xs:List IX}{es:Ent}{x:Int}{y:AV}(hs:s.H=H)(hy:xs.map (ev s.fr)=[.map id,keyA 0 [x],y])(hH:H[id]?=some (.lp mapL [] (.mp 0 es)))(hok:ZdG y=true)(hH':H'=H.set id (.lp mapL [] (.mp 0 (mset es [x] y)))):
  ZaH P (.sp none (.mapSet 0) xs) s ⟨s.fr,s.bx,H'⟩:=by
 subst hs;exact ZsI hy hH rfl hok (by rw[hH'])
theorem Zww {d:Nat}{xs:List IX}{id j kn i x:Nat}{L:LC}{fr:List (Nat×AV)}{es:Ent}{bs:List Nat}{clock:Nat}{seen:List Nat}{p:List Int×AV}(hs:s.H=H)(hx:xs.map (ev s.fr)=[.map j])(hi:es[i]?=some p)(hb:bs[i]?=some x)(hv:ZdG p.2=true)
  (hH:H[id]?=some (.lp L fr (.mps kn es bs clock))) (hJ:H[j]?=some (.lp itL [] (.it id clock (seen++[x]) clock))):
  ZaH P (.sp (some d) .entry xs) s ⟨put s.fr d (.tup [keyA kn p.1,p.2]),s.bx,s.H⟩:=by
 subst hs;exact ZxI hi hb hv hx hH hJ
end
end Go.Eng

namespace Go.Eng
open Go
theorem Zz6 {f:IX->AV}{a b:AV}{l:List IX}(h:l.map f=[a,b]):∃x y,l=[x,y]/\f x=a/\f y=b:=by
 cases l with
 |nil=>cases h
 |cons x l=>cases l with
  |nil=>simp at h
  |cons y l=>cases l with
   |nil=>simp only[ZU,ZV,Zt,Zad]at h;exact⟨x,y,rfl,h.1,h.2⟩
   |cons z l=>simp at h
section
variable {P:Program} {s:St}
theorem Zz9 {d:Nat}{x y:IX}{z:PC}{bytes:Nat}{m:Int}{id:Nat}{H H':List HO}(hs:s.H=H)(hx:ev s.fr x=.p (.int .i64 m))(hy:ev s.fr y=.p (.int .i64 m))
  (hb:0<=m/\m*bytes<=140737488355328/\m<=140737488355328) (hid:id=H.length) (hH:H'=H++[.cells (List.replicate m.toNat (.p z))]):
  ZaH P (.sp (some d) (.mkS [z] bytes) [x,y]) s ⟨put s.fr d (.csl id m.toNat),s.bx,H'⟩:=by
 subst hs hid hH;refine Zvt rfl ?_ rfl;intro k n g t a w o d ys he hH h hc;rw[←hH];obtain⟨x',y',rfl,hx',hy'⟩:=Zz6 (f:=ev t.fr) (a:=.p (.int .i64 m)) (b:=.p (.int .i64 m)) (by rw[he,←hx];simp only[ZU,ZV];rw[hx,hy]);simp only[ZmO,Ze,Zag]at hc;obtain⟨⟨hd,hdn⟩,hc⟩:=hc;split at hc
 ·rename_i d' x1 y1 e1;simp only[Zt,Zad]at e1;obtain⟨rfl,rfl⟩:=e1;simp only[Ze,Zag]at hc;obtain⟨_,hc⟩:=hc;simp only[chkS,Ze,Zag]at hc;obtain⟨⟨hd2,hn⟩,hc⟩:=hc;split at hc
  ·rename_i ty X Y hop;simp only[Ze]at hc;obtain⟨⟨hty,hmX⟩,hmY⟩:=hc;split at hty
   ·rename_i e ht;simp only[Ze]at hty;obtain⟨⟨hz,hsz⟩,hty⟩:=hty;split at hty
    ·rename_i i hi;simp only[Zag]at hty;subst hty;have hisz:i.size=1:=by
      unfold Zdh at hsz;simpa[hi]using hsz
     obtain⟨h0,h2,h3⟩:=hb;have eX:a.eval X=.int .i64 m:=ZcM (c:=cx k g t.H w) (by rw[←hx'];exact Zca h hmX);have eY:a.eval Y=.int .i64 m:=ZcM (c:=cx k g t.H w) (by rw[←hy'];exact Zca h hmY);unfold Zj2 at hz;rw[hi]at hz;simp only at hz;split at hz
     ·rename_i zz hiz;have hrun:=Zi1 (P:=P) (w:=w) ht hi hiz h0 (Int.le_refl m) h2 h3;obtain⟨hzl,hzok⟩:=Zgc (c:=cx k g t.H w) hz;have hzlen:=hzl.length;simp only[Zd,ZO,ZN,ZP]at hzlen;generalize hvs:(Array.range (m.toNat*i.size)).map ((if m.toNat*i.size=0 then #[]else zz.cells)[· %(if m.toNat*i.size=0 then #[]else zz.cells).size]!)=vs at hrun;have hvsz:vs.size=m.toNat:=by rw[←hvs];simp[hisz]
      have hvget:∀q,q<m.toNat->vs[q]?=zz.cells[0]?:=by
       intro q hq;have hne:¬m.toNat*i.size=0:=by rw[hisz];omega
       rw[←hvs];simp only[hne,Zah];have h1:zz.cells.size=1:=by omega
       have hlt:0<zz.cells.size:=by omega
       have hq2:q<m.toNat*i.size:=by rw[hisz];omega
       simp[hq2,h1,Nat.mod_one]
      have hz0:VR (cx k g t.H w) (.p z) zz.cells[0]!:=by
       rw[Zed]at hzl;have h1:0<zz.cells.size:=by omega
       have:=hzl.2 0 (.p z) zz.cells[0]! (by simp) (by simp[h1]);exact this
      have hl:=h.laterNewG (o:=.cells (List.replicate m.toNat (.p z))) (.cells vs e);have hvl:VRL (cx k g t.H w) (List.replicate m.toNat (.p z)) vs.toList:=by
       rw[Zed];refine⟨by simp[hvsz],λj x v hx hv=>?_⟩;rw[ZI]at hx;split at hx
       ·rename_i hj;cases hx;have:vs.toList[j]?=zz.cells[0]?:=by rw[←hvget j hj];simp
        rw[this]at hv;have h1:0<zz.cells.size:=by omega
        have e2:zz.cells[0]! =v:=by
         rw[Zb h1]at hv;cases hv;simp[h1]
        rw[←e2];exact hz0
       cases hx
      have hno:∀q:Nat,noLocL (List.replicate q (AV.p z))=true:=by
       intro q;induction q with
       |zero=>rfl
       |succ q ih=>simp only[List.replicate_succ,noLocL,ZaV.noLocL,Ze];exact⟨rfl,ih⟩
      have hok:∀q:Nat,ZaL (List.replicate q (AV.p z))=true:=by
       intro q;induction q with
       |zero=>rfl
       |succ q ih=>simp only[List.replicate_succ,ZaL,Ze];exact⟨rfl,ih⟩
      have ho:HoR (cx k ⟨g.ρ++[w.heap.size],g.β⟩ (t.H++[.cells (List.replicate m.toNat (.p z))]) (w.alloc (.cells vs e))) w.heap.size (.cells (List.replicate m.toNat (.p z))):=
       ⟨hok _,vs,⟨e,World.alloc_heap_new w _⟩,VRL.later hl _ _ (hno _) hvl⟩
      obtain⟨h1,_⟩:=h.newObjG (o:=.cells (List.replicate m.toNat (.p z))) (.cells vs e) ho;refine⟨_,_,⟨g.ρ++[w.heap.size],g.β⟩,.inl (by simp only[execOp,hop,eX,eY,Sem.run_bind];rw[hrun];rfl),?_⟩;rw[hd];refine h1.putO hdn ?_ rfl;rw[VR];refine⟨List.replicate m.toNat (.p z),w.heap.size,?_,?_,rfl⟩
      ·show(t.H++[_])[t.H.length]?=_;simp
      show(g.ρ++[_])[t.H.length]?=_;rw[←h.len];simp
     cases hz
    cases hty
   cases hty
  cases hc
 cases hc
end
section
variable {H0 H H':List HO} {f0 items:List ZaO} {α:Type} {k id n sz:Nat} {as:List AV} {frz:Bool}
theorem Zsi (enc:α->List PC){l:List (List α)}{i:Int}{e:List α}(h:idx l i=some e):(l.map (List.map enc))[i.toNat]?=some (e.map enc)/\i.toNat<l.length/\0<=i:=by
 unfold idx at h;split at h
 ·rename_i h0;have h1:=(List.getElem?_eq_some_iff.1 h).1;exact⟨by rw[ZH,h];rfl,h1,h0⟩
 cases h
theorem Fp.famGet {l:List (List α)}{i:Int}{e:List α}(enc:α->List PC)(hF:Fp H0 H f0 items)(hk:items[k]?=some (.fam id n as sz frz (l.map (List.map enc))))(h:idx l i=some e):
  ∃a,Lies H (.cel id as)/\(∀kk:IntKind,Za6 (.iaddrS 1) [.csl id n,.p (.int kk i)]=some (.ptr id i.toNat))/\sub i.toNat 1 as=some [a]/\OwnF sz e.length a/\Lies H (.arr a sz frz (e.map enc)):=by
 obtain⟨h1,h2,h3,h4,h5⟩:=hF.get k hk;obtain⟨r1,r2,r3⟩:=Zsi enc h;rw[ZO]at h3;have hlt:i.toNat<as.length:=by omega
 have hl:Lies H (.arr as[i.toNat] sz frz (e.map enc)):=h4 i.toNat _ _ (ZF hlt) r1;refine⟨as[i.toNat],h1,λkk=>?_,?_,?_,hl⟩
 ·simp only[Za6];rw[Zaj ⟨trivial,r3,by omega⟩]
 ·unfold sub;rw[Zaj (by omega),List.drop_eq_getElem_cons hlt];rfl
 have:=ZcS hl
 rwa [ZO]at this
theorem famLen {l:List (List α)}{enc:α->List PC}(hF:Fp H0 H f0 items)(hk:items[k]?=some (.fam id n as sz frz (l.map (List.map enc)))):l.length=n:=by
 obtain⟨h1,h2,h3,h4,h5⟩:=hF.get k hk
 rwa [ZO]at h3
theorem Zwr {as:List AV}{i:Nat}{a:AV}(h:sub i 1 as=some [a]):as[i]?=some a:=by
 unfold sub at h;split at h
 ·rename_i hl;have hlt:i<as.length:=by omega
  rw[List.drop_eq_getElem_cons hlt]at h;simp only[List.take_succ_cons,List.take_zero,Zab,Zt,Zad]at h;rw[←h,ZF hlt]
 cases h
theorem HP.replaceX:∀{items:List ZaO} {k:Nat} {i i':ZaO},HP H items->items[k]?=some i->Lies H' i'->(∀id,Occ i' id->Occ i id∨∀(m:Nat) x,m≠k->items[m]?=some x->¬Occ x id)→
  (∀id,id<H.length->¬Occ i id->H'[id]?=H[id]?)->HP H' (items.set k i')
 |[],k,i,i',h,hk,_,_,_=>by simp at hk
 |j::is,0,i,i',h,hk,hl,ho,hs=>by
  simp only[ZD,Zab]at hk;subst hk;refine⟨hl,λid hid x hx hxo=>?_,HP.same h.2.2 λx hx id hxo=>hs id ((HP.lies h.2.2 x hx).lt id hxo) λhj=>h.2.1 id hj x hx hxo⟩;rcases ho id hid with h1|h1
  ·exact h.2.1 id h1 x hx hxo
  obtain⟨m,hm⟩:=List.getElem?_of_mem hx;exact h1 (m+1) x (by omega) (by simpa using hm) hxo
 |j::is,k+1,i,i',h,hk,hl,ho,hs=>by
  simp only[ZC]at hk;have hi:i∈is:=List.mem_of_getElem? hk;refine⟨h.1.same λid hid=>hs id (h.1.lt id hid) λhio=>h.2.1 id hid i hi hio,λid hid x hx hxo=>?_,HP.replaceX h.2.2 hk hl (λid hid=>?_) hs⟩
  ·rcases List.mem_or_eq_of_mem_set hx with h1|rfl
   ·exact h.2.1 id hid x h1 hxo
   rcases ho id hxo with h1|h1
   ·exact h.2.1 id hid i hi h1
   exact h1 0 j (by omega) rfl hid
  rcases ho id hid with h1|h1
  ·exact .inl h1
  exact .inr λm x hm hx=>h1 (m+1) x (by omega) (by simpa using hx)
theorem Fp.famRow {l:List (List α)}{i j:Int}{r:List α}{e e':α}{a:AV}{off:Nat}{ps:List PC}{cs:List AV}(enc:α->List PC)(hF:Fp H0 H f0 items)(hk:items[k]?=some (.fam id n as sz false (l.map (List.map enc))))
  (h:idx l i=some r) (ha:sub i.toNat 1 as=some [a]) (h2:idx r j=some e) (hu:unP cs=some ps) (hs:ZbU off ps (enc e)=some (enc e')):
  ∃q ver H',a=.osl sz q ver 0 r.length/\(∀kk:IntKind,Za6 (.iaddrS sz) [a,.p (.int kk j)]=some (.optr sz q ver (0+j.toNat) 0))/\(∀bx,wrt bx H cs (.optr sz q ver (0+j.toNat) off)=some ⟨bx,H'⟩)∧
   Fp H0 H' f0 (items.set k (.fam id n as sz false ((l.set i.toNat (r.set j.toNat e')).map (List.map enc)))):=by
 obtain⟨g1,g2,g3,g4,g5⟩:=hF.get k hk;obtain⟨r1,r2,r3⟩:=Zsi enc h;have ha':=Zwr ha;have h1:=(Zl7 enc h2).1;have hrow:=(Zl7 enc h2).2;rcases g4 i.toNat a _ ha' r1 with⟨_,hl⟩|⟨q,ver,rfl,f,hf,hid⟩
 ·have:r=[]:=by cases r with
   |nil=>rfl
   |cons x xs=>simp at hl
  subst this;simp at h1;omega
 have hff:=hf rfl;subst hff;have hlt:=(List.getElem?_eq_some_iff.1 hid).1;refine⟨q,ver,H.set q (.arr sz ver false ((r.map enc).set j.toNat (enc e'))),by simp,λkk=>?_,λbx=>?_,?_⟩
 ·simp only[Za6,ZO];rw[Zaj ⟨trivial,h1.1,by have:=h1.2;rwa [ZO]at this⟩]
 ·simp only[wrt,hid,Z7,and_self,Zak,hrow,Z8,hu,hs,Zaa]
 have hne:id≠q:=by
  intro e1;subst e1;rw[g1]at hid;cases hid
 refine hF.step hk ⟨by rw[ZK (Ne.symm hne)];exact g1,g2,by simpa using g3,λm b s hb hs'=>?_,g5⟩ (λid' ho=>.inl ho) (λid' hl' ho=>?_) (by simp)
 ·rw[List.map_set,ZJ]at hs';by_cases hm:i.toNat=m
  ·subst hm;rw[Zaj rfl]at hs';split at hs'
   ·cases hs';rw[ha']at hb;cases hb;exact .inr ⟨q,ver,by simp,false,λ_=>rfl,by rw[List.map_set];simp[hlt]⟩
   cases hs'
  rw[Zai hm]at hs';rcases g4 m b s hb hs' with h|⟨q',ver',rfl,f,hf,h⟩
  ·exact .inl h
  refine .inr ⟨q',ver',rfl,f,hf,?_⟩;rw[ZK]
  ·exact h
  intro e1;subst e1;exact hm (g5 _ _ _ _ _ _ _ _ _ _ _ ha' hb)
 rw[ZK];intro e1;subst e1;exact ho (.inr ⟨sz,ver,0,_,List.mem_of_getElem? ha'⟩)
theorem Fp.famSet {j:Nat}{l:List (List α)}{i:Int}{e r:List α}{b:AV}(enc:α->List PC)(hF:Fp H0 H f0 items)(hk:items[k]?=some (.fam id n as sz false (l.map (List.map enc))))(hj:items[j]?=some (.arr b sz false (r.map enc)))(hne:k≠j)
  (h:idx l i=some e):∃as' H',(∀kk:IntKind,Za6 (.iaddrS 1) [.csl id n,.p (.int kk i)]=some (.ptr id i.toNat))/\(∀bx,wrt bx H [b] (.ptr id i.toNat)=some ⟨bx,H'⟩)∧
   Fp H0 H' f0 ((items.set j (.arr (.p (.sl sz true [])) sz false [])).set k (.fam id n as' sz false ((l.set i.toNat r).map (List.map enc)))):=by
 obtain⟨g1,g2,g3,g4,g5⟩:=hF.get k hk;obtain⟨r1,r2,r3⟩:=Zsi enc h;have g3':=g3;rw[ZO]at g3';have hlt:i.toNat<as.length:=by omega
 have hidlt:=(List.getElem?_eq_some_iff.1 g1).1;have hb:=hF.get j hj;have hsp:ZbU i.toNat [b] as=some (as.set i.toNat b):=by
  unfold ZbU;rw[Zaj (by simp;omega),List.set_eq_take_append_cons_drop,Zaj hlt];simp
 refine⟨as.set i.toNat b,H.set id (.cells (as.set i.toNat b)),λkk=>?_,λbx=>?_,?_⟩
 ·simp only[Za6];rw[Zaj ⟨trivial,r3,by omega⟩]
 ·simp only[wrt,g1,hsp,Zaa]
 have h1:Fp H0 H f0 (items.set j (.arr (.p (.sl sz true [])) sz false [])):=hF.step hj (.inl ⟨rfl,rfl⟩) (λid ⟨_,_,_,_,e⟩=>by cases e) (λ_ _ _=>rfl) (Nat.le_refl _);have hk1:(items.set j (.arr (.p (.sl sz true [])) sz false []))[k]?=some (.fam id n as sz false (l.map (List.map enc))):=by rw[ZK (Ne.symm hne)];exact hk
 have hown:∀q,(∃s1 v1 o1 l1,b=.osl s1 q v1 o1 l1)->∀(m:Nat) x,m≠j->items[m]?=some x->¬Occ x q:=λq hq m x hm hx ho=>hF.now.apart hj hx (Ne.symm hm) hq ho
 have hbi:∀q s1 v1 o1 l1,b=.osl s1 q v1 o1 l1->q≠id:=λq s1 v1 o1 l1 e1 e2=>hown q ⟨s1,v1,o1,l1,e1⟩ k _ hne hk (.inl e2.symm)
 have hba:∀q s1 v1 o1 l1,b=.osl s1 q v1 o1 l1->∀s2 v2 o2 l2,.osl s2 q v2 o2 l2∉as:=λq s1 v1 o1 l1 e1 s2 v2 o2 l2 hm=>hown q ⟨s1,v1,o1,l1,e1⟩ k _ hne hk (.inr ⟨s2,v2,o2,l2,hm⟩)
 have hlies:Lies (H.set id (.cells (as.set i.toNat b))) (.fam id n (as.set i.toNat b) sz false ((l.set i.toNat r).map (List.map enc))):=by
  refine⟨by simp[hidlt],by simpa using g2,by simpa using g3',λm a s ha hs'=>?_,λm1 m2 q s1 v1 o1 l1 s2 v2 o2 l2 e1 e2=>?_⟩
  ·rw[ZJ]at ha;rw[List.map_set,ZJ]at hs';by_cases hm:i.toNat=m
   ·subst hm;rw[Zaj rfl]at ha hs';rw[Zaj hlt]at ha;rw[Zaj (by rw[ZO];exact r2)]at hs';cases ha;cases hs';rcases hb with h|⟨q,ver,rfl,f,hf,h⟩
    ·exact .inl h
    refine .inr ⟨q,ver,rfl,f,hf,?_⟩;rw[ZK (Ne.symm (hbi q _ _ _ _ rfl))];exact h
   rw[Zai hm]at ha hs';rcases g4 m a s ha hs' with h|⟨q,ver,rfl,f,hf,h⟩
   ·exact .inl h
   refine .inr ⟨q,ver,rfl,f,hf,?_⟩;rw[ZK]
   ·exact h
   intro e1;subst e1;rw[g1]at h;cases h
  rw[ZJ]at e1 e2;by_cases h1:i.toNat=m1<;>by_cases h2:i.toNat=m2
  ·omega
  ·subst h1;rw[Zaj rfl,Zaj hlt]at e1;rw[Zai h2]at e2;cases e1;exact absurd (List.mem_of_getElem? e2) (hba q _ _ _ _ rfl _ _ _ _)
  ·subst h2;rw[Zaj rfl,Zaj hlt]at e2;rw[Zai h1]at e1;cases e2;exact absurd (List.mem_of_getElem? e1) (hba q _ _ _ _ rfl _ _ _ _)
  rw[Zai h1]at e1;rw[Zai h2]at e2;exact g5 _ _ _ _ _ _ _ _ _ _ _ e1 e2
 have hocc:∀q,Occ (.fam id n (as.set i.toNat b) sz false ((l.set i.toNat r).map (List.map enc))) q->Occ (.fam id n as sz false (l.map (List.map enc))) q∨Occ (.arr b sz false (r.map enc)) q:=by
  rintro q (rfl|⟨s1,v1,o1,l1,hm⟩)
  ·exact .inl (.inl rfl)
  rcases List.mem_or_eq_of_mem_set hm with hm|e1
  ·exact .inl (.inr ⟨s1,v1,o1,l1,hm⟩)
  exact .inr ⟨s1,v1,o1,l1,e1.symm⟩
 have hsame:∀q,q<H.length->¬Occ (.fam id n as sz false (l.map (List.map enc))) q->(H.set id (.cells (as.set i.toNat b)))[q]?=H[q]?:=λq _ ho=>by
  rw[ZK];intro e1;subst e1;exact ho (.inl rfl)
 refine hF.trans
  {size:=by simp
   same:=λq hq hno=>hsame q hq (hno _ (List.mem_of_getElem? hk))
   now:=h1.now.replaceX hk1 hlies (λq hq=>?_) hsame
   occ:=λx hx q hxo=>?_}
 ·rcases hocc q hq with h|h
  ·exact .inl h
  refine .inr λm x hm hx ho=>?_
  by_cases hmj:j=m
  ·subst hmj;rw[ZJ]at hx;rw[Zaj rfl]at hx;split at hx
   ·cases hx;obtain⟨_,_,_,_,e1⟩:=ho;cases e1
   cases hx
  rw[ZK hmj]at hx;exact hown q h m x (λe1=>hmj e1.symm) hx ho
 rcases List.mem_or_eq_of_mem_set hx with hx|rfl
 ·rcases List.mem_or_eq_of_mem_set hx with hx|rfl
  ·exact .inl ⟨x,hx,hxo⟩
  obtain⟨_,_,_,_,e1⟩:=hxo;cases e1
 rcases hocc q hxo with h|h
 ·exact .inl ⟨_,List.mem_of_getElem? hk,h⟩
 exact .inl ⟨_,List.mem_of_getElem? hj,h⟩
def famI {α:Type}(bytes:Nat)(m:Int):Option (List (List α)):=if 0<=m/\m*bytes<=140737488355328/\m<=140737488355328 then some (List.replicate m.toNat [])else none
theorem Fp.famNew {m:Int}{bytes:Nat}{l:List (List α)}(enc:α->List PC)(sz:Nat)(hF:Fp H0 H f0 items)(h:famI bytes m=some l):
  ∃id n as H',id=H.length/\n=m.toNat/\H'=H++[.cells (List.replicate m.toNat (.p (.sl sz true [])))]/\(0<=m/\m*bytes<=140737488355328/\m<=140737488355328)/\l.length=n/\Fp H0 H' f0 (.fam id n as sz false (l.map (List.map enc))::items):=by
 unfold famI at h;split at h
 ·rename_i hb;cases h;refine⟨_,_,List.replicate m.toNat (.p (.sl sz true [])),_,rfl,rfl,rfl,hb,by simp,hF.new ⟨by simp,by simp,by simp,λi a r ha hr=>?_,λi j q s1 v1 o1 l1 s2 v2 o2 l2 e1 e2=>?_⟩ (λq ho=>?_)⟩
  ·rw[ZI]at ha;rw[List.map_replicate,ZI]at hr;by_cases hlt:i<m.toNat
   ·rw[Zaj hlt]at ha hr;cases ha;cases hr;exact .inl ⟨rfl,rfl⟩
   rw[Zai hlt]at ha;cases ha
  ·rw[ZI]at e1;split at e1<;>cases e1
  rcases ho with rfl|⟨s1,v1,o1,l1,hm⟩
  ·rfl
  cases (List.mem_replicate.1 hm).2
 cases h
theorem Fp.famFrz {l:List (List α)}{i:Int}{r:List α}{a:AV}(enc:α->List PC)(hF:Fp H0 H f0 items)(hk:items[k]?=some (.fam id n as sz frz (l.map (List.map enc))))(h:idx l i=some r)(ha:sub i.toNat 1 as=some [a]):
  ∃H',frz1 H a=some (.p (.sl sz false (r.map enc)),H')/\frzV H a=some (.p (.sl sz false (r.map enc)),H')/\Fp H0 H' f0 (items.set k (.fam id n as sz true (l.map (List.map enc)))):=by
 obtain⟨g1,g2,g3,g4,g5⟩:=hF.get k hk;obtain⟨r1,r2,r3⟩:=Zsi enc h;have ha':=Zwr ha;have up:∀(i:Nat) a r,as[i]?=some a->(l.map (List.map enc))[i]?=some r->(a=.p (.sl sz true [])/\r=[])∨∃id ver,a=.osl sz id ver 0 r.length/\∃f,(true=false->f=false)/\H[id]?=some (.arr sz ver f r):=λi a r x y=>by
  rcases g4 i a r x y with h|⟨q,ver,e,f,_,h⟩
  ·exact .inl h
  exact .inr ⟨q,ver,e,f,by simp,h⟩
 rcases g4 i.toNat a _ ha' r1 with⟨rfl,hl⟩|⟨q,ver,rfl,f,hf,hid⟩
 ·refine⟨H,by rw[hl];rfl,by rw[hl];rfl,hF.step hk ⟨g1,g2,g3,up,g5⟩ (λ_ ho=>.inl ho) (λ_ _ _=>rfl) (Nat.le_refl _)⟩
 have hlt:=(List.getElem?_eq_some_iff.1 hid).1;have e1:frz1 H (.osl sz q ver 0 (r.map enc).length)=some (.p (.sl sz false (r.map enc)),H.set q (.arr sz ver true (r.map enc))):=by
  simp only[frz1,hid,and_self,Zak,sub,Z7,Nat.le_refl,Zw,Z3,Zaa]
 have hne:id≠q:=by
  intro e2;subst e2;rw[g1]at hid;cases hid
 refine⟨H.set q (.arr sz ver true (r.map enc)),e1,e1,hF.step hk ⟨by rw[ZK (Ne.symm hne)];exact g1,g2,g3,λm b s hb hs'=>?_,g5⟩ (λ_ ho=>.inl ho) (λq' _ ho=>?_) (by simp)⟩
 ·rcases up m b s hb hs' with h|⟨q',ver',rfl,f',hf',h⟩
  ·exact .inl h
  by_cases hq:q'=q
  ·subst hq;have hm:=g5 _ _ _ _ _ _ _ _ _ _ _ ha' hb;subst hm;rw[r1]at hs';cases hs';rw[hid]at h;cases h;rw[ha']at hb;exact .inr ⟨q',ver,rfl,true,by simp,by simp[hlt]⟩
  refine .inr ⟨q',ver',rfl,f',hf',?_⟩;rw[ZK (Ne.symm hq)];exact h
 rw[ZK];intro e2;subst e2;exact ho (.inr ⟨sz,ver,0,_,List.mem_of_getElem? ha'⟩)
theorem Fp.famUp (hF:Fp H0 H f0 items){rows:List (List (List PC))}(hk:items[k]?=some (.fam id n as sz frz rows)):Fp H0 H f0 (items.set k (.fam id n as sz true rows)):=by
 obtain⟨g1,g2,g3,g4,g5⟩:=hF.get k hk;refine hF.step hk ⟨g1,g2,g3,λi a r x y=>?_,g5⟩ (λ_ ho=>.inl ho) (λ_ _ _=>rfl) (Nat.le_refl _);rcases g4 i a r x y with h|⟨q,ver,e,f,_,h⟩
 ·exact .inl h
 exact .inr ⟨q,ver,e,f,by simp,h⟩
theorem Lies.elem {r:List α}{j:Int}{e:α}{a:AV}(enc:α->List PC)(hl:Lies H (.arr a sz frz (r.map enc)))(h:idx r j=some e):
  ∃id ver f,(frz=false->f=false)/\H[id]?=some (.arr sz ver f (r.map enc))/\a=.osl sz id ver 0 r.length/\∀kk:IntKind,Za6 (.iaddrS sz) [a,.p (.int kk j)]=some (.optr sz id ver (0+j.toNat) 0):=
 HP.elem (items:=[.arr a sz frz (r.map enc)]) (k:=0) enc ⟨hl,λ_ _ _ hj=>by simp at hj,trivial⟩ rfl h
theorem Fp.famRowAt {l:List (List α)}{i j:Int}{r:List α}{e e':α}{a:AV}{q ver off:Nat}{ps:List PC}{cs:List AV}(enc:α->List PC)(hF:Fp H0 H f0 items)(hk:items[k]?=some (.fam id n as sz false (l.map (List.map enc))))
  (h:idx l i=some r) (ha:sub i.toNat 1 as=some [a]) (hq:a=.osl sz q ver 0 r.length) (h2:idx r j=some e) (hu:unP cs=some ps) (hs:ZbU off ps (enc e)=some (enc e')):
  ∃H',(∀bx,wrt bx H cs (.optr sz q ver (0+j.toNat) off)=some ⟨bx,H'⟩)/\Fp H0 H' f0 (items.set k (.fam id n as sz false ((l.set i.toNat (r.set j.toNat e')).map (List.map enc)))):=by
 obtain⟨q',ver',H',a1,a2,a3,a4⟩:=hF.famRow enc hk h ha h2 hu hs;rw[hq]at a1;cases a1;exact⟨H',a3,a4⟩
theorem HP.famLen {l:List (List α)}{enc:α->List PC}(hF:HP H items)(hk:items[k]?=some (.fam id n as sz frz (l.map (List.map enc)))):Za6 .len [.csl id n]=some (.p (.int .i64 (l.length:Nat))):=by
 rw[Eng.famLen (Fp.refl hF) hk];rfl
theorem Fp.famLen {l:List (List α)}{enc:α->List PC}(hF:Fp H0 H f0 items)(hk:items[k]?=some (.fam id n as sz frz (l.map (List.map enc)))):Za6 .len [.csl id n]=some (.p (.int .i64 (l.length:Nat))):=hF.now.famLen hk
end
end Go.Eng

namespace Go.Eng
open Go
section
variable {P:Program} {k:K0} {n:Nat} {g:G} {s:St} {a:Act} {w:World}
end
theorem pur {fs:List Nat}{Q:Exit->St->Prop}{s:St}(h:Q .ret s):puQ fs Q .ret s:=h
section
variable {H0 H:List HO} {f0 items:List ZaO} {α:Type} {k sz:Nat} {a:AV}
end
end Go.Eng

namespace Go.Eng
open Go
def ZyE (n:Nat)(v:AV):List AV:=if n=1 then[v]else cellsOf v
def ZK1 (cells:List AV):List (Nat×Nat)->List AV->List AV
 |(off,n)::ps,v::vs=>ZK1 ((ZbU off (ZyE n v) cells).getD cells) ps vs
 |_,_=>cells
def vexU (v:VI)(xs:List AV):AV:=match v with
 |.build zero parts=>.agg (ZK1 zero parts xs)
 |.mkfn f n=>.fn f (xs.take n) (xs.drop n)
 |v=>(Za6 v xs).getD .any
def Zyw (d:Nat)(s:St):List (Nat×AV):=match bget s.bx d with
 |none=>s.fr
 |some _=>Zf2 d s.fr
def mkU (a:Bool)(cs:List AV):AV:=if a then .agg cs else cs.headD .any
def insU (i:Ins)(s:St):St:=match i with
 |.val d v xs=>⟨put s.fr d (vexU v (xs.map (ev s.fr))),s.bx,s.H⟩
 |.load d x n a|.loadL d x n a=>⟨put s.fr d (mkU a ((rd s.bx s.H n (ev s.fr x)).getD [])),s.bx,s.H⟩
 |.store x y n=>(match ev s.fr x with
  |.loc t off=>⟨s.fr,bput s.bx t ((ZbU off (ZyE n (ev s.fr y)) ((bget s.bx t).getD [])).getD []),s.H⟩
  |_=>s)
 |.newL d zero=>⟨put (Zyw d s) d (.loc d 0),bput s.bx d zero,s.H⟩
 |.boxL d x=>⟨put (Zyw d s) d (.loc d 0),bput s.bx d (cellsOf (ev s.fr x)),s.H⟩
 |i=>(Za0 i s).getD s
def opU (o:IOp)(s:St):St:=match o.g with
 |none=>insU o.i s
 |some (t,want)=>match get s.fr t with
  |.p (.bool b)=>if b=want then insU o.i s else⟨putO s.fr (dstI o.i) (.nl .unit),s.bx,s.H⟩
  |_=>⟨putO s.fr (dstI o.i) (.nl .unit),s.bx,s.H⟩
def opsU:List IOp->St->St
 |[],s=>s
 |o::os,s=>opsU os (opU o s)
def aU (ops:List IOp)(k m:Nat)(s:St):St:=opsU (segO ops k m) s
def lhs (ops:List IOp)(k m:Nat)(s:St):Option St×Bool:=(opsF Zeu (segO ops k m) s,okAt ops (k+m) (aU ops k m s))
def rhs (ops:List IOp)(k m:Nat)(s:St):Option St×Bool:=(some (aU ops k m s),true)
section
variable {P:Program} {n:Nat} {s s1 s2:St} {ops:List IOp} {keep:List Nat} {Q:Exit->St->Prop} {K:St->Prop} {k:Nat}
theorem eo (m:Nat)(hs:ZaH P (opAt ops (k+m)) (aU ops k m s) s1)(c:EP P ops (k+m+1) s1 K)(hm:lhs ops k m s=rhs ops k m s:=by kernel_rfl):EP P ops k s K:=by
 have h1:opsF Zeu (segO ops k m) s=some (aU ops k m s):=congrArg Prod.fst hm;have h2:okAt ops (k+m) (aU ops k m s)=true:=congrArg Prod.snd hm;have h3:opsD (segO ops k m) s=aU ops k m s:=by unfold opsD;rw[h1];rfl
 refine EP.o m (h3▸hs) c ?_;unfold preK preB;have e:(ops.drop k).take m=segO ops k m:=rfl;rw[e,h1,h3];have:okAt (ops.drop k) m (aU ops k m s)=okAt ops (k+m) (aU ops k m s):=by unfold okAt;rw[ZE]
 rw[this,h2];rfl
theorem ef (c:K (opsU (ops.drop k) s))(hm:opsF Zeu (ops.drop k) s=some (opsU (ops.drop k) s):=by(repeat' cases ‹OwnF _ _ _›)<;>kernel_rfl):EP P ops k s K:=by
 have h3:opsD (ops.drop k) s=opsU (ops.drop k) s:=by unfold opsD;rw[hm];rfl
 exact EP.f (h3▸c) (by rw[hm];rfl)
theorem eu {d:Nat}{r:AV}(m:Nat)(hs:ZaH P (opAt ops (k+m)) (aU ops k m s) ⟨put (aU ops k m s).fr d r,(aU ops k m s).bx,(aU ops k m s).H⟩)(c:EP P ops (k+m+1) (upd (aU ops k m s) d r) K)(hm:lhs ops k m s=rhs ops k m s:=by(repeat' cases ‹OwnF _ _ _›)<;>kernel_rfl):EP P ops k s K:=eo m hs c hm
theorem eh {d:Nat}{r:AV}{H:List HO}(m:Nat)(hs:ZaH P (opAt ops (k+m)) (aU ops k m s) ⟨put (aU ops k m s).fr d r,(aU ops k m s).bx,H⟩)(c:EP P ops (k+m+1) (updH (aU ops k m s) d r H) K)(hm:lhs ops k m s=rhs ops k m s:=by(repeat' cases ‹OwnF _ _ _›)<;>kernel_rfl):EP P ops k s K:=eo m hs c hm
theorem ew {d:Option Nat}{r:AV}{H:List HO}(m:Nat)(hs:ZaH P (opAt ops (k+m)) (aU ops k m s) ⟨putO (aU ops k m s).fr d r,(aU ops k m s).bx,H⟩)(c:EP P ops (k+m+1) (updO (aU ops k m s) d r H) K)(hm:lhs ops k m s=rhs ops k m s:=by(repeat' cases ‹OwnF _ _ _›)<;>kernel_rfl):EP P ops k s K:=eo m hs c hm
theorem re (h:EP P ops 0 s (λs1=>Q .normal (ZbX keep s1))):vc P n (.reg ops keep) Q s:=let ⟨s1,h1,h2⟩:=h;⟨s1,h1,h2⟩
theorem qe (h:EP P ops 0 s (λs1=>Q .normal (ZbX keep s1)))(hs:Zmj s.fr ops=true:=by(repeat' cases ‹OwnF _ _ _›)<;>kernel_rfl):vc P n (.regD ops keep) Q s:=let ⟨s1,h1,h2⟩:=h;⟨hs,s1,h1,h2⟩
theorem fe {fs:List Nat}{s0:St}(h0:frzS fs s=some s0)(h:EP P ops 0 s0 (λs1=>Q .normal (ZbX keep s1)))(hs:Zmj s0.fr ops=true:=by(repeat' cases ‹OwnF _ _ _›)<;>kernel_rfl):vc P n (.regF fs ops keep) Q s:=let ⟨s1,h1,h2⟩:=h;⟨s0,h0,hs,s1,h1,h2⟩
theorem r0 (c:Q .normal (ZbX keep (opsU ops s)))(hm:opsF Zeu ops s=some (opsU ops s):=by(repeat' cases ‹OwnF _ _ _›)<;>kernel_rfl):vc P n (.reg ops keep) Q s:=re (ef (k:=0) c hm)
theorem q0 (c:Q .normal (ZbX keep (opsU ops s)))(hm:(opsF Zeu ops s,Zmj s.fr ops)=(some (opsU ops s),true):=by(repeat' cases ‹OwnF _ _ _›)<;>kernel_rfl):vc P n (.regD ops keep) Q s:=qe (ef (k:=0) c (congrArg Prod.fst hm)) (congrArg Prod.snd hm)
def xsOf:Ins->List IX
 |.val _ _ xs=>xs
 |_=>[]
def dOf (i:Ins):Nat:=(dstI i).getD 0
def szOf:Ins->Nat
 |.val _ (.iaddrS sz) _=>sz
 |_=>0
def flg:List AV->Bool
 |.p (.sl _ f _)::_=>f
 |_=>false
def knd:List AV->IntKind
 |[_,.p (.int k _)]=>k
 |_=>.i64
def szP:AV->Nat
 |.ppt sz _ _ _=>sz
 |.p (.sl sz _ _)=>sz
 |_=>0
def offP:AV->Nat
 |.ppt _ _ _ o|.optr _ _ _ _ o|.ptr _ o|.loc _ o=>o
 |_=>0
def vals (i:Ins)(s:St):List AV:=(xsOf i).map (ev s.fr)
theorem ix {α γ:Type}{l:List α}{i:Int}{f:α->Option γ}{r:γ}(m:Nat)(enc:α->List PC)(h:(idx l i).bind f=some r)
  (c:∀e,idx l i=some e->f e=some r->EP P ops (k+m+1) (upd (aU ops k m s) (dOf (opAt ops (k+m))) (.ppt (szOf (opAt ops (k+m))) (l.map enc) i.toNat 0)) K)
  (hm:(lhs ops k m s,opAt ops (k+m),vals (opAt ops (k+m)) (aU ops k m s))=(rhs ops k m s,.val (dOf (opAt ops (k+m))) (.iaddrS (szOf (opAt ops (k+m)))) (xsOf (opAt ops (k+m))),[.p (.sl (szOf (opAt ops (k+m))) (flg (vals (opAt ops (k+m)) (aU ops k m s))) (l.map enc)),.p (.int (knd (vals (opAt ops (k+m)) (aU ops k m s))) i)]):=by(repeat' cases ‹OwnF _ _ _›)<;>kernel_rfl):EP P ops k s K:=by
 obtain⟨e,he,h⟩:=bs h;have h1:=congrArg Prod.fst hm;have h2:=congrArg (λx=>x.2.1) hm;have h3:=congrArg (λx=>x.2.2) hm;refine eu m ?_ (c e he h) h1;have h4:=Zsz (sz:=szOf (opAt ops (k+m))) (f:=flg (vals (opAt ops (k+m)) (aU ops k m s))) (k:=knd (vals (opAt ops (k+m)) (aU ops k m s))) enc he;simp only at h2 h3;rw[←h3]at h4;rw[h2];exact Zcm (v:=.iaddrS (szOf (opAt ops (k+m)))) rfl h4
def isLd:Ins->Bool
 |.load .. |.loadH .. |.loadI .. =>true
 |_=>false
def ldX:Ins->IX
 |.load _ x _ _|.loadH _ x _ _|.loadI _ x _ _|.loadL _ x _ _|.loadN _ x _ _ _=>x
 |_=>.t 0
def ldN:Ins->Nat
 |.load _ _ n _|.loadH _ _ n _|.loadI _ _ n _|.loadL _ _ n _|.loadN _ _ n _ _=>n
 |_=>0
def ldA:Ins->Bool
 |.load _ _ _ a|.loadH _ _ _ a|.loadI _ _ _ a|.loadL _ _ _ a|.loadN _ _ _ a _=>a
 |_=>false
def ldR (i:Ins)(s:St)(cs:List PC):AV:=mkU (ldA i) (((cs.drop (offP (ev s.fr (ldX i)))).take (ldN i)).map .p)
theorem ld {α:Type}{l:List α}{i:Int}{e:α}(m:Nat)(enc:α->List PC)(he:idx l i=some e)
  (c:EP P ops (k+m+1) (upd (aU ops k m s) (dOf (opAt ops (k+m))) (ldR (opAt ops (k+m)) (aU ops k m s) (enc e))) K)
  (hm:(lhs ops k m s,isLd (opAt ops (k+m)),ev (aU ops k m s).fr (ldX (opAt ops (k+m))),(sub (offP (ev (aU ops k m s).fr (ldX (opAt ops (k+m))))) (ldN (opAt ops (k+m))) (enc e)).bind (λq=>mk (ldA (opAt ops (k+m))) (q.map .p)))=
   (rhs ops k m s,true,.ppt (szP (ev (aU ops k m s).fr (ldX (opAt ops (k+m))))) (l.map enc) i.toNat (offP (ev (aU ops k m s).fr (ldX (opAt ops (k+m))))),some (ldR (opAt ops (k+m)) (aU ops k m s) (enc e))):=by(repeat' cases ‹OwnF _ _ _›)<;>kernel_rfl):EP P ops k s K:=by
 have h1:=congrArg Prod.fst hm;have h2:=congrArg (λx=>x.2.1) hm;have h3:=congrArg (λx=>x.2.2.1) hm;have h4:=congrArg (λx=>x.2.2.2) hm;simp only at h2 h3 h4;refine eu m ?_ c h1;generalize opAt ops (k+m)=I at*;generalize ldR I (aU ops k m s) (enc e)=R at*;obtain⟨cs,hc1,hc2⟩:=bind_some h4;have key:∀d x n a,ldX I=x->ldN I=n->ldA I=a->ZaH P (.load d x n a) (aU ops k m s) ⟨put (aU ops k m s).fr d R,(aU ops k m s).bx,(aU ops k m s).H⟩:=λd x n a e1 e2 e3=>by
  subst e1 e2 e3;exact ZxG enc he h3 hc1 hc2
 unfold isLd at h2;split at h2
 ·exact key _ _ _ _ rfl rfl rfl
 ·exact ZiY (key _ _ _ _ rfl rfl rfl) (by simp only[ldX]at h3;rw[h3];rfl)
 ·exact ZyW (key _ _ _ _ rfl rfl rfl) (by simp only[ldX]at h3;rw[h3];rfl)
 cases h2
theorem ln {α:Type}(m:Nat)(enc:α->List PC)(l:List α)
  (c:EP P ops (k+m+1) (upd (aU ops k m s) (dOf (opAt ops (k+m))) (iv ((List.length l:Nat):Int))) K)
  (hm:(lhs ops k m s,opAt ops (k+m),vals (opAt ops (k+m)) (aU ops k m s))=(rhs ops k m s,.val (dOf (opAt ops (k+m))) .len (xsOf (opAt ops (k+m))),[.p (.sl (szP ((vals (opAt ops (k+m)) (aU ops k m s)).headD .any)) (flg (vals (opAt ops (k+m)) (aU ops k m s))) (l.map enc))]):=by(repeat' cases ‹OwnF _ _ _›)<;>kernel_rfl):EP P ops k s K:=by
 have h1:=congrArg Prod.fst hm;have h2:=congrArg (λx=>x.2.1) hm;have h3:=congrArg (λx=>x.2.2) hm;simp only at h2 h3;refine eu m ?_ c h1;have h4:=Zwo (l:=l) (sz:=szP ((vals (opAt ops (k+m)) (aU ops k m s)).headD .any)) (f:=flg (vals (opAt ops (k+m)) (aU ops k m s))) enc;rw[←h3]at h4;rw[h2];exact Zcm (v:=.len) rfl h4
def PF (P:Program)(f:Nat)(args:List AV){β:Type}(o:Option β)(enc:β->AV):Prop:=∀r,o=some r->Zle P f args (enc r)
def RL (res:List RV){β:Type}(enc:β->AV)(r:β)(s:St):Prop:=∃xs,resL s res=some xs/\ZcP xs=enc r
def fnC:Ins->Option Nat
 |.call _ f _=>some f
 |.callP _ f _=>some f
 |_=>none
def ZL2 (i:Ins)(s:St):Option (List AV×List HO):=match i with
 |.call _ _ xs=>frzL s.H (xs.map (ev s.fr))
 |.callP _ _ xs=>some (weakVs (xs.map (ev s.fr)),s.H)
 |_=>none
theorem ca {β γ:Type}{o:Option β}{enc:β->AV}{f:β->Option γ}{r:γ}{fn:Nat}{args:List AV}(m:Nat)(hc:PF P fn args o enc)(h:o.bind f=some r)
  (c:∀v,f v=some r->EP P ops (k+m+1) (updO (aU ops k m s) (dstI (opAt ops (k+m))) (enc v) (aU ops k m s).H) K)
  (hm:(lhs ops k m s,fnC (opAt ops (k+m)),ZL2 (opAt ops (k+m)) (aU ops k m s))=(rhs ops k m s,some fn,some (args,(aU ops k m s).H)):=by(repeat' cases ‹OwnF _ _ _›)<;>kernel_rfl):EP P ops k s K:=by
 obtain⟨v,hv,h⟩:=bs h;have h1:=congrArg Prod.fst hm;have h2:=congrArg (λx=>x.2.1) hm;have h3:=congrArg (λx=>x.2.2) hm;simp only at h2 h3;refine ew m ?_ (c v h) h1;generalize opAt ops (k+m)=I at*;cases I<;>simp only[fnC,Zab,reduceCtorEq]at h2
 ·subst h2;exact Zy1 h3 (hc v hv)
 subst h2;simp only[ZL2,Zab,Zac]at h3;exact ZxK h3.1 (hc v hv)
theorem pc {f:Nat}{F:IFn}{β:Type}{o:Option β}{enc:β->AV}{args:List AV}(hk:chkF P f F=true)(h:∀r,o=some r->vc P F.nt F.body (endQ (RL F.res enc r)) ⟨Zhy args 0,[],[]⟩)
  (hl:(args.length,Zir args)=(F.nargs,true):=by kernel_rfl) (hp:∀r,Zip (enc r)=true:=by intro;kernel_rfl):PF P f args o enc:=λr hr=>
 ZxW hk (congrArg Prod.fst hl) (congrArg Prod.snd hl) (Zbd _ _ _ (h r hr)) (hp r)
theorem fz {β:Type}{enc:β->AV}{v r:β}{res:List RV}(h:some v=some r)(hk:(resL s res).map ZcP=some (enc v):=by(repeat' cases ‹OwnF _ _ _›)<;>kernel_rfl):RL res enc r s:=by
 cases h;exact ZsU hk
end
end Go.Eng

namespace Go.Eng
open Go
def ap (s:St)(u:List (Nat×AV))(b:List (Nat×List AV)):St:=⟨u.foldl (λf p=>put f p.1 p.2) s.fr,b.foldl (λf p=>bput f p.1 p.2) s.bx,s.H⟩
def apH (s:St)(u:List (Nat×AV))(b:List (Nat×List AV))(H:List HO):St:=⟨u.foldl (λf p=>put f p.1 p.2) s.fr,b.foldl (λf p=>bput f p.1 p.2) s.bx,H⟩
abbrev SU:=List (Nat×AV)
abbrev BU:=List (Nat×List AV)
def exKs (id:Nat):IC->Option (List Nat)
 |.kp ks a=>match a with
  |.exit j=>if j=id then some ks else none
  |a=>exKs id a
 |.seq a b|.cond _ a b=>(exKs id a).orElse λ_=>exKs id b
 |.block _ a|.loop a|.scope a|.pu _ a|.box a=>exKs id a
 |.rangeF _ _ a b=>(exKs id a).orElse λ_=>exKs id b
 |_=>none
def kx (b:IC)(id:Nat)(s:St):St:=ZbX ((exKs id b).getD []) s
section
variable {σ ρ ρ':Type}
abbrev XT (ρ:Type):=IC->St->ρ->Exit->St->Prop
@[reducible] def x0 (id:Nat):XT ρ:=λb s p e s'=>e=.exit id/\s'=kx b id s
@[reducible] def xe (id:Nat)(u:ρ->SU)(bu:ρ->BU):XT ρ:=λb s p e s'=>e=.exit id/\s'=ap (kx b id s) (u p) (bu p)
@[reducible] def x1 (G:List HO->List ZaO->Prop)(id:Nat)(u:ρ->AV->SU)(bu:ρ->AV->BU)(t:ρ->AV->List ZaO):XT ρ:=λb s p e s'=>e=.exit id/\∃a H,s'=apH (kx b id s) (u p a) (bu p a) H/\G H (t p a)
@[reducible] def x2 (G:List HO->List ZaO->Prop)(id:Nat)(u:ρ->AV->AV->SU)(bu:ρ->AV->AV->BU)(t:ρ->AV->AV->List ZaO):XT ρ:=λb s p e s'=>e=.exit id/\∃a a' H,s'=apH (kx b id s) (u p a a') (bu p a a') H/\G H (t p a a')
@[reducible] def xr (res:List RV)(enc:ρ->AV):XT ρ:=λb s p e s'=>e=.ret/\RL res enc p s'
@[reducible] def xR (R:ρ->St->Prop):XT ρ:=λb s p e s'=>e=.ret/\R p s'
@[reducible] def xs (A:XT ρ)(B:XT ρ'):XT (ρ⊕ρ'):=λb s p e s'=>match p with
 |.inl p=>A b s p e s'
 |.inr p=>B b s p e s'
@[reducible] def lq (I:σ->St->Prop)(X:ρ->Exit->St->Prop)(o:σ⊕ρ):Exit->St->Prop:=Zk9 (λs'=>∃y,o=.inl y/\I y s') (λe s'=>∃r,o=.inr r/\X r e s')
variable {P:Program} {n:Nat} {s s':St} {Q:Exit->St->Prop} {b:IC} {γ:Type} {body:σ->Option (σ⊕ρ)} {N:Nat} {y0:σ} {f:ρ->Option γ} {r:γ}
theorem lpR (I:σ->St->Prop)(X:XT ρ)(h:(ZaI body N y0).bind f=some r)(h0:I y0 s)(hb:∀x o s1,I x s1->body x=some o->vc P n b (lq I (X b s) o) s1)(hk:∀p e s',X b s p e s'->f p=some r->Q e s'):vc P n (.loop b) Q s:=by
 obtain⟨o,ho,h⟩:=bs h;exact Zc1 ((Zcs I body (X b s) (λx o s1 hx hI=>hb x o s1 hI hx) N _ o _ ho h0).mono λe s' hq=>hk o e s' hq h)
theorem lp (X:XT ρ)(u:σ->SU)(bu:σ->BU)(h:(ZaI body N y0).bind f=some r)(hb:∀x o,body x=some o->vc P n b (lq (λy s'=>s'=ap s (u y) (bu y)) (X b s) o) (ap s (u x) (bu x)))
  (hk:∀p e s',X b s p e s'->f p=some r->Q e s') (h0:s=ap s (u y0) (bu y0):=by(repeat' cases ‹OwnF _ _ _›)<;>kernel_rfl):vc P n (.loop b) Q s:=
 lpR (λy s'=>s'=ap s (u y) (bu y)) X h h0 (λx o s1 hI hx=>by subst hI;exact hb x o hx) hk
theorem lp1 (G:List HO->List ZaO->Prop)(X:XT ρ)(u:σ->AV->SU)(bu:σ->AV->BU)(t:σ->AV->List ZaO)(h:(ZaI body N y0).bind f=some r)(a0:AV){H0:List HO}(hp:G H0 (t y0 a0))
  (hb:∀x o a H,G H (t x a)->body x=some o->vc P n b (lq (λy s'=>∃a H,s'=apH s (u y a) (bu y a) H/\G H (t y a)) (X b s) o) (apH s (u x a) (bu x a) H))
  (hk:∀p e s',X b s p e s'->f p=some r->Q e s') (h0:s=apH s (u y0 a0) (bu y0 a0) H0:=by(repeat' cases ‹OwnF _ _ _›)<;>kernel_rfl):vc P n (.loop b) Q s:=
 lpR (λy s'=>∃a H,s'=apH s (u y a) (bu y a) H/\G H (t y a)) X h ⟨a0,H0,h0,hp⟩ (λx o s1 hI hx=>by obtain⟨a,H,rfl,hG⟩:=hI;exact hb x o a H hG hx) hk
theorem lp2 (G:List HO->List ZaO->Prop)(X:XT ρ)(u:σ->AV->AV->SU)(bu:σ->AV->AV->BU)(t:σ->AV->AV->List ZaO)(h:(ZaI body N y0).bind f=some r)(a0 a1:AV){H0:List HO}(hp:G H0 (t y0 a0 a1))
  (hb:∀x o a a' H,G H (t x a a')->body x=some o->vc P n b (lq (λy s'=>∃a a' H,s'=apH s (u y a a') (bu y a a') H/\G H (t y a a')) (X b s) o) (apH s (u x a a') (bu x a a') H))
  (hk:∀p e s',X b s p e s'->f p=some r->Q e s') (h0:s=apH s (u y0 a0 a1) (bu y0 a0 a1) H0:=by(repeat' cases ‹OwnF _ _ _›)<;>kernel_rfl):vc P n (.loop b) Q s:=
 lpR (λy s'=>∃a a' H,s'=apH s (u y a a') (bu y a a') H/\G H (t y a a')) X h ⟨a0,a1,H0,h0,hp⟩ (λx o s1 hI hx=>by obtain⟨a,a',H,rfl,hG⟩:=hI;exact hb x o a a' H hG hx) hk
theorem ka0 {id:Nat}(h:∀p,f p=some r->Q (.exit id) (kx b id s)):∀p e s',x0 id b s p e s'->f p=some r->Q e s':=λp e s' ⟨e1,e2⟩ hf=>by subst e1 e2;exact h p hf
theorem ke {id:Nat}{u:ρ->SU}{bu:ρ->BU}(h:∀p,f p=some r->Q (.exit id) (ap (kx b id s) (u p) (bu p))):∀p e s',xe id u bu b s p e s'->f p=some r->Q e s':=λp e s' ⟨e1,e2⟩ hf=>by subst e1 e2;exact h p hf
theorem ka1 {G:List HO->List ZaO->Prop}{id:Nat}{u:ρ->AV->SU}{bu:ρ->AV->BU}{t:ρ->AV->List ZaO}(h:∀p a H,G H (t p a)->f p=some r->Q (.exit id) (apH (kx b id s) (u p a) (bu p a) H)):∀p e s',x1 G id u bu t b s p e s'->f p=some r->Q e s':=λp e s' ⟨e1,a,H,e2,hG⟩ hf=>by subst e1 e2;exact h p a H hG hf
theorem ka2 {G:List HO->List ZaO->Prop}{id:Nat}{u:ρ->AV->AV->SU}{bu:ρ->AV->AV->BU}{t:ρ->AV->AV->List ZaO}(h:∀p a a' H,G H (t p a a')->f p=some r->Q (.exit id) (apH (kx b id s) (u p a a') (bu p a a') H)):∀p e s',x2 G id u bu t b s p e s'->f p=some r->Q e s':=λp e s' ⟨e1,a,a',H,e2,hG⟩ hf=>by subst e1 e2;exact h p a a' H hG hf
theorem kR {R:ρ->St->Prop}(h:∀p s',R p s'->f p=some r->Q .ret s'):∀p e s',xR R b s p e s'->f p=some r->Q e s':=λp e s' ⟨e1,q⟩ hf=>by subst e1;exact h p s' q hf
theorem kr' {res:List RV}{enc:ρ->AV}(h:∀p s',RL res enc p s'->f p=some r->Q .ret s'):∀p e s',xr res enc b s p e s'->f p=some r->Q e s':=λp e s' ⟨e1,q⟩ hf=>by subst e1;exact h p s' q hf
theorem ks {A:XT ρ}{B:XT ρ'}{f:ρ⊕ρ'->Option γ}(hA:∀p e s',A b s p e s'->f (.inl p)=some r->Q e s')(hB:∀p e s',B b s p e s'->f (.inr p)=some r->Q e s'):∀p e s',xs A B b s p e s'->f p=some r->Q e s':=λp=>match p with
 |.inl p=>hA p
 |.inr p=>hB p
theorem ok {α:Sort _}{a b:α}(h:a=b:=by(repeat' cases ‹OwnF _ _ _›)<;>kernel_rfl):a=b:=h
theorem wb {o:σ⊕ρ}{y:σ}{u:σ->SU}{bu:σ->BU}{s0:St}(h:some (.inl y)=some o)(hs:s'=ap s0 (u y) (bu y):=by(repeat' cases ‹OwnF _ _ _›)<;>kernel_rfl):∃y,o=.inl y/\s'=ap s0 (u y) (bu y):=by cases h;exact⟨y,rfl,hs⟩
theorem we {o:σ⊕ρ}{w:ρ}{e:Exit}{s2:St}{X:XT ρ}(h:some (.inr w)=some o)(hx:e=e/\s'=s2->X b s w e s':=by exact id)(hs:s'=s2:=by(repeat' cases ‹OwnF _ _ _›)<;>kernel_rfl):∃r,o=.inr r/\X b s r e s':=by cases h;exact⟨w,rfl,hx ⟨rfl,hs⟩⟩
theorem wr {o:σ⊕ρ}{w:ρ}{β:Type}{enc:β->AV}{v:β}{res:List RV}{X:XT ρ}(h:some (.inr w)=some o)(hx:Exit.ret=Exit.ret/\RL res enc v s'->X b s w .ret s':=by exact id)(hk:(resL s' res).map ZcP=some (enc v):=by(repeat' cases ‹OwnF _ _ _›)<;>kernel_rfl):∃r,o=.inr r/\X b s r .ret s':=by cases h;exact⟨w,rfl,hx ⟨rfl,ZsU hk⟩⟩
theorem wq {o:σ⊕ρ}{w:ρ}{A:Prop}{X:XT ρ}(h:some (.inr w)=some o)(hq:A)(hx:Exit.ret=Exit.ret/\A->X b s w .ret s':=by exact id):∃r,o=.inr r/\X b s r .ret s':=by cases h;exact⟨w,rfl,hx ⟨rfl,hq⟩⟩
theorem fq {β:Type}{enc:β->AV}{v r:β}{res:List RV}(q:RL res enc v s)(h:some v=some r):RL res enc r s:=by cases h;exact q
theorem oG {H H0:List HO}{f0 items:List ZaO}(hH:Fp H0 H f0 items)(k:Nat){a:AV}{sz:Nat}{fz:Bool}{rows:List (List PC)}(hk:items[k]?=some (.arr a sz fz rows):=by rfl):OwnF sz rows.length a:=ZcS (hH.get k hk)
end
end Go.Eng

namespace Go.Eng
open Go
def kb (ks:List Nat)(s:St)(u:SU)(b:BU):St:=ap (ZbX ks s) u b
def kbH (ks:List Nat)(s:St)(u:SU)(b:BU)(H:List HO):St:=apH (ZbX ks s) u b H
def kv {σ:Type}(ks:List Nat)(s:St)(u:σ->SU)(b:σ->BU)(x:σ):St:=kb ks s (u x) (b x)
def jR1 {σ:Type}(ks:List Nat)(s:St)(G:List HO->List ZaO->Prop)(u:σ->AV->SU)(b:σ->AV->BU)(t:σ->AV->List ZaO)(x:σ)(s':St):Prop:=∃a H,ZbX ks s'=kbH ks s (u x a) (b x a) H/\G H (t x a)
def jR2 {σ:Type}(ks:List Nat)(s:St)(G:List HO->List ZaO->Prop)(u:σ->AV->AV->SU)(b:σ->AV->AV->BU)(t:σ->AV->AV->List ZaO)(x:σ)(s':St):Prop:=∃a a' H,ZbX ks s'=kbH ks s (u x a a') (b x a a') H/\G H (t x a a')
section
variable {P:Program} {n:Nat} {s s0 s':St} {ops:List IOp} {keep:List Nat} {Q:Exit->St->Prop} {K:St->Prop} {k:Nat} {σ γ α:Type} {r:γ}
theorem bi {c:Bool}{A B:Option α}{y:α}(m d:Nat)(h:(if c=true then A else B)=some y)(T:A=some y->EP P ops (k+m) (upd (aU ops k m s) d (bv true)) K)(F:B=some y->EP P ops (k+m) (upd (aU ops k m s) d (bv false)) K)
  (hm:(opsF Zeu (segO ops k m) s,upd (aU ops k m s) d (bv c))=(some (aU ops k m s),aU ops k m s):=by(repeat' cases ‹OwnF _ _ _›)<;>kernel_rfl):EP P ops k s K:=by
 have h1:opsF Zeu (segO ops k m) s=some (aU ops k m s):=congrArg Prod.fst hm;have h2:upd (aU ops k m s) d (bv c)=aU ops k m s:=congrArg Prod.snd hm;have key:EP P ops (k+m) (aU ops k m s) K:=by
  rw[←h2];cases c with
  |true=>simp only[Zak]at h;exact T h
  |false=>simp only[Zg,Zah]at h;exact F h
 obtain⟨s1,h3,h4⟩:=key;refine⟨s1,?_,h4⟩;have h5:opsD (segO ops k m) s=aU ops k m s:=by unfold opsD;rw[h1];rfl
 have:=Zba.chunk (P:=P) (ops:=ops.drop k) (s:=s) m (by show(opsF Zeu (segO ops k m) s).isSome=true;rw[h1];rfl) (s2:=s1);refine this ?_;rw[List.drop_drop];show AK P ops (k+m) (opsD (segO ops k m) s) s1;rw[h5];exact h3
theorem bg' {c b:Bool}{G:Bool->St->Prop}(m d:Nat)(hb:c=b)(T:EP P ops (k+m) (upd (aU ops k m s) d (bv true)) (G true))(F:EP P ops (k+m) (upd (aU ops k m s) d (bv false)) (G false))
  (hm:(opsF Zeu (segO ops k m) s,upd (aU ops k m s) d (bv c))=(some (aU ops k m s),aU ops k m s):=by(repeat' cases ‹OwnF _ _ _›)<;>kernel_rfl):EP P ops k s (G b):=by
 subst hb;refine bi (c:=c) (A:=if c=true then some ()else none) (B:=if c=false then some ()else none) (y:=()) m d (by cases c<;>rfl) (λh=>?_) (λh=>?_) hm
 ·cases c with
  |true=>exact T
  |false=>cases h
 cases c with
 |true=>cases h
 |false=>exact F
theorem rx (u:SU)(b:BU)(h:EP P ops 0 s (λs1=>ZbX keep s1=kb keep s u b))(c:Q .normal (kb keep s u b)):vc P n (.reg ops keep) Q s:=re (let ⟨s1,h1,h2⟩:=h;⟨s1,h1,by show Q .normal (ZbX keep s1);rw[h2];exact c⟩)
theorem qx (u:SU)(b:BU)(h:EP P ops 0 s (λs1=>ZbX keep s1=kb keep s u b))(c:Q .normal (kb keep s u b))(hs:Zmj s.fr ops=true:=by(repeat' cases ‹OwnF _ _ _›)<;>kernel_rfl):vc P n (.regD ops keep) Q s:=qe (let ⟨s1,h1,h2⟩:=h;⟨s1,h1,by show Q .normal (ZbX keep s1);rw[h2];exact c⟩) hs
theorem rj {o:Option σ}{f:σ->Option γ}(u:σ->SU)(b:σ->BU)(h:o.bind f=some r)(hb:∀x,o=some x->EP P ops 0 s (λs1=>ZbX keep s1=kv keep s u b x))(c:∀x,f x=some r->Q .normal (kv keep s u b x)):vc P n (.reg ops keep) Q s:=
 let ⟨x,hx,h⟩:=bs h;rx (u x) (b x) (hb x hx) (c x h)
theorem qj {o:Option σ}{f:σ->Option γ}(u:σ->SU)(b:σ->BU)(h:o.bind f=some r)(hb:∀x,o=some x->EP P ops 0 s (λs1=>ZbX keep s1=kv keep s u b x))(c:∀x,f x=some r->Q .normal (kv keep s u b x))(hs:Zmj s.fr ops=true:=by(repeat' cases ‹OwnF _ _ _›)<;>kernel_rfl):vc P n (.regD ops keep) Q s:=
 let ⟨x,hx,h⟩:=bs h;qx (u x) (b x) (hb x hx) (c x h) hs
theorem el {v x:σ}{u:σ->SU}{b:σ->BU}(h:some v=some x)(hk:(opsF Zeu (ops.drop k) s,ZbX keep (opsU (ops.drop k) s))=(some (opsU (ops.drop k) s),kv keep s0 u b v):=by(repeat' cases ‹OwnF _ _ _›)<;>kernel_rfl):EP P ops k s (λs1=>ZbX keep s1=kv keep s0 u b x):=by
 cases h;exact ef (congrArg Prod.snd hk) (congrArg Prod.fst hk)
theorem ek {u:SU}{b:BU}(hk:(opsF Zeu (ops.drop k) s,ZbX keep (opsU (ops.drop k) s))=(some (opsU (ops.drop k) s),kb keep s0 u b):=by(repeat' cases ‹OwnF _ _ _›)<;>kernel_rfl):EP P ops k s (λs1=>ZbX keep s1=kb keep s0 u b):=ef (congrArg Prod.snd hk) (congrArg Prod.fst hk)
theorem st {ic:IC}(S:St)(c:vc P n ic Q S)(e:s=S:=by(repeat' cases ‹OwnF _ _ _›)<;>kernel_rfl):vc P n ic Q s:=e▸c
theorem jn {ic ib:IC}{ks:List Nat}{o:Option σ}{f:σ->Option γ}(u:σ->SU)(b:σ->BU)(h:o.bind f=some r)(hb:∀x,o=some x->vc P n ic (ZpI λs'=>ZbX ks s'=kv ks s u b x) s)(c:∀x,f x=some r->vc P n ib Q (kv ks s u b x)):vc P n (.seq ic (.kp ks ib)) Q s:=
 let ⟨x,hx,h⟩:=bs h;ZhC ks (λs'=>s'=kv ks s u b x) (hb x hx) (λs' e=>by rw[e];exact c x h)
theorem jl {ks:List Nat}{v x:σ}{u:σ->SU}{b:σ->BU}(h:some v=some x)(hk:ZbX ks s'=kv ks s u b v:=by(repeat' cases ‹OwnF _ _ _›)<;>kernel_rfl):ZpI (λs'=>ZbX ks s'=kv ks s u b x) .normal s':=by cases h;exact⟨rfl,hk⟩
theorem jn1 {ic ib:IC}{ks:List Nat}{o:Option σ}{f:σ->Option γ}(G:List HO->List ZaO->Prop)(u:σ->AV->SU)(b:σ->AV->BU)(t:σ->AV->List ZaO)(h:o.bind f=some r)(hb:∀x,o=some x->vc P n ic (ZpI (jR1 ks s G u b t x)) s)
  (c:∀x a H,G H (t x a)->f x=some r->vc P n ib Q (kbH ks s (u x a) (b x a) H)):vc P n (.seq ic (.kp ks ib)) Q s:=
 let ⟨x,hx,h⟩:=bs h;ZhC ks (λs'=>∃a H,s'=kbH ks s (u x a) (b x a) H/\G H (t x a)) (hb x hx) (λs' e=>by obtain⟨a,H,e,hG⟩:=e;rw[e];exact c x a H hG h)
theorem jn2 {ic ib:IC}{ks:List Nat}{o:Option σ}{f:σ->Option γ}(G:List HO->List ZaO->Prop)(u:σ->AV->AV->SU)(b:σ->AV->AV->BU)(t:σ->AV->AV->List ZaO)(h:o.bind f=some r)(hb:∀x,o=some x->vc P n ic (ZpI (jR2 ks s G u b t x)) s)
  (c:∀x a a' H,G H (t x a a')->f x=some r->vc P n ib Q (kbH ks s (u x a a') (b x a a') H)):vc P n (.seq ic (.kp ks ib)) Q s:=
 let ⟨x,hx,h⟩:=bs h;ZhC ks (λs'=>∃a a' H,s'=kbH ks s (u x a a') (b x a a') H/\G H (t x a a')) (hb x hx) (λs' e=>by obtain⟨a,a',H,e,hG⟩:=e;rw[e];exact c x a a' H hG h)
theorem rvp {H:List HO}{t m id:Nat}{isA:Bool}{cs:List AV}{v:AV}(hl:Lies H (.cel id cs))(hx:(s.H,get s.fr t,(sub (offP (get s.fr t)) m cs).bind (mk isA))=(H,.ptr id (offP (get s.fr t)),some v):=by(repeat' cases ‹OwnF _ _ _›)<;>kernel_rfl):rawV s (.cell t m isA)=some v:=by
 have h1:s.H=H:=congrArg Prod.fst hx;have h2:=congrArg (λx=>x.2.1) hx;have h3:=congrArg (λx=>x.2.2) hx;simp only at h2 h3;obtain⟨c,h4,h5⟩:=bind_some h3;exact ZxS h2 (h1▸hl) h4 h5
theorem fp0:Fp [] [] [] []:=Fp.refl trivial
@[reducible] def F0 (H:List HO)(i:List ZaO):Prop:=Fp [] H [] i
def setH (s:St)(H:List HO):St:=⟨s.fr,s.bx,H⟩
theorem iad {ib:IC}{id:Nat}{L:LC}{fr0:List (Nat×AV)}{H0 H1:List HO}{f0 items:List ZaO}(q:Nat)(hF:Fp H0 H1 f0 items)(h:∀H6,Fp H0 H6 f0 (items.set q (.lp id L fr0 .busy))->vc P n ib Q (setH s H6))(hk:items[q]?=some (.lp id L fr0 .ready):=by rfl)(hs:s.H=H1:=by(repeat' cases ‹OwnF _ _ _›)<;>kernel_rfl):
  Exit.normal=.normal/\s.H[id]?=some (.lp L fr0 .ready)/\vc P n ib Q ⟨s.fr,s.bx,s.H.set id (.lp L fr0 .busy)⟩:=ZzS (hs.symm▸hF) hk h
end
end Go.Eng

namespace Go.Eng
open Go
section
variable {P:Program} {n:Nat} {s:St} {ops:List IOp} {K:St->Prop} {k:Nat} {α γ:Type} {r:γ} {H0 H:List HO} {f0 items:List ZaO}
def Zyb:Ins->Bool
 |.load .. |.loadH .. =>true
 |_=>false
def ldC (i:Ins)(s:St)(cs:List AV):AV:=mkU (ldA i) ((cs.drop (offP (ev s.fr (ldX i)))).take (ldN i))
theorem lc {id:Nat}{cs:List AV}(m j:Nat)(hH:Fp H0 H f0 items)(hk:items[j]?=some (.cel id cs))(c:EP P ops (k+m+1) (upd (aU ops k m s) (dOf (opAt ops (k+m))) (ldC (opAt ops (k+m)) (aU ops k m s) cs)) K)
  (hm:(lhs ops k m s,Zyb (opAt ops (k+m)),(aU ops k m s).H,ev (aU ops k m s).fr (ldX (opAt ops (k+m))),(sub (offP (ev (aU ops k m s).fr (ldX (opAt ops (k+m))))) (ldN (opAt ops (k+m))) cs).bind (λq=>if ZaL q=true then mk (ldA (opAt ops (k+m))) q else none))=
   (rhs ops k m s,true,H,.ptr id (offP (ev (aU ops k m s).fr (ldX (opAt ops (k+m))))),some (ldC (opAt ops (k+m)) (aU ops k m s) cs)):=by(repeat' cases ‹OwnF _ _ _›)<;>kernel_rfl):EP P ops k s K:=by
 have h1:=congrArg Prod.fst hm;have h2:=congrArg (λx=>x.2.1) hm;have h3:=congrArg (λx=>x.2.2.1) hm;have h4:=congrArg (λx=>x.2.2.2.1) hm;have h5:=congrArg (λx=>x.2.2.2.2) hm;simp only at h2 h3 h4 h5;refine eu m ?_ c h1;generalize opAt ops (k+m)=I at*;generalize ldC I (aU ops k m s) cs=R at*;obtain⟨q,hc1,hc2⟩:=bind_some h5;split at hc2
 ·rename_i hok;have key:∀d x n a,ldX I=x->ldN I=n->ldA I=a->ZaH P (.load d x n a) (aU ops k m s) ⟨put (aU ops k m s).fr d R,(aU ops k m s).bx,(aU ops k m s).H⟩:=λd x n a e1 e2 e3=>by
   subst e1 e2 e3;exact ZgD h3 h4 (hH.get j hk) hc1 hok hc2
  unfold Zyb at h2;split at h2
  ·exact key _ _ _ _ rfl rfl rfl
  ·exact ZiY (key _ _ _ _ rfl rfl rfl) (by simp only[ldX]at h4;rw[h4];rfl)
  cases h2
 cases hc2
def apX:Ins->IX
 |.app _ x _ _ _|.appN _ x _ _ _=>x
 |_=>.t 0
def apY:Ins->IX
 |.app _ _ y _ _|.appN _ _ y _ _=>y
 |_=>.t 0
def apN:Ins->Option (Nat×Nat)
 |.app _ _ _ sz b|.appN _ _ _ sz b=>some (sz,b)
 |_=>none
def flg1:AV->Bool
 |.p (.sl _ f _)=>f
 |_=>false
theorem ao {l q:List α}{f:List α->Option γ}{a:AV}{sz bytes:Nat}{fz:Bool}(m j:Nat)(enc:α->List PC)(hH:Fp H0 H f0 items)(hk:items[j]?=some (.arr a sz fz (l.map enc)))(h:(appI bytes l q).bind f=some r)
  (c:∀v a' H',Fp H0 H' f0 (items.set j (.arr a' sz fz (v.map enc)))->OwnF sz (v.map enc).length a'->f v=some r->EP P ops (k+m+1) (updH (aU ops k m s) (dOf (opAt ops (k+m))) a' H') K)
  (hn:∀x,Znp (enc x)=true:=by intro;rfl)
  (hm:(lhs ops k m s,opAt ops (k+m),(aU ops k m s).H,ev (aU ops k m s).fr (apX (opAt ops (k+m))),ev (aU ops k m s).fr (apY (opAt ops (k+m))))=
   (rhs ops k m s,.app (dOf (opAt ops (k+m))) (apX (opAt ops (k+m))) (apY (opAt ops (k+m))) sz bytes,H,a,.p (.sl sz (flg1 (ev (aU ops k m s).fr (apY (opAt ops (k+m))))) (q.map enc))):=by(repeat' cases ‹OwnF _ _ _›)<;>kernel_rfl):EP P ops k s K:=by
 obtain⟨v,hv,h⟩:=bs h;obtain⟨a',H',ha,hF⟩:=hH.app enc hk hv;have h1:=congrArg Prod.fst hm;have h2:=congrArg (λx=>x.2.1) hm;have h3:=congrArg (λx=>x.2.2.1) hm;have h4:=congrArg (λx=>x.2.2.2.1) hm;have h5:=congrArg (λx=>x.2.2.2.2) hm;simp only at h2 h3 h4 h5;have hlt:j<items.length:=(List.getElem?_eq_some_iff.1 hk).1;refine eh m ?_ (c v a' H' hF (ZcS (hF.get j (by simp[hlt];rfl))) h) h1;rw[h2];exact Zwx h3 h4 h5 (by simp[Zgw]) ha (by simp only[Zna];exact ZpK hn _)
theorem an {q:List α}{f:List α->Option γ}{bytes:Nat}(m sz:Nat)(enc:α->List PC)(hH:Fp H0 H f0 items)(h:(appI bytes [] q).bind f=some r)
  (c:∀v a' H',Fp H0 H' f0 (.arr a' sz false (v.map enc)::items)->OwnF sz (v.map enc).length a'->f v=some r->EP P ops (k+m+1) (updH (aU ops k m s) (dOf (opAt ops (k+m))) a' H') K)
  (hn:∀x,Znp (enc x)=true:=by intro;rfl)
  (hm:(lhs ops k m s,apN (opAt ops (k+m)),(aU ops k m s).H,ev (aU ops k m s).fr (apX (opAt ops (k+m))),ev (aU ops k m s).fr (apY (opAt ops (k+m))))=
   (rhs ops k m s,some (sz,bytes),H,.p (.sl sz true []),.p (.sl sz (flg1 (ev (aU ops k m s).fr (apY (opAt ops (k+m))))) (q.map enc))):=by(repeat' cases ‹OwnF _ _ _›)<;>kernel_rfl):EP P ops k s K:=by
 obtain⟨v,hv,h⟩:=bs h;obtain⟨a',H',ha,hF⟩:=Zyk (sz:=sz) enc hH hv;have h1:=congrArg Prod.fst hm;have h2:=congrArg (λx=>x.2.1) hm;have h3:=congrArg (λx=>x.2.2.1) hm;have h4:=congrArg (λx=>x.2.2.2.1) hm;have h5:=congrArg (λx=>x.2.2.2.2) hm;simp only at h2 h3 h4 h5;refine eh m ?_ (c v a' H' hF (ZcS (hF.get 0 rfl)) h) h1;have key:∀d x y,apX (opAt ops (k+m))=x->apY (opAt ops (k+m))=y->ZaH P (.app d x y sz bytes) (aU ops k m s) ⟨put (aU ops k m s).fr d a',(aU ops k m s).bx,H'⟩:=λd x y e1 e2=>by
  subst e1 e2;exact Zwx h3 h4 h5 (by simp[Zgw]) ha (by simp only[Zna];exact ZpK hn _)
 generalize opAt ops (k+m)=I at*;cases I<;>simp only[apN,Zab,Zac,reduceCtorEq]at h2
 ·obtain⟨rfl,rfl⟩:=h2;exact key _ _ _ rfl rfl
 obtain⟨rfl,rfl⟩:=h2;exact Zz8 (key _ _ _ rfl rfl) (by simp only[apX]at h4;rw[h4];rfl)
theorem xo {l:List α}{i:Int}{f:α->Option γ}{a:AV}{sz:Nat}{fz:Bool}(m j:Nat)(enc:α->List PC)(hH:Fp H0 H f0 items)(hk:items[j]?=some (.arr a sz fz (l.map enc)))(h:(idx l i).bind f=some r)
  (c:∀e id ver b,idx l i=some e->H[id]?=some (.arr sz ver b (l.map enc))->(fz=false->b=false)->a=.osl sz id ver 0 l.length->f e=some r->EP P ops (k+m+1) (upd (aU ops k m s) (dOf (opAt ops (k+m))) (.optr sz id ver (0+i.toNat) 0)) K)
  (hm:(lhs ops k m s,opAt ops (k+m),vals (opAt ops (k+m)) (aU ops k m s))=(rhs ops k m s,.val (dOf (opAt ops (k+m))) (.iaddrS sz) (xsOf (opAt ops (k+m))),[a,.p (.int (knd (vals (opAt ops (k+m)) (aU ops k m s))) i)]):=by(repeat' cases ‹OwnF _ _ _›)<;>kernel_rfl):EP P ops k s K:=by
 obtain⟨e,he,h⟩:=bs h;obtain⟨id,ver,b,hb,hid,ha,hv⟩:=hH.elem enc hk he;have h1:=congrArg Prod.fst hm;have h2:=congrArg (λx=>x.2.1) hm;have h3:=congrArg (λx=>x.2.2) hm;simp only at h2 h3;refine eu m ?_ (c e id ver b he hid hb ha h) h1;rw[h2];exact Zcm (v:=.iaddrS sz) (show _=_ from h3) (hv _)
theorem lo {l:List α}{i:Int}{e:α}{sz id ver:Nat}{b:Bool}(m:Nat)(enc:α->List PC)(he:idx l i=some e)(hid:H[id]?=some (.arr sz ver b (l.map enc)))
  (c:EP P ops (k+m+1) (upd (aU ops k m s) (dOf (opAt ops (k+m))) (ldR (opAt ops (k+m)) (aU ops k m s) (enc e))) K)
  (hm:(lhs ops k m s,Zyb (opAt ops (k+m)),(aU ops k m s).H,ev (aU ops k m s).fr (ldX (opAt ops (k+m))),(sub (offP (ev (aU ops k m s).fr (ldX (opAt ops (k+m))))) (ldN (opAt ops (k+m))) (enc e)).bind (λq=>if Znp q=true then mk (ldA (opAt ops (k+m))) (q.map .p)else none))=
   (rhs ops k m s,true,H,.optr sz id ver (0+i.toNat) (offP (ev (aU ops k m s).fr (ldX (opAt ops (k+m))))),some (ldR (opAt ops (k+m)) (aU ops k m s) (enc e))):=by(repeat' cases ‹OwnF _ _ _›)<;>kernel_rfl):EP P ops k s K:=by
 have h1:=congrArg Prod.fst hm;have h2:=congrArg (λx=>x.2.1) hm;have h3:=congrArg (λx=>x.2.2.1) hm;have h4:=congrArg (λx=>x.2.2.2.1) hm;have h5:=congrArg (λx=>x.2.2.2.2) hm;simp only at h2 h3 h4 h5;refine eu m ?_ c h1;generalize opAt ops (k+m)=I at*;generalize ldR I (aU ops k m s) (enc e)=R at*;obtain⟨q,hc1,hc2⟩:=bind_some h5;split at hc2
 ·rename_i hno;have key:∀d x n a,ldX I=x->ldN I=n->ldA I=a->ZaH P (.load d x n a) (aU ops k m s) ⟨put (aU ops k m s).fr d R,(aU ops k m s).bx,(aU ops k m s).H⟩:=λd x n a e1 e2 e3=>by
   subst e1 e2 e3;exact ZkN enc he hid h3 h4 hc1 hc2 hno
  unfold Zyb at h2;split at h2
  ·exact key _ _ _ _ rfl rfl rfl
  ·exact ZiY (key _ _ _ _ rfl rfl rfl) (by simp only[ldX]at h4;rw[h4];rfl)
  cases h2
 cases hc2
theorem lno {l:List α}{a:AV}{sz:Nat}{fz:Bool}(m j:Nat)(enc:α->List PC)(hH:Fp H0 H f0 items)(hk:items[j]?=some (.arr a sz fz (l.map enc)))(c:EP P ops (k+m+1) (upd (aU ops k m s) (dOf (opAt ops (k+m))) (iv ((List.length l:Nat):Int))) K)
  (hm:(lhs ops k m s,opAt ops (k+m),vals (opAt ops (k+m)) (aU ops k m s))=(rhs ops k m s,.val (dOf (opAt ops (k+m))) .len (xsOf (opAt ops (k+m))),[a]):=by(repeat' cases ‹OwnF _ _ _›)<;>kernel_rfl):EP P ops k s K:=by
 have h1:=congrArg Prod.fst hm;have h2:=congrArg (λx=>x.2.1) hm;have h3:=congrArg (λx=>x.2.2) hm;simp only at h2 h3;refine eu m ?_ c h1;rw[h2];exact Zcm (v:=.len) (show _=_ from h3) (hH.len enc hk)
def stX:Ins->IX
 |.store x _ _|.storeH x _ _=>x
 |_=>.t 0
def stY:Ins->IX
 |.store _ y _|.storeH _ y _=>y
 |_=>.t 0
def stN:Ins->Option Nat
 |.store _ _ n|.storeH _ _ n=>some n
 |_=>none
theorem ZaH.store {I:Ins}{s:St}{m:Nat}{p:AV}{cs:List AV}{H H':List HO}(hI:stN I=some m)(hH:s.H=H)(hx:ev s.fr (stX I)=p)(hcs:cellsOf (ev s.fr (stY I))=cs)(hok:decide (cs.length=m)&&ZaL cs=true)(hl:ZqP p=false)(hw:∀bx,wrt bx H cs p=some ⟨bx,H'⟩):ZaH P I s ⟨s.fr,s.bx,H'⟩:=by
 cases I<;>simp only[stN,Zab,reduceCtorEq]at hI
 ·subst hI;exact Zo2 hcs hH hx rfl hok hw
 subst hI;exact Zwv (Zo2 hcs hH hx rfl hok hw) (by simp only[stX]at hx;rw[hx];exact hl)
theorem so {l:List α}{i:Int}{e:α}{a:AV}{sz id ver:Nat}{b:Bool}(m j:Nat)(enc:α->List PC)(e':α)(hH:Fp H0 H f0 items)(hk:items[j]?=some (.arr a sz false (l.map enc)))(he:idx l i=some e)(hid:H[id]?=some (.arr sz ver b (l.map enc)))(hb:false=false->b=false)(ha:a=.osl sz id ver 0 l.length)
  (c:∀H',Fp H0 H' f0 (items.set j (.arr a sz false ((l.set i.toNat e').map enc)))->EP P ops (k+m+1) (setH (aU ops k m s) H') K)
  (hm:(lhs ops k m s,stN (opAt ops (k+m)),(aU ops k m s).H,ev (aU ops k m s).fr (stX (opAt ops (k+m))),ZaL (cellsOf (ev (aU ops k m s).fr (stY (opAt ops (k+m))))),(unP (cellsOf (ev (aU ops k m s).fr (stY (opAt ops (k+m)))))).bind (λps=>ZbU (offP (ev (aU ops k m s).fr (stX (opAt ops (k+m))))) ps (enc e)))=
   (rhs ops k m s,some (cellsOf (ev (aU ops k m s).fr (stY (opAt ops (k+m))))).length,H,.optr sz id ver (0+i.toNat) (offP (ev (aU ops k m s).fr (stX (opAt ops (k+m))))),true,some (enc e')):=by(repeat' cases ‹OwnF _ _ _›)<;>kernel_rfl):EP P ops k s K:=by
 have h1:=congrArg Prod.fst hm;have h2:=congrArg (λx=>x.2.1) hm;have h3:=congrArg (λx=>x.2.2.1) hm;have h4:=congrArg (λx=>x.2.2.2.1) hm;have h5:=congrArg (λx=>x.2.2.2.2.1) hm;have h6:=congrArg (λx=>x.2.2.2.2.2) hm;simp only at h2 h3 h4 h5 h6;obtain⟨ps,hp1,hp2⟩:=bind_some h6;obtain⟨H',hw,hF⟩:=hH.setRow enc hk ha hid (hb rfl) he hp1 hp2;exact eo m (ZaH.store h2 h3 h4 rfl (by simp[h5]) rfl hw) (c H' hF) h1
theorem sc {id:Nat}{cs:List AV}(m j:Nat)(cs':List AV)(hH:Fp H0 H f0 items)(hk:items[j]?=some (.cel id cs))(c:∀H',Fp H0 H' f0 (items.set j (.cel id cs'))->EP P ops (k+m+1) (setH (aU ops k m s) H') K)
  (hm:(lhs ops k m s,stN (opAt ops (k+m)),(aU ops k m s).H,ev (aU ops k m s).fr (stX (opAt ops (k+m))),ZaL (cellsOf (ev (aU ops k m s).fr (stY (opAt ops (k+m))))),ZbU (offP (ev (aU ops k m s).fr (stX (opAt ops (k+m))))) (cellsOf (ev (aU ops k m s).fr (stY (opAt ops (k+m))))) cs)=
   (rhs ops k m s,some (cellsOf (ev (aU ops k m s).fr (stY (opAt ops (k+m))))).length,H,.ptr id (offP (ev (aU ops k m s).fr (stX (opAt ops (k+m))))),true,some cs'):=by(repeat' cases ‹OwnF _ _ _›)<;>kernel_rfl):EP P ops k s K:=by
 have h1:=congrArg Prod.fst hm;have h2:=congrArg (λx=>x.2.1) hm;have h3:=congrArg (λx=>x.2.2.1) hm;have h4:=congrArg (λx=>x.2.2.2.1) hm;have h5:=congrArg (λx=>x.2.2.2.2.1) hm;have h6:=congrArg (λx=>x.2.2.2.2.2) hm;simp only at h2 h3 h4 h5 h6;obtain⟨H',hw,hF⟩:=hH.setCell hk h6;exact eo m (ZaH.store h2 h3 h4 rfl (by simp[h5]) rfl hw) (c H' hF) h1
def ncC (i:Ins)(s:St):Option (List AV):=match i with
 |.boxH _ x=>some (cellsOf (ev s.fr x))
 |.newH _ z=>some z
 |_=>none
theorem nc (m:Nat)(cs:List AV)(hH:Fp H0 H f0 items)(c:∀id H',Fp H0 H' f0 (.cel id cs::items)->EP P ops (k+m+1) (updH (aU ops k m s) (dOf (opAt ops (k+m))) (.ptr id 0) H') K)
  (hm:(lhs ops k m s,(aU ops k m s).H,ncC (opAt ops (k+m)) (aU ops k m s),ZaL cs)=(rhs ops k m s,H,some cs,true):=by(repeat' cases ‹OwnF _ _ _›)<;>kernel_rfl):EP P ops k s K:=by
 have h1:=congrArg Prod.fst hm;have h2:=congrArg (λx=>x.2.1) hm;have h3:=congrArg (λx=>x.2.2.1) hm;have h4:=congrArg (λx=>x.2.2.2) hm;simp only at h2 h3 h4;obtain⟨id,H',hid,hH',hF⟩:=hH.newCell cs;refine eh m ?_ (c id H' hF) h1;generalize opAt ops (k+m)=I at*;cases I<;>simp only[ncC,Zab,reduceCtorEq]at h3
 ·subst h3;exact ZyX h2 hid hH'
 exact Zy2 h2 rfl (by rw[h3];exact h4) hid (by rw[h3];exact hH')
theorem qu {kk:IntKind}{a b:Int}{f:Int->Option γ}(m:Nat)(h:(quoI kk a b).bind f=some r)(c:∀v,f v=some r->EP P ops (k+m+1) (upd (aU ops k m s) (dOf (opAt ops (k+m))) (.p (.int kk v))) K)
  (hm:(lhs ops k m s,opAt ops (k+m),vals (opAt ops (k+m)) (aU ops k m s))=(rhs ops k m s,.val (dOf (opAt ops (k+m))) (.bin .quo) (xsOf (opAt ops (k+m))),[.p (.int kk a),.p (.int kk b)]):=by(repeat' cases ‹OwnF _ _ _›)<;>kernel_rfl):EP P ops k s K:=by
 obtain⟨v,hv,h⟩:=bs h;have h2:=congrArg (λx=>x.2.1) hm;have h3:=congrArg (λx=>x.2.2) hm;simp only at h2 h3;refine eu m ?_ (c v h) (congrArg Prod.fst hm);rw[h2];exact Zcm (v:=.bin .quo) (show _=_ from h3) (Zsy hv)
theorem rm {a b:Int}{f:Int->Option γ}(m:Nat)(h:(remI a b).bind f=some r)(c:∀v,f v=some r->EP P ops (k+m+1) (upd (aU ops k m s) (dOf (opAt ops (k+m))) (.p (.int (knd (vals (opAt ops (k+m)) (aU ops k m s))) v))) K)
  (hm:(lhs ops k m s,opAt ops (k+m),vals (opAt ops (k+m)) (aU ops k m s))=(rhs ops k m s,.val (dOf (opAt ops (k+m))) (.bin .rem) (xsOf (opAt ops (k+m))),[.p (.int (knd (vals (opAt ops (k+m)) (aU ops k m s))) a),.p (.int (knd (vals (opAt ops (k+m)) (aU ops k m s))) b)]):=by(repeat' cases ‹OwnF _ _ _›)<;>kernel_rfl):EP P ops k s K:=by
 obtain⟨v,hv,h⟩:=bs h;have h2:=congrArg (λx=>x.2.1) hm;have h3:=congrArg (λx=>x.2.2) hm;simp only at h2 h3;refine eu m ?_ (c v h) (congrArg Prod.fst hm);rw[h2];exact Zcm (v:=.bin .rem) (show _=_ from h3) (Zwm hv)
end
end Go.Eng

namespace Go.Eng
open Go
section
variable {P:Program} {n:Nat} {s s0 s':St} {ops:List IOp} {keep:List Nat} {Q:Exit->St->Prop} {K:St->Prop} {k:Nat} {σ ρ γ:Type} {r:γ} {b:IC} {H0 H:List HO} {f0 items:List ZaO}
theorem ow {C:Prop}{a:AV}{sz:Nat}{fz:Bool}{rows:List (List PC)}(j:Nat)(hH:Fp H0 H f0 items)(hk:items[j]?=some (.arr a sz fz rows))(c:OwnF sz rows.length a->C):C:=c (ZcS (hH.get j hk))
theorem w1 {o:σ⊕ρ}{y:σ}{G:List HO->List ZaO->Prop}{u:σ->AV->SU}{bu:σ->AV->BU}{t:σ->AV->List ZaO}{X:ρ->Exit->St->Prop}(h:some (.inl y)=some o)(a:AV){C:Prop}(hp:C)(hC:C->G H (t y a):=by exact id)(hs:s'=apH s0 (u y a) (bu y a) H:=by(repeat' cases ‹OwnF _ _ _›)<;>kernel_rfl):
  lq (λy s'=>∃a H,s'=apH s0 (u y a) (bu y a) H/\G H (t y a)) X o .normal s':=by cases h;exact⟨y,rfl,a,H,hs,hC hp⟩
theorem w2 {o:σ⊕ρ}{y:σ}{G:List HO->List ZaO->Prop}{u:σ->AV->AV->SU}{bu:σ->AV->AV->BU}{t:σ->AV->AV->List ZaO}{X:ρ->Exit->St->Prop}(h:some (.inl y)=some o)(a a':AV){C:Prop}(hp:C)(hC:C->G H (t y a a'):=by exact id)(hs:s'=apH s0 (u y a a') (bu y a a') H:=by(repeat' cases ‹OwnF _ _ _›)<;>kernel_rfl):
  lq (λy s'=>∃a a' H,s'=apH s0 (u y a a') (bu y a a') H/\G H (t y a a')) X o .normal s':=by cases h;exact⟨y,rfl,a,a',H,hs,hC hp⟩
theorem we1 {o:σ⊕ρ}{w:ρ}{e:Exit}{S:AV->List HO->St}{T:AV->List ZaO}{G:List HO->List ZaO->Prop}{X:XT ρ}(h:some (.inr w)=some o)(hx:(e=e/\∃a H,s'=S a H/\G H (T a))->X b s w e s')(a:AV){C:Prop}(hp:C)(hC:C->G H (T a):=by exact id)(hs:s'=S a H:=by(repeat' cases ‹OwnF _ _ _›)<;>kernel_rfl):∃r,o=.inr r/\X b s r e s':=by
 cases h;exact⟨w,rfl,hx ⟨rfl,a,H,hs,hC hp⟩⟩
theorem we2 {o:σ⊕ρ}{w:ρ}{e:Exit}{S:AV->AV->List HO->St}{T:AV->AV->List ZaO}{G:List HO->List ZaO->Prop}{X:XT ρ}(h:some (.inr w)=some o)(hx:(e=e/\∃a a' H,s'=S a a' H/\G H (T a a'))->X b s w e s')(a a':AV){C:Prop}(hp:C)(hC:C->G H (T a a'):=by exact id)(hs:s'=S a a' H:=by(repeat' cases ‹OwnF _ _ _›)<;>kernel_rfl):∃r,o=.inr r/\X b s r e s':=by
 cases h;exact⟨w,rfl,hx ⟨rfl,a,a',H,hs,hC hp⟩⟩
theorem jl1 {ks:List Nat}{v x:σ}{G:List HO->List ZaO->Prop}{u:σ->AV->SU}{b:σ->AV->BU}{t:σ->AV->List ZaO}(h:some v=some x)(a:AV){C:Prop}(hp:C)(hC:C->G H (t v a):=by exact id)(hs:ZbX ks s'=kbH ks s (u v a) (b v a) H:=by(repeat' cases ‹OwnF _ _ _›)<;>kernel_rfl):
  ZpI (jR1 ks s G u b t x) .normal s':=by cases h;exact⟨rfl,a,H,hs,hC hp⟩
theorem jl2 {ks:List Nat}{v x:σ}{G:List HO->List ZaO->Prop}{u:σ->AV->AV->SU}{b:σ->AV->AV->BU}{t:σ->AV->AV->List ZaO}(h:some v=some x)(a a':AV){C:Prop}(hp:C)(hC:C->G H (t v a a'):=by exact id)(hs:ZbX ks s'=kbH ks s (u v a a') (b v a a') H:=by(repeat' cases ‹OwnF _ _ _›)<;>kernel_rfl):
  ZpI (jR2 ks s G u b t x) .normal s':=by cases h;exact⟨rfl,a,a',H,hs,hC hp⟩
theorem cal {H':List HO}{fp fp' rest:List ZaO}(hf:Fp H H' fp fp')(h:Fp H0 H f0 (fp++rest)):Fp H0 H' f0 (fp'++rest):=h.callee hf
theorem al2 {f:Nat}{F:IFn}{args:List AV}{E:AV->AV->AV}{C:AV->AV->List HO->Prop}(hk:chkF P f F=true)(ids:List Nat)(hE:∀a a' H,C a a' H->ZaV (E a a')=true)(h:vc P F.nt F.body (endQ λs'=>∃xs,rawL (wS ids s') F.res=some xs/\∃a a',ZcP xs=E a a'/\C a a' (weakH ids s'.H)) ⟨Zhy args 0,[],H⟩)
  (hl:(args.length,noLocL args)=(F.nargs,true):=by(repeat' cases ‹OwnF _ _ _›)<;>kernel_rfl):∃a a' H',ZbW P f args H (E a a') H'/\C a a' H':=by
 obtain⟨r,H',h1,a,a',e,h2⟩:=Zqe hk ids (λr H=>∃a a',r=E a a'/\C a a' H) (λr H ⟨a,a',e,hc⟩=>by rw[e];exact hE a a' H hc) (congrArg Prod.fst hl) (congrArg Prod.snd hl) h;exact⟨a,a',H',e▸h1,h2⟩
theorem ac1 {f:Nat}{F:IFn}{args:List AV}{x:AV}{C:List ZaO->List HO->Prop}(hk:chkF P f F=true)(hno:noLocL args=true)(hr:ZaV x=true)(h:vc P F.nt F.body (endQ λs'=>∃xs,rawL s' F.res=some xs/\ZcP xs=x/\∃i,C i s'.H) ⟨Zhy args 0,[],H⟩)
  (hl:args.length=F.nargs:=by rfl):∃H' i,ZbW P f args H x H'/\C i H':=by
 obtain⟨H',h1,i,h2⟩:=ZtP hk (λH=>∃i,C i H) hl hno hr h;exact⟨H',i,h1,h2⟩
theorem va1 {f:Nat}{F:IFn}{first xs cap:List AV}{x:AV}{C:List ZaO->List HO->Prop}(hk:chkF P f F=true)(args:List AV)(hno:noLocL args=true)(hr:ZaV x=true)(h:vc P F.nt F.body (endQ λs'=>∃xs,rawL s' F.res=some xs/\ZcP xs=x/\∃i,C i s'.H) ⟨Zhy args 0,[],H⟩)
  (hl:args.length=F.nargs:=by rfl) (hf:frzL H (first++xs++cap)=some (args,H):=by kernel_rfl):∃H' i,ZgV P (.fn f first cap) xs H x H'/\C i H':=by
 obtain⟨H',h1,i,h2⟩:=ZtP hk (λH=>∃i,C i H) hl hno hr h;exact⟨H',i,ZgV.of hf h1,h2⟩
theorem yc1 {id nt:Nat}{args:List AV}{H:List HO}{ps:List Nat}{fr0:List (Nat×AV)}{ia ib:IC}{b:Bool}{C:List ZaO->List HO->Prop}(hH:H[id]?=some (.lp (lcOf P nt ps ia ib) fr0 .ready))(hps:args.length=ps.length)(hlt:∀t∈ps,t<nt)(hno:noLocL args=true)
  (h:vc P nt ia (ZpI λs1=>s1.H[id]?=some (.lp (lcOf P nt ps ia ib) fr0 .ready)/\vc P nt ib (λe s2=>∃H',ZsT id (lcOf P nt ps ia ib) fr0 b H' e s2/\∃i,C i H') ⟨s1.fr,s1.bx,s1.H.set id (.lp (lcOf P nt ps ia ib) fr0 .busy)⟩) ⟨Zmy fr0 ps args,[],H⟩):∃H' i,Zlc P id args H b H'/\C i H':=by
 obtain⟨H',h1,i,h2⟩:=Zwh b (λH=>∃i,C i H) hH hps hlt hno h;exact⟨H',i,h1,h2⟩
def UB:Nat->Type
 |0=>SU
 |m+1=>Bool->UB m
def apB:(m:Nat)->UB m->List Bool->SU
 |0,u,_=>u
 |m+1,u,c::cs=>apB m (u c) cs
 |_+1,_,[]=>[]
def kB (keep:List Nat)(s:St)(m:Nat)(u:UB m)(cs:List Bool):St:=kb keep s (apB m u cs) []
theorem rb (m:Nat)(u:UB m)(cs:List Bool)(h:EP P ops 0 s (λs1=>ZbX keep s1=kB keep s m u cs))(c:Q .normal (kB keep s m u cs)):vc P n (.reg ops keep) Q s:=rx (apB m u cs) [] h c
theorem bb {c:Bool}{cs:List Bool}{q:Nat}{u:UB (q+1)}(m d:Nat)(T:EP P ops (k+m) (upd (aU ops k m s) d (bv true)) (λs1=>ZbX keep s1=kB keep s0 q (u true) cs))(F:EP P ops (k+m) (upd (aU ops k m s) d (bv false)) (λs1=>ZbX keep s1=kB keep s0 q (u false) cs))
  (hm:(opsF Zeu (segO ops k m) s,upd (aU ops k m s) d (bv c))=(some (aU ops k m s),aU ops k m s):=by(repeat' cases ‹OwnF _ _ _›)<;>kernel_rfl):EP P ops k s (λs1=>ZbX keep s1=kB keep s0 (q+1) u (c::cs)):=
 bg' (G:=λb s1=>ZbX keep s1=kB keep s0 q (u b) cs) m d rfl T F hm
theorem bs' {c:Bool}{cs:List Bool}{q:Nat}{u:UB (q+1)}(h:EP P ops k s (λs1=>ZbX keep s1=kB keep s0 q (u c) cs)):EP P ops k s (λs1=>ZbX keep s1=kB keep s0 (q+1) u (c::cs)):=h
theorem be {cs:List Bool}{q:Nat}{u:UB q}(hk:(opsF Zeu (ops.drop k) s,ZbX keep (opsU (ops.drop k) s))=(some (opsU (ops.drop k) s),kB keep s0 q u cs):=by(repeat' cases ‹OwnF _ _ _›)<;>kernel_rfl):EP P ops k s (λs1=>ZbX keep s1=kB keep s0 q u cs):=ef (congrArg Prod.snd hk) (congrArg Prod.fst hk)
end
end Go.Eng

