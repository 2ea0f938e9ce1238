/-Part of the proof. -/
import Derived.Test.YtlajapegdomhfaaGreatSynthOpensE18
import Derived.Laws.StructEq
import Derived.KernelRfl
import Derived.Laws.IdiomRangeMap
set_option linter.all false
namespace Go.Eng
open Go
def ZtR {α:Type}{l:List α}{i:Nat}{x:α}(h:l[i]?=some x):i<l.length:=(List.getElem?_eq_some_iff.1 h).1
section
variable {P:Program} {n:Nat} {g:G} {s:St} {a:Act} {w:World}
end
end Go.Eng

namespace Go.Eng
open Go
def ZuA {α:Type}(n:Nat)(z:α)(l:List α)(h:l.length=n){m:List α}(e:m=(List.range n).map λi=>l.getD i z):m=l:=by
 subst e;apply List.ext_getElem?;intro i;rw[ZN];by_cases hi:i<n
 ·rw[List.getElem?_range hi,ZL (by omega)];simp[ZF,ZL (show i<l.length by omega)]
 rw[ZM (l:=List.range n) (by simp;omega),ZM (by omega)];rfl
def ZfE {α:Type}{l:List α}{i:Int}{e:α}(h:idx l i=some e):0<=i/\i.toNat<l.length/\l[i.toNat]?=some e:=by
 unfold idx at h;split at h
 ·rename_i h0;exact⟨h0,(List.getElem?_eq_some_iff.1 h).1,h⟩
 cases h
def ZsO {α:Type}{l:List α}{i:Int}{e:α}{t off n sz:Nat}{k:IntKind}(h:idx l i=some e)(hn:l.length=n):
  Zbc (.iaddr n sz) [.loc t off,.p (.int k i)]=some (.loc t (off+i.toNat*sz)):=by
 obtain⟨h0,h1,_⟩:=ZfE h;simp only[Zbc];rw[Zav ⟨h0,by omega⟩];rfl
def Zgk {α:Type}{l:List α}{i:Int}{e:α}{t off n sz:Nat}{k:IntKind}(h:idx l i=some e)(hn:l.length=n):
  Zbc (.iaddr n sz) [.ptr t off,.p (.int k i)]=some (.ptr t (off+i.toNat*sz)):=by
 obtain⟨h0,h1,_⟩:=ZfE h;simp only[Zbc];rw[Zav ⟨h0,by omega⟩];rfl
def ZwQ {α:Type}{l:List α}{i:Int}{e:α}{off:Nat}(f:α->AV)(pre post:List AV)(h:idx l i=some e)(hp:pre.length=off){cs:List AV}(hc:cs=pre++(l.map f++post)):
  sub (off+i.toNat*1) 1 cs=some [f e]:=by
 obtain⟨h0,h1,h2⟩:=ZfE h;subst hc hp;unfold sub;rw[Zav (by simp;omega)];have e1:(pre++(l.map f++post))[pre.length+i.toNat*1]?=some (f e):=by
  rw[ZH (by omega),show pre.length+i.toNat*1-pre.length=i.toNat by omega,ZG (by simpa using h1),ZN,h2];rfl
 congr 1
 have:=List.drop_eq_getElem_cons (ZtR e1);rw[this];have e2:(pre++(l.map f++post))[pre.length+i.toNat*1]'(ZtR e1)=f e:=by
  rw[ZL (ZtR e1)]at e1;simpa using e1
 rw[e2];simp
def Zm7 {α:Type}{l:List α}{i:Int}{e y:α}{off:Nat}(f:α->AV)(pre post:List AV)(h:idx l i=some e)(hp:pre.length=off){cs vs cs':List AV}(hc:cs=pre++(l.map f++post))(hv:vs=[f y])
  (h3:cs'=pre++((l.set i.toNat y).map f++post)):Zb3 (off+i.toNat*1) vs cs=some cs':=by
 obtain⟨h0,h1,h2⟩:=ZfE h;subst hc hp hv h3;unfold Zb3;rw[Zav (by simp;omega)]
 congr 1
 rw[Nat.mul_one,List.take_append,Zae (by omega),show pre.length+i.toNat-pre.length=i.toNat by omega,Zac (by simp;omega)];simp only[Zx]
 congr 1
 rw[List.drop_append,List.drop_eq_nil_of_le (by simp;omega),Z7,show pre.length+i.toNat+[f y].length-pre.length=i.toNat+1 by simp;omega,
  List.drop_append_of_le_length (by simp;omega),←Zx,←Zx]
 congr 1
 rw[List.map_set,List.set_eq_take_append_cons_drop,Zav (by simpa using h1)];simp
def ZuQ {X Y:List AV}{pre post cs':List AV}(h:X=Y)(hc:cs'=pre++(X++post)):cs'=pre++(Y++post):=h▸hc
section
variable {P:Program} {n:Nat} {s:St}
def ZvP {α:Type}{l:List α}{i:Int}{e:α}{d t off:Nat}{x:IX}{cs:List AV}(f:α->AV)(pre post:List AV)(h:idx l i=some e)(hx:ev s.fr x=.loc t (off+i.toNat*1))(hb:bget s.bx t=some cs)
  (hc:cs=pre++(l.map f++post)) (hp:pre.length=off) (h0:ZdX (f e)=true:=by rfl):ZaS P (.loadL d x 1 false) s ⟨put s.fr d (f e),s.bx,s.H⟩:=by
 have hs:=ZwQ f pre post h hp hc;simp only[ZaS,Zbb,hx,rd,hb,Zak,hs,ZaX,h0,Bool.and_self,Zaw,mk,Zam,Zg,Zat]
def Zs1 {α:Type}{l:List α}{i:Int}{e:α}{d id off:Nat}{x:IX}{cs:List AV}{H:List HO}(f:α->AV)(pre post:List AV)(h:idx l i=some e)(hs:s.H=H)(hx:ev s.fr x=.ptr id (off+i.toNat*1))(hl:Lies H (.cel id cs))
  (hc:cs=pre++(l.map f++post)) (hp:pre.length=off) (h0:ZdX (f e)=true:=by rfl):ZaS P (.load d x 1 false) s ⟨put s.fr d (f e),s.bx,s.H⟩:=by
 subst hs;have h1:s.H[id]?=some (.cells cs):=hl;have hs:=ZwQ f pre post h hp hc;simp only[ZaS,Zbb,hx,rd,h1,Zak,hs,ZaX,h0,Bool.and_self,Zaw,mk,Zam,Zg,Zat]
def ZwR {x y:IX}{m:Nat}{s':St}(h:ZaS P (.store x y m) s s')(hl:ZqY (ev s.fr x)=false):ZaS P (.storeH x y m) s s':=by
 simp only[ZaS,Zbb]at h⊢;split at h
 ·rename_i hc;rw[Zav ⟨hl,hc⟩];exact h
 cases h
def Fp.lit {α:Type}{H0 H:List HO}{f0 items:List Za0}(sz:Nat)(l:List α)(enc:α->List PC)(hH:Fp H0 H f0 items):
  ∃a H',a=.osl sz H.length 0 0 (l.map enc).length/\H'=H++[.arr sz 0 false (l.map enc)]/\Fp H0 H' f0 (.arr a sz false (l.map enc)::items):=
 ⟨_,_,rfl,rfl,hH.new (.inr ⟨H.length,0,rfl,false,λ_=>rfl,by simp⟩) (λid ⟨_,_,_,_,e⟩=>by cases e;rfl)⟩
def ZoA {d sz:Nat}{xs:List IX}{ys:List AV}{rows:List (List PC)}{H H':List HO}{a:AV}(hs:s.H=H)(hy:xs.map (ev s.fr)=ys)(hr:ZnG sz ys=some rows)(ha:a=.osl sz H.length 0 0 rows.length)(hH:H'=H++[.arr sz 0 false rows]):
  ZaS P (.litSl d sz xs) s ⟨put s.fr d a,s.bx,H'⟩:=by
 subst hs hy ha hH;simp only[ZaS,Zbb,hr,Zam]
end
end Go.Eng

namespace Go.Eng
open Go
def passC_nil' {fl:List Bool}{H:List HO}:Zmx fl H []=some ([],H):=rfl
def ZbN {b:Bool}{fl:List Bool}{H H1 H2:List HO}{x x':AV}{xs xs':List AV}(h1:ZpG b H x=some (x',H1))(h2:Zmx fl H1 xs=some (xs',H2)):Zmx (b::fl) H (x::xs)=some (x'::xs',H2):=by
 simp only[Zmx,List.headD_cons,List.tail_cons,h1,Zak,h2,Zam]
def Zdb {H:List HO}{c:AV}(h:Za7 c=true):ZpG true H c=some (c,H):=by simp[ZpG,h]
def ZhB {H H1:List HO}{c x:AV}(h:frz1 H c=some (x,H1)):ZpG false H c=some (x,H1):=by simpa[ZpG]using h
def ZhA {fl:List Bool}{H H':List HO}{cs cs':List AV}(h:Zmx fl H cs=some (cs',H')):ZqT fl H (.agg cs)=some (.agg cs',H'):=by simp only[ZqT,h,Zam]
def ZbG {H H':List HO}{x x':AV}(h:frzV H x=some (x',H')):ZqT [] H x=some (x',H'):=by rw[Ztu];exact h
def passL_nil' {fl:List (List Bool)}{H:List HO}:Zni fl H []=some ([],H):=rfl
def Zbe {b:List Bool}{fl:List (List Bool)}{H H1 H2:List HO}{x x':AV}{xs xs':List AV}(h1:ZqT b H x=some (x',H1))(h2:Zni fl H1 xs=some (xs',H2)):Zni (b::fl) H (x::xs)=some (x'::xs',H2):=by
 simp only[Zni,List.headD_cons,List.tail_cons,h1,Zak,h2,Zam]
def ZdW {H:List HO}{a:AV}{sz:Nat}{frz:Bool}{rows:List (List PC)}(h:Lies H (.arr a sz frz rows)):Za7 a=true:=by
 rcases ZoE h with rfl|⟨_,_,rfl⟩<;>rfl
section
variable {P:Program} {n:Nat} {s:St}
def ZgS {d:Option Nat}{f:Nat}{xs:List IX}{ys args:List AV}{r:AV}{H H1 H':List HO}(hs:s.H=H)(hy:xs.map (ev s.fr)=ys)(fl:List (List Bool))(hf:Zni fl H ys=some (args,H1))(hc:Zcg P f args H1 r H'):ZaS P (.call d f xs) s ⟨putO s.fr d r,s.bx,H'⟩:=by
 subst hs hy;exact⟨args,H1,r,H',⟨fl,hf⟩,hc,rfl⟩
def Zqk {f:Nat}{F:IFn}(hk:chkF P f F=true){args:List AV}{H:List HO}(ids:List Nat)(K:AV->List HO->Prop)(hK:∀r H,K r H->Za7 r=true)(hl:args.length=F.nargs)(h0:noLocL args=true)
  (h:vc P F.nt F.body (endQ λs'=>∃xs,rawL (wS ids s') F.res=some xs/\K (ZcZ xs) (weakH ids s'.H)) ⟨ZhI args 0,[],H⟩):∃r H',Zcg P f args H r H'/\K r H':=by
 obtain⟨e,s',h1,h2⟩:=vcd _ h;have key:(∃xs,rawL (wS ids s') F.res=some xs/\K (ZcZ xs) (weakH ids s'.H))->(e=.normal∨e=.ret)->∃r H',Zcg P f args H r H'/\K r H':=by
  rintro⟨xs,x1,x3⟩ he;refine⟨ZcZ xs,weakH ids s'.H,ZsG hk hl h0 (hK _ _ x3) (EvI.weak ids (Zbp _ _ _ (ZcN _ (λe1 s1 q=>?_) h1))),x3⟩;obtain⟨q1,q2⟩:=q;subst q1 q2;rcases he with rfl|rfl
  ·exact⟨xs,x1,rfl,rfl⟩
  exact⟨xs,x1,rfl,rfl⟩
 cases e with
 |normal=>exact key h2 (.inl rfl)
 |ret=>exact key h2 (.inr rfl)
 |_=>exact h2.elim
def Zct {f:Nat}{F:IFn}(hk:chkF P f F=true){args:List AV}{H H':List HO}{r:AV}(hl:args.length=F.nargs)(h6:noLocL args=true)(hr:Za7 r=true)
  (h:EvI P F.nt F.body ⟨ZhI args 0,[],H⟩ (endQ λs'=>∃xs,rawL s' F.res=some xs/\ZcZ (weakVs xs)=r/\s'.H=H')):Zcg P f args H r H':=by
 unfold chkF at hk;split at hk
 ·rename_i fn hf;split at hk
  ·rename_i c hb;simp only[Ze,Zas,Zh]at hk;obtain⟨⟨⟨⟨hc,h3⟩,h8⟩,h5⟩,h0⟩:=hk;refine⟨⟨fn,hf,by rw[hb];rfl,h0⟩,hr,λok0 ρ w vs h7 hv=>?_⟩;have h4:=Zp5 (n:=fn.ntmps) h7 hv h6 (by omega);refine ZsC (r:=none) (m:=0) (callsIn_of_wp_marks hf hb trivial (wpIn_mono (h c (by rw[←h5];exact hc) _ _ _ _ (by rw[←h5];exact h4)) ?_));rintro e a' w' ⟨s',g',h1,h2⟩;have key:(∃xs,rawL s' F.res=some xs/\ZcZ (weakVs xs)=r/\s'.H=H')->LeavesInM (FR none) 0 P fn a'.tmps (λe w'=>∃v' ρ',e=.returned v'/\HR (k0 ok0 ρ H w) ρ' H' w'/\VR (cx (k0 ok0 ρ H w) ⟨ρ',noB⟩ H' w') r v'∧
     ZbA (cx (k0 ok0 ρ H w) ⟨ρ,noB⟩ H w) (cx (k0 ok0 ρ H w) ⟨ρ',noB⟩ H' w')) a'.defers .returning w':=by
    rintro⟨xs,x1,rfl,rfl⟩;refine h1.leavesAll λw2 h2=>?_
    obtain⟨us,u1,u2⟩:=Zkq (P:=P) h2 h3 x1;refine⟨_,?_,_,g'.ρ,rfl,h2.toHR,VR.later h2.noBoxes _ _ hr (ZrK u2.weakVs),h2.hist.trans h2.noBoxes⟩;rw[Zna];have hm:(fn.results.mapM (m:=Sem) (resF a'.tmps)).run P w2=.ok us.toArray w2:=by
     rw[←Array.toArray_toList (xs:=fn.results),List.mapM_toArray,Sem.run_map,u1];rfl
    simp only[Sem.run_bind,hm,Result.andThen_ok,Sem.run_pure]
   cases e with
   |normal=>exact key h2
   |ret=>exact key h2
   |_=>exact h2.elim
  cases hk
 cases hk
def ZbZ {res:List RV}{r:AV}{H:List HO}(h:(rawL s res).map (λxs=>ZcZ (weakVs xs))=some r)(hH:s.H=H):∃xs,rawL s res=some xs/\ZcZ (weakVs xs)=r/\s.H=H:=by
 cases hs:rawL s res with
 |none=>rw[hs]at h;cases h
 |some xs=>rw[hs]at h;exact⟨xs,rfl,by simpa using h,hH⟩
def ZsL {α:Type}{l r:List α}{sz:Nat}{f:Bool}{k k' k'':IntKind}{lo hi:Int}(enc:α->List PC)(h:subI l lo hi=some r):
  Zbc (.slice sz true true true) [.p (.sl sz f (l.map enc)),.p (.int k lo),.p (.int k' hi),.p (.int k'' hi)]=some (.p (.sl sz true (r.map enc))):=by
 obtain⟨h1,h2,h3,h4,h5⟩:=ZwP enc h;have h0:0<=hi:=by omega
 simp only[Zbc,Zlg,ZfI,Zaw,Zav h1,Zav h0,Zak];rw[Zav ⟨rfl,by omega,by simp;omega,trivial,trivial,λ_=>trivial⟩,h5]
end
end Go.Eng
namespace Go.Eng
open Go
def ZvE {H:List HO}:FrzC H [] []:=by rw[FrzC]
def Zdz {H:List HO}{c x:AV}{cs xs:List AV}(h1:frz1 H c=some (x,H))(h2:FrzC H cs xs):FrzC H (c::cs) (x::xs):=by rw[FrzC];exact⟨x,xs,rfl,h1,h2⟩
def ZvD {H:List HO}{cs xs:List AV}(h:FrzC H cs xs):FrzQ H (.agg cs) (.agg xs):=⟨xs,rfl,h⟩
def Zzd {H:List HO}:FrzL H [] []:=by rw[FrzL]
def Zue {H:List HO}{c x:AV}{cs xs:List AV}(h1:FrzQ H c x)(h2:FrzL H cs xs):FrzL H (c::cs) (x::xs):=by rw[FrzL];exact⟨x,xs,rfl,h1,h2⟩
section
variable {P:Program} {s:St}
def Zyd {d f:Nat}{xs:List IX}{ys args:List AV}{r:AV}{H:List HO}(hs:s.H=H)(hy:xs.map (ev s.fr)=ys)(hf:FrzL H ys args)(hc:Zld P f args r):ZaS P (.callQ d f xs) s ⟨put s.fr d r,s.bx,s.H⟩:=by
 subst hs hy;exact⟨args,r,hf,hc,rfl⟩
end
def ZyX {H:List HO}{id sz ver:Nat}{f:Bool}{rows:List (List PC)}(hid:H[id]?=some (.arr sz ver f rows)){b x:AV}(h:frz1 H b=some (x,H)):
  frz1 (H.set id (.arr sz ver true rows)) b=some (x,H.set id (.arr sz ver true rows)):=by
 have h0:=ZtR hid;unfold frz1 at h⊢;split at h
 ·simp only[Zan,Zao]at h;simp[h.1]
 ·simp only[Zan,Zao]at h;simp[h.1]
 ·simp only[Zan,Zao]at h;simp[h.1]
 ·split at h
  ·rename_i hc;simp only[Zan,Zao]at h;simp[hc,h.1]
  cases h
 ·simp only[Zan,Zao]at h;simp[h.1]
 ·simp only[Zan,Zao]at h;simp[h.1]
 ·rename_i sz0 id0 ver0 off len;split at h
  ·rename_i sz' ver' frz rows' hH;split at h
   ·rename_i hc;cases hs:sub off len rows' with
    |none=>simp[hs]at h
    |some r=>
     simp only[hs,Zam,Zan,Zao]at h;by_cases e:id=id0
     ·subst e;rw[hid]at hH;simp only[Zan,HO.arr.injEq]at hH;obtain⟨rfl,rfl,rfl,rfl⟩:=hH;have:(H.set id (.arr sz ver true rows))[id]?=some (.arr sz ver true rows):=by simp[h0]
      simp only[this];rw[Zav hc];obtain⟨rfl,rfl⟩:=hc;simp only[hs,Zam,Zan,Zao];exact⟨h.1,by rw[List.set_set]⟩
     have:(H.set id (.arr sz ver true rows))[id0]?=some (.arr sz' ver' frz rows'):=by rw[ZQ e];exact hH
     simp only[this];rw[Zav hc];simp only[hs,Zam,Zan,Zao];exact⟨h.1,by rw[List.set_comm _ _ e,h.2]⟩
   cases h
  cases h
 cases h
def Fp.frzd {α:Type}{H0 H:List HO}{f0 items:List Za0}{k:Nat}{a:AV}{sz:Nat}{frz:Bool}{l:List α}(enc:α->List PC)(hF:Fp H0 H f0 items)(hk:items[k]?=some (.arr a sz frz (l.map enc))):
  ∃H',frzV H a=some (.p (.sl sz false (l.map enc)),H')/\frz1 H' a=some (.p (.sl sz false (l.map enc)),H')/\(∀b x,frz1 H b=some (x,H)->frz1 H' b=some (x,H'))/\Fp H0 H' f0 (items.set k (.arr a sz true (l.map enc))):=by
 rcases hF.get k hk with⟨rfl,hl⟩|⟨id,ver,rfl,f,hf,hid⟩
 ·refine⟨H,by rw[hl];rfl,by rw[hl];rfl,λ_ _ h=>h,?_⟩;exact hF.step hk (.inl ⟨rfl,hl⟩) (λid ⟨_,_,_,_,e⟩=>by cases e) (λ_ _ _=>rfl) (Nat.le_refl _)
 have h1:=ZtR hid;have e1:frz1 H (.osl sz id ver 0 (l.map enc).length)=some (.p (.sl sz false (l.map enc)),H.set id (.arr sz ver true (l.map enc))):=by
  simp only[frz1,hid,and_self,Zaw,sub,Zaj,Nat.le_refl,ZB,Zad,Zam]
 have h0:(H.set id (.arr sz ver true (l.map enc)))[id]?=some (.arr sz ver true (l.map enc)):=by simp[h1]
 refine⟨H.set id (.arr sz ver true (l.map enc)),e1,?_,λb x h=>ZyX hid h,?_⟩
 ·simp only[frz1,h0,and_self,Zaw,sub,Zaj,Nat.le_refl,ZB,Zad,Zam,List.set_set]
 refine hF.step hk (.inr ⟨id,ver,by simp,true,by simp,by simp[h1]⟩) (λid' ⟨_,_,_,_,e⟩=>by cases e;exact .inl ⟨sz,ver,0,_,rfl⟩) (λid' h2 ho=>?_) (by simp);rw[ZQ];intro e;subst e;exact ho ⟨sz,ver,0,_,rfl⟩
end Go.Eng

namespace Go.Eng
open Go Go.MapKept
abbrev Ent:=List (List Int×AV)
def Zla (es:Ent)(ks:List Int):Option AV:=(es.find? (λp=>decide (p.1=ks))).map (·.2)
def mset (es:Ent)(ks:List Int)(v:AV):Ent:=match es with
 |[]=>[(ks,v)]
 |p::r=>if p.1=ks then(ks,v)::r else p::mset r ks v
def keyA (kn:Nat)(ks:List Int):AV:=if kn=0 then .p (.int .i64 (ks.headD 0))else .agg (ks.map λn=>.p (.int .i64 n))
def fEnt:Ent->List MapEntry->List Int->Nat->Option (Nat×Value)
 |p::es,e::ents,ks,i=>if p.1=ks then some (i,e.val)else fEnt es ents ks (i+1)
 |_,_,_,_=>none
def Zxi {c:Cx}{kn:Nat}{ks:List Int}{v:Value}(h:VR c (keyA kn ks) v):v=keyV kn ks:=by
 unfold keyA at h;unfold keyV;split at h
 ·rename_i e;rw[Zav e];exact Zc8 h
 rename_i e;rw[Zau e];rw[VR]at h;obtain⟨vs,rfl,h⟩:=h
 congr 1
 have:vs=ks.map (Value.int .i64):=by
  clear e;induction ks generalizing vs with
  |nil=>rw[Z4,VRL]at h;exact h
  |cons x xs ih=>
   rw[Z3,VRL]at h;obtain⟨u,us,rfl,h1,h2⟩:=h;rw[Zc8 h1,ih us h2];rfl
 rw[this]
def ZoM {c:Cx}:∀(ks:List Int),VRL c (ks.map λn=>.p (.int .i64 n)) (ks.map (Value.int .i64))
 |[]=>by simp[VRL]
 |x::xs=>by rw[Z3,Z3,VRL];exact⟨_,_,rfl,Zev _ _,ZoM xs⟩
def Zn3:∀(as bs:List Int),as.length=bs.length->∀ks:List Bool,ks=as.map (λ_=>true)→
  ZcQ ks (as.map λn=>.p (.int .i64 n)) (bs.map λn=>.p (.int .i64 n))=some (decide (as=bs))
 |[],[],_,ks,e=>by subst e;rfl
 |a::as,b::bs,h,ks,e=>by
  subst e;have:=Zn3 as bs (by simpa using h) _ rfl;simp only[Z3,ZcQ,Zaw,this,Zam]
  congr 1
  by_cases h1:a=b<;>by_cases h2:as=bs<;>simp[h1,h2]
 |[],_::_,h,_,_=>by simp at h
 |_::_,[],h,_,_=>by simp at h
section
variable {P:Program}
def Zn1 {w:World}{kk:IntKind}:∀(es:Ent) (ents:List MapEntry) (ks:List Int) (i:Nat),ents.map (·.key)=es.map (λp=>keyV 0 p.1)->(∀p∈es,p.1.length=1)->ks.length=1→
  Instr.findNow (.int kk) (keyV 0 ks) ents i=some (fEnt es ents ks i)
 |[],[],ks,i,_,_,_=>rfl
 |p::es,e::ents,ks,i,h,hl,hk=>by
  simp only[Z3,Zy]at h;obtain⟨x,hx⟩:=List.length_eq_one_iff.1 hk;obtain⟨y,hy⟩:=List.length_eq_one_iff.1 (hl p (by simp));have ih:=Zn1 (w:=w) (kk:=kk) es ents ks (i+1) h.2 (λq hq=>hl q (by simp[hq])) hk;unfold Instr.findNow fEnt;rw[h.1];subst hx;rw[hy];simp only[keyV,Zaw,List.headD_cons,Instr.sameNow];by_cases e1:y=x
  ·subst e1;simp
  have e2:(x==y)=false:=by simp[Ne.symm e1]
  have e3:¬([y]=[x]):=by simp[e1]
  rw[Zau e3,e2];exact ih
 |[],_::_,_,_,h,_,_=>by simp at h
 |_::_,[],_,_,h,_,_=>by simp at h
def Zh8 {w:World}{kt:TypeId}{kn:Nat}(h0:kn≠0){ks0:List Bool}(hq:eqOK P kt ks0=true)(h5:ks0.length=kn)(ht:∀b∈ks0,b=true):
  ∀(es:Ent) (ents:List MapEntry) (ks:List Int) (i:Nat),ents.map (·.key)=es.map (λp=>keyV kn p.1)->(∀p∈es,p.1.length=kn)->ks.length=kn→
  (Instr.findAsking kt (keyV kn ks) ents i).run P w=.ok (fEnt es ents ks i) w
 |[],[],ks,i,_,_,_=>rfl
 |p::es,e::ents,ks,i,h,hl,hk=>by
  simp only[Z3,Zy]at h;have ih:=Zh8 (w:=w) h0 hq h5 ht es ents ks (i+1) h.2 (λq hq=>hl q (by simp[hq])) hk;have hp:=hl p (by simp);have h4:ks0=ks.map (λ_=>true):=by
   refine List.ext_getElem (by simp[h5,hk]) λj h1 h2=>?_
   simp[ht _ (List.getElem_mem h1)]
  have h3:(Op.equal kt (keyV kn ks) (keyV kn p.1)).run P w=.ok (decide (ks=p.1)) w:=by
   simp only[keyV,Zau h0];exact Zli (c:=⟨λ_=>True,w,[],[],noB⟩) hq (Zn3 ks p.1 (by rw[hk,hp]) ks0 h4) (ZoM ks) (ZoM p.1)
  unfold Instr.findAsking fEnt;rw[h.1];simp only[Sem.run_bind,h3,Result.andThen_ok];by_cases e1:p.1=ks
  ·rw[Zav e1];simp[e1]
  have e2:¬ks=p.1:=λe=>e1 e.symm
  rw[Zau e1];simp only[e2,decide_false,Zg,Zat];exact ih
 |[],_::_,_,_,h,_,_=>by simp at h
 |_::_,[],_,_,h,_,_=>by simp at h
def ZpT {kt:TypeId}{kn:Nat}(h:ZuI P kt kn=true):(kn=0/\∃kk,P.underlying kt=some (.int kk))∨
  (kn≠0/\∃fs ks0,P.underlying kt=some (.struct fs)/\eqOK P kt ks0=true/\ks0.length=kn/\(∀b∈ks0,b=true)/\Zd8 P 0 fs.toList ks0=true):=by
 unfold ZuI at h;split at h
 ·rename_i kk hu;exact .inl ⟨by simpa using h,kk,hu⟩
 ·rename_i fs hu;simp only[Ze,Zas]at h;obtain⟨⟨⟨h1,h2⟩,_⟩,h3⟩:=h;refine .inr ⟨h2,fs,_,hu,h3,by simp[h1],by simp,?_⟩;simp only[eqOK,Ze,hu]at h3;exact h3.1.1
 cases h
def Zqq {fs:Array Field}{a b:Value}:Instr.sameNow (.struct fs) a b=none:=by
 unfold Instr.sameNow;rfl
def Zlh {w:World}{kt:TypeId}{kn:Nat}(h:ZuI P kt kn=true){es:Ent}{ents:List MapEntry}{ks:List Int}(he:ents.map (·.key)=es.map (λp=>keyV kn p.1))(hl:∀p∈es,p.1.length=klen kn)(hk:ks.length=klen kn):
  (Instr.findKey kt (keyV kn ks) ents).run P w=.ok (fEnt es ents ks 0) w:=by
 rcases ZpT h with⟨rfl,kk,hu⟩|⟨h0,fs,ks0,hu,hq,h2,ht,_⟩
 ·unfold Instr.findKey;simp only[Sem.run_bind,run_underlying hu,Result.andThen_ok,Zn1 (w:=w) es ents ks 0 he hl hk];rfl
 have h3:klen kn=kn:=by simp[klen,h0]
 rw[h3]at hl hk;have h1:=Zh8 (w:=w) h0 hq h2 ht es ents ks 0 he hl hk;unfold Instr.findKey;simp only[Sem.run_bind,run_underlying hu,Result.andThen_ok];cases ents with
 |nil=>
  cases es with
  |nil=>rfl
  |cons=>simp at he
 |cons e ents=>
  unfold Instr.findNow;rw[Zqq];exact h1
def Zqa {w:World}{m:Nat}{b0:Bool}:∀(fs:List Field) (ks0:List Bool) (off:Nat) (cs:Array Value) (ks:List Int),Zd8 P off fs ks0=true->(∀b∈ks0,b=true)->cs.toList.drop off=ks.map (Value.int .i64)->ks.length=ks0.length→
  (forIn fs PUnit.unit λf (_:PUnit)=>(do
    if f.name ≠ "_" then
     let x←part f.type cs f.offset
     Instr.checkKey b0 (m+1) f.type x
     pure (ForInStep.yield PUnit.unit)
    else pure (ForInStep.yield PUnit.unit):Sem _)).run P w=.ok PUnit.unit w
 |[],ks0,off,cs,ks,_,_,_,_=>rfl
 |f::fs,k::ks0,off,cs,x::ks,hf,ht,hc,hl=>by
  simp only[Zd8,Ze,Zh,Zas,beq_eq_false_iff_ne]at hf;obtain⟨⟨⟨hn,ho⟩,hk⟩,hf⟩:=hf;obtain rfl:k=true:=ht k (by simp);have hxo:cs[f.offset]?=some (.int .i64 x):=by
   have:=congrArg (·[0]?) hc;simpa[ho]using this
  have hx':cs.toList.drop (off+1)=ks.map (Value.int .i64):=by
   have:=congrArg List.tail hc;simpa using this
  have ih:=Zqa (w:=w) (m:=m) (b0:=b0) fs ks0 (off+1) cs ks hf (λb hb=>ht b (by simp[hb])) hx' (by simpa using hl);cases hty:P.underlying f.type with
  |none=>simp[hty]at hk
  |some T=>
   cases T<;>simp[hty]at hk;rename_i kk;have hpl:P.plainKey f.type=true:=by simp[Program.plainKey,hty]
   have h1:=run_part_plain (P:=P) w hpl hxo;simp only[List.forIn_cons,Sem.run_bind,hn,ne_eq,not_false_eq_true,Zaw,h1,Result.andThen_ok,Instr.checkKey,run_underlying hty,Sem.run_pure];exact ih
 |_::_,[],_,_,_,hf,_,_,_=>by simp[Zd8]at hf
 |_::_,_::_,_,_,[],_,_,_,hl=>by simp at hl
def Zkf {w:World}{kt:TypeId}{kn:Nat}(h:ZuI P kt kn=true){ks:List Int}(hk:ks.length=klen kn)(b:Bool)(m:Nat):
  (Instr.checkKey b (m+2) kt (keyV kn ks)).run P w=.ok () w:=by
 rcases ZpT h with⟨rfl,kk,hu⟩|⟨h0,fs,ks0,hu,hq,h1,ht,h3⟩
 ·simp[Instr.checkKey,run_underlying hu,keyV]
 have h2:ks.length=ks0.length:=by rw[hk,h1];simp[klen,h0]
 have:=Zqa (w:=w) (m:=m) (b0:=b) fs.toList ks0 0 (ks.map (Value.int .i64)).toArray ks h3 ht (by simp) h2;unfold Instr.checkKey;simp only[Sem.run_bind,run_underlying hu,Result.andThen_ok,keyV,Zau h0];rw[←Array.forIn_toList];simp only[ne_eq,ite_not,bind_pure_comp]at this⊢;rw[this];rfl
def ZyQ {kn:Nat}{a b:List Int}(ha:a.length=klen kn)(hb:b.length=klen kn)(h:keyV kn a=keyV kn b):a=b:=by
 unfold keyV klen at*;split at h
 ·rename_i e;rw[Zav e]at ha hb;obtain⟨x,rfl⟩:=List.length_eq_one_iff.1 ha;obtain⟨y,rfl⟩:=List.length_eq_one_iff.1 hb;simpa using h
 simp only[Value.agg.injEq]at h;have h2:=congrArg Array.toList h;simp only[List.toList_toArray]at h2;refine List.map_inj_right (λx y e=>?_)|>.1 h2;simpa using e
def Zmc:∀(ks:List Int) (n:Nat),((ks.map (Value.int .i64)).zip (ks.map (Value.int .i64))).all (λ(x,y)=>Instr.sameBits n x y)=true
 |[],_=>rfl
 |x::xs,n=>by
  simp only[Z3,List.zip_cons_cons,List.all_cons,Ze];exact⟨by simp[Instr.sameBits],Zmc xs n⟩
def Zs3 (kn:Nat)(ks:List Int)(n:Nat):Instr.sameBits (n+1) (keyV kn ks) (keyV kn ks)=true:=by
 unfold keyV;split
 ·simp[Instr.sameBits]
 have:=Zmc ks n;simp only[Instr.sameBits,beq_self_eq_true,Zk,List.toList_toArray];exact this
def Zs6 {w:World}(kn:Nat)(ks:List Int):(Instr.keyThatStays (keyV kn ks) (keyV kn ks)).run P w=.ok (keyV kn ks) w:=by
 simp[Instr.keyThatStays,Zs3 kn ks 9999]
def Zp4 {c:Cx}:∀{es:Ent} {ents:List MapEntry} {ks:List Int} {i:Nat},es.length=ents.length->fEnt es ents ks i=none->Zla es ks=none/\(∀p∈es,p.1≠ks)/\∀v,mset es ks v=es++[(ks,v)]
 |[],[],ks,i,_,_=>⟨rfl,by simp,λ_=>rfl⟩
 |p::es,e::ents,ks,i,hl,h=>by
  unfold fEnt at h;split at h
  ·cases h
  rename_i h0;obtain⟨h1,h2,h3⟩:=Zp4 (c:=c) (es:=es) (ents:=ents) (by simpa using hl) h;refine⟨?_,?_,λv=>?_⟩
  ·simp only[Zla,ZC,h0,decide_false]at h1⊢;exact h1
  ·intro q hq;rcases List.mem_cons.1 hq with rfl|hq
   ·exact h0
   exact h2 q hq
  simp only[mset,Zau h0,h3 v,Zz]
 |[],_::_,_,_,hl,_=>by simp at hl
 |_::_,[],_,_,hl,_=>by simp at hl
def Zp3 {c:Cx}:∀{es:Ent} {ents:List MapEntry} {ks:List Int} {i j:Nat} {u:Value},VRL c (es.map (·.2)) (ents.map (·.val))->fEnt es ents ks i=some (j,u)→
  ∃x q e,Zla es ks=some x/\VR c x u/\j=i+q/\es[q]?=some (ks,x)/\ents[q]?=some e/\∀v,mset es ks v=es.set q (ks,v)
 |p::es,e::ents,ks,i,j,u,hv,h=>by
  simp only[Z3]at hv;rw[VRL]at hv;obtain⟨u0,us,e1,h7,h0⟩:=hv;simp only[Zy]at e1;obtain⟨rfl,rfl⟩:=e1;unfold fEnt at h;split at h
  ·rename_i hp;simp only[Zan,Zao]at h;obtain⟨rfl,rfl⟩:=h;refine⟨p.2,0,e,?_,h7,rfl,?_,rfl,λv=>?_⟩
   ·simp[Zla,ZC,hp]
   ·simp[←hp]
   simp[mset,hp]
  rename_i hp;obtain⟨x,q,e',h1,h2,h3,h4,h5,h6⟩:=Zp3 (es:=es) (ents:=ents) h0 h;refine⟨x,q+1,e',?_,h2,by omega,by simpa using h4,by simpa using h5,λv=>?_⟩
  ·simp only[Zla,ZC,hp,decide_false]at h1⊢;exact h1
  simp[mset,hp,h6 v]
 |[],_,_,_,_,_,_,h=>by simp[fEnt]at h
 |_::_,[],_,_,_,_,_,h=>by simp[fEnt]at h
def ZyH {kn:Nat}{es:Ent}{ks:List Int}{v:AV}(h:∀p∈es,p.1.length=klen kn)(hk:ks.length=klen kn):∀p∈mset es ks v,p.1.length=klen kn:=by
 induction es with
 |nil=>simpa[mset]using hk
 |cons p r ih=>
  unfold mset;intro q hq;split at hq
  ·rcases List.mem_cons.1 hq with rfl|hq
   ·exact hk
   exact h q (by simp[hq])
  rcases List.mem_cons.1 hq with rfl|hq
  ·exact h _ (by simp)
  exact ih (λp hp=>h p (by simp[hp])) q hq
def ZAB {es:Ent}{ks:List Int}{v:AV}(h:ZaX (es.map (·.2))=true)(hv:ZdX v=true):ZaX ((mset es ks v).map (·.2))=true:=by
 induction es with
 |nil=>simp[mset,ZaX,hv]
 |cons p r ih=>
  simp only[Z3,ZaX,Ze]at h;unfold mset;split
  ·simp only[Z3,ZaX,hv,h.2,Bool.and_self]
  simp only[Z3,ZaX,h.1,ih h.2,Bool.and_self]
def mapL:LC:=⟨[],0,λ_ _=>True,true⟩
end
section
variable {P:Program} {k:K0} {n:Nat} {g:G} {s:St} {a:Act} {w:World}
def Rel.setMp (h:Rel k n g s a w){id l:Nat}{L:LC}{fr:List (Nat×AV)}{st st':LS}{es:Array MapEntry}{m:Nat}{o':Obj}(hH:s.H[id]?=some (.lp L fr st))(hρ:g.ρ[id]?=some l)(hr:w.heap[l]?=some (.map es m))
  (ho:ZbA (cx k g s.H w) (cx k g (s.H.set id (.lp L fr st')) (w.putObj l o'))->HoR (cx k g (s.H.set id (.lp L fr st')) (w.putObj l o')) l (.lp L fr st')):
  Rel k n g ⟨s.fr,s.bx,s.H.set id (.lp L fr st')⟩ a (w.putObj l o'):=by
 have u:Off w (w.putObj l o') l:=.put _ (λvs e f h=>by rw[hr]at h;cases h);have h0:=getElem?_set' (y:=HO.lp L fr st') hH;have h6:l<w.heap.size:=(Array.getElem?_eq_some_iff.1 hr).1;have hl:ZbA (cx k g s.H w) (cx k g (s.H.set id (.lp L fr st')) (w.putObj l o')):=
  {stay:=λa x ho hc=>by
    refine⟨u.cell hc,ho.1,ho.2.1,λj hj=>?_⟩;obtain⟨sz,ver,rows,h1,h2⟩:=ho.2.2 j hj;refine⟨sz,ver,rows,?_,h2⟩;rw[h0,Zau (λe=>by subst e;rw[hH]at h1;cases h1)];exact h1
   arr:=λj sz ver frz rows e=>by
    have e':s.H[j]?=some (.arr sz ver frz rows):=e;refine⟨ver,frz,rows,?_,Nat.le_refl _,λ_=>⟨Nat.le_refl _,rfl,λb vs _ hb=>⟨vs,u.blk hb,rfl⟩⟩⟩;show(s.H.set id _)[j]?=_;rw[h0,Zau (λe1=>by subst e1;rw[hH]at e';cases e')];exact e'
   cells:=λj cs e=>by
    have e':s.H[j]?=some (.cells cs):=e;refine⟨⟨cs,?_⟩,rfl⟩;show(s.H.set id _)[j]?=_;rw[h0,Zau (λe1=>by subst e1;rw[hH]at e';cases e')];exact e'
   lp:=λj L' fr' st1 e=>by
    have e':s.H[j]?=some (.lp L' fr' st1):=e;refine⟨?_,rfl⟩;by_cases hj:id=j
    ·subst hj;rw[hH]at e';cases e';exact⟨st',by show(s.H.set id _)[id]?=_;rw[h0,Zav rfl]⟩
    exact⟨st1,by show(s.H.set id _)[j]?=_;rw[h0,Zau hj];exact e'⟩}
 have h3:∀b,b≠l->∀o,w.heap[b]?=some o->(w.putObj l o').heap[b]?=some o:=λb hb o ho=>(u.block b hb).trans ho
 exact
  {defers:=h.defers.mono λD _ hD=>h3 D (λe=>by subst e;rw[hr]at hD;cases hD) _ hD
   rnd:=λl' h5=>by
    obtain⟨r1,h1⟩:=h.rnd l' h5;exact⟨r1,h3 l' (λe=>by subst e;rw[hr]at h1;cases h1) _ h1⟩
   tsz:=h.tsz
   slots:=λt=>ZbP hl (λ_ _ e=>e) (h.tops t) (h.slots t)
   tops:=h.tops
   boxes:=λt cs e=>let ⟨b,hb,h4⟩:=h.boxes t cs e;⟨b,hb,h4.later hl (h3 b (λe=>by
    subst e;obtain⟨_,vs,⟨et,h4⟩,_⟩:=h4;rw[show w.heap[b]?=_ from h4]at hr;cases hr))⟩
   boxed:=h.boxed
   heap:=λj o e=>by
    simp only[h0]at e;by_cases hj:id=j
    ·subst hj;simp only[Zaw,Zan]at e;subst e;exact⟨l,hρ,ho hl⟩
    simp only[hj,Zat]at e;obtain⟨b,hb,h4⟩:=h.heap j o e;exact⟨b,hb,h4.later hl (h3 b (λe=>hj (h.inj id j l hρ (by rw[←e];exact hb))))⟩
   len:=by simp[h.len]
   inj:=h.inj
   binj:=h.binj
   apart:=h.apart
   own:=h.own
   keep:=h.keep.off u (h.own id l hρ)
   hist:=h.hist.trans hl}
def Zug {q:SpK}{s s':St}{d:Option Nat}{xs:List IX}{v:AV}{H':List HO}(hv:Za7 v=true)
  (h:∀(k:K0) (n:Nat) (g:G) (t:St) (a:Act) (w:World) (o:Oper) (d:Option Nat) (ys:List IX),ys.map (ev t.fr)=xs.map (ev s.fr)->t.H=s.H->Rel k n g t a w->Zl3 P n o d q ys=true->Did P k n ⟨Eng.putO t.fr d v,t.bx,H'⟩ a w o)
  (hs:s'=⟨Eng.putO s.fr d v,s.bx,H'⟩):ZaS P (.sp d q xs) s s':=⟨v,H',⟨hv,h⟩,hs⟩
def ZpI (h:Rel k n g s a w){X:List Operand}{xs:List IX}{ys:List AV}(hm:Zbf X xs=true)(he:xs.map (ev s.fr)=ys):VRL (cx k g s.H w) ys (X.map a.eval):=by
 rw[←he];exact Za5 h hm
def Zx7 {s s':St}{d:Option Nat}(kn:Nat)(hs:s'=⟨Eng.putO s.fr d (.map s.H.length),s.bx,s.H++[.lp mapL [] (.mp kn [])]⟩):ZaS P (.sp d .mkMap []) s s':=by
 refine Zug rfl ?_ hs;intro k n g t a w o d ys _ hH h hc;rw[←hH];simp only[Zl3,Ze,Zas]at hc;obtain⟨⟨hd,h2⟩,hc⟩:=hc;split at hc
 ·rename_i ty h0;have ho:HoR (cx k ⟨g.ρ++[w.heap.size],g.β⟩ (t.H++[.lp mapL [] (.mp kn [])]) (w.alloc (.map #[] 0))) w.heap.size (.lp mapL [] (.mp kn [])):=
   .inr ⟨rfl,rfl,(by simp),#[],0,World.alloc_heap_new w _,stamped_empty 0,rfl,(by simp[VRL])⟩
  obtain⟨h1,hl⟩:=h.newObjG (o:=.lp mapL [] (.mp kn [])) (.map #[] 0) ho;refine⟨.map (some w.heap.size),w.alloc (.map #[] 0),⟨g.ρ++[w.heap.size],g.β⟩,.inl ?_,?_⟩
  ·simp[execOp,h0,Instr.makeMap]
  rw[hd];refine h1.putO h2 ?_ rfl;rw[VR];refine⟨mapL,[],.mp kn [],w.heap.size,?_,rfl,?_,rfl⟩
  ·show(t.H++[_])[t.H.length]?=_;simp
  show(g.ρ++[_])[t.H.length]?=_;rw[←h.len];simp
 cases hc
def mres (ok:Bool)(es:Ent)(ks:List Int)(zero:AV):AV:=if ok then .tup [(Zla es ks).getD zero,.p (.bool (Zla es ks).isSome)]else(Zla es ks).getD zero
def Rel.theMp (h:Rel k n g s a w){id:Nat}{L:LC}{fr:List (Nat×AV)}{kn:Nat}{es:Ent}(hH:s.H[id]?=some (.lp L fr (.mp kn es))){v:Value}(hv:VR (cx k g s.H w) (.map id) v)(hn:L.n=0):
  L.mpk=true/\∃b,g.ρ[id]?=some b/\v=.map (some b)/\MpR (cx k g s.H w) b (.mp kn es):=by
 rw[VR]at hv;obtain⟨L',fr',st',b,h1,h2,h3,h4⟩:=hv;have h6:s.H[id]?=some (.lp L' fr' st'):=h1;rw[hH]at h6;cases h6;obtain⟨b',h0,hq⟩:=h.heap id _ hH;have h5:g.ρ[id]?=some b:=h3;rw[h5]at h0;cases h0;rcases hq with⟨q,_⟩|⟨_,q⟩
 ·rw[h2]at q;cases q
 exact⟨h2,b,h5,by rw[h4,mapV,Zav hn],q⟩
def Zs0 {s s':St}{d:Option Nat}{xs:List IX}{id kn:Nat}{L:LC}{fr:List (Nat×AV)}{es:Ent}{ks:List Int}{ok:Bool}{zero r:AV}(hy:xs.map (ev s.fr)=[.map id,keyA kn ks])
  (hH:s.H[id]?=some (.lp L fr (.mp kn es))) (hk:ks.length=klen kn) (hr:r=mres ok es ks zero) (h7:Za7 r=true) (hs:s'=⟨Eng.putO s.fr d r,s.bx,s.H⟩) (hn:L.n=0:=by rfl):ZaS P (.sp d (.mapGet kn ok zero) xs) s s':=by
 refine Zug h7 ?_ hs;intro k n g t a w o d ys h6 hv h hc;rw[hy]at h6;rw[←hv]at hH⊢;simp only[Zl3,Ze,Zas]at hc;obtain⟨⟨hd,hq⟩,hc⟩:=hc;split at hc
 ·rename_i ty X Y ok' hg;simp only[Ze,Zas]at hc;obtain⟨⟨rfl,h2⟩,hm⟩:=hc;split at h2
  ·rename_i kt et hu;simp only[Ze]at h2;obtain⟨h1,hz⟩:=h2;obtain⟨u1,u2,e,v1,v2⟩:=ZgF (ZpI h hm h6);simp only[Z3,Z4,Zy,Zap]at e;have e2:=Zxi v2;obtain⟨_,b,hb,e1,hx,h4,ents,clock,q1,q2,q3,q4⟩:=h.theMp hH v1 hn;have ha:∃z,(zeroValue et).run P w=.ok z w/\VR (cx k g t.H w) zero z:=by
    split at hz
    ·rename_i i hi;split at hz
     ·rename_i z h9;exact⟨z,by simp[zeroValue,typeInfo,hi,h9],(Zk4 hz).1⟩
     cases hz
    cases hz
   obtain⟨z,h8,h5⟩:=ha;have hh:(getObj b).run P w=.ok (.map ents clock) w:=MapKept.run_getObj_map (w:=w) q1;have ht:=Zkf (w:=w) h1 hk ents.isEmpty 9998;have hj:=Zlh (w:=w) h1 q3 h4 hk;have h3:∀u:Value,u=(match fEnt es ents.toList ks 0 with
     |some (_,v)=>if ok then Value.tuple #[v,.bool true]else v
     |none=>if ok then Value.tuple #[z,.bool false]else z)->(execOp a.eval o).run P w=.ok (.value u) w:=by
    intro u he;simp only[execOp,hg,e.1,e.2,e1,e2,Instr.lookup,Sem.run_bind,run_underlying hu,Result.andThen_ok,hh,ht,hj,Sem.run_pure];subst he;cases hf:fEnt es ents.toList ks 0 with
    |none=>cases ok<;>simp[h8]
    |some p=>cases ok<;>simp
   have h0:es.length=ents.toList.length:=by
    have:=congrArg List.length q3;simpa using this.symm
   refine⟨_,w,g,.inl (h3 _ rfl),?_⟩;rw[hd];refine h.putO hq ?_ (Za1 h7);subst hr;cases hf:fEnt es ents.toList ks 0 with
   |none=>
    obtain⟨m1,_,_⟩:=Zp4 (c:=cx k g t.H w) h0 hf;unfold mres;rw[m1];cases ok
    ·exact h5
    simp only[Zaw];rw[VR];exact⟨[z,.bool false],rfl,by rw[VRL];exact⟨_,_,rfl,h5,by rw[VRL];exact⟨_,_,rfl,ZeL _,by rw[VRL]⟩⟩⟩
   |some p=>
    obtain⟨j,u⟩:=p;obtain⟨x,q,e',m1,m2,_⟩:=Zp3 q4 hf;unfold mres;rw[m1];cases ok
    ·exact m2
    simp only[Zaw];rw[VR];exact⟨[u,.bool true],rfl,by rw[VRL];exact⟨_,_,rfl,m2,by rw[VRL];exact⟨_,_,rfl,ZeL _,by rw[VRL]⟩⟩⟩
  cases h2
 cases hc
def ZxP {c:Cx}:∀{xs:List AV} {us:List Value} (q:Nat) {x:AV} {u:Value},VRL c xs us->VR c x u->VRL c (xs.set q x) (us.set q u)
 |[],us,q,x,u,h,_=>by rw[VRL]at h;subst h;simp[VRL]
 |y::ys,us,q,x,u,h,hx=>by
  rw[VRL]at h;obtain⟨v,vs,rfl,h1,h2⟩:=h;cases q with
  |zero=>rw[List.set_cons_zero,List.set_cons_zero,VRL];exact⟨_,_,rfl,hx,h2⟩
  |succ q=>rw[List.set_cons_succ,List.set_cons_succ,VRL];exact⟨_,_,rfl,h1,ZxP q h2 hx⟩
def Zso {α:Type}(f:α->α)(y:α)(es:Array α)(q:Nat)(hq:∀e,es[q]?=some e->f e=y):(es.modify q f).toList=es.toList.set q y:=by
 apply List.ext_getElem?;intro j;rw[ZP,Array.getElem?_toList,Array.getElem?_modify,Array.getElem?_toList];by_cases e:q=j
 ·subst e;simp only[Zaw];by_cases h0:q<es.size
  ·have:=hq es[q] (Zb h0);simp[h0,this]
  simp[h0]
 simp[e]
def ZsZ {s s':St}{xs:List IX}{id kn:Nat}{L:LC}{fr:List (Nat×AV)}{es:Ent}{ks:List Int}{v:AV}(hy:xs.map (ev s.fr)=[.map id,keyA kn ks,v])
  (hH:s.H[id]?=some (.lp L fr (.mp kn es))) (hk:ks.length=klen kn) (g0:ZdX v=true) (hs:s'=⟨s.fr,s.bx,s.H.set id (.lp L fr (.mp kn (mset es ks v)))⟩) (hn:L.n=0:=by rfl):ZaS P (.sp none (.mapSet kn) xs) s s':=by
 refine Zug (v:=.any) (d:=none) rfl ?_ hs;intro k n g t a w o d ys hh g6 h hc;rw[hy]at hh;rw[←g6]at hH⊢;simp only[Zl3,Ze,Zas]at hc;obtain⟨⟨hd,g5⟩,hc⟩:=hc;have main:∀(ty:TypeId) (X Y Z:Operand),((execOp a.eval o)=(do Instr.mapUpdate ty (a.eval X) (a.eval Y) (a.eval Z);pure .skip))→
   ((match P.underlying ty with|some (.map kt _)=>ZuI P kt kn|_=>false)&&Zbf [X,Y,Z] ys)=true->Did P k n ⟨Eng.putO t.fr d .any,t.bx,t.H.set id (.lp L fr (.mp kn (mset es ks v)))⟩ a w o:=by
  intro ty X Y Z h2 hc;simp only[Ze]at hc;obtain⟨ha,hm⟩:=hc;split at ha
  ·rename_i kt et hu;obtain⟨u1,u2,u3,e,v1,v2,v3⟩:=ZmP (ZpI h hm hh);simp only[Z3,Z4,Zy,Zap]at e;have e2:=Zxi v2;obtain⟨g3,b,hb,e1,hg,h0,ents,clock,q1,q2,q3,q4⟩:=h.theMp hH v1 hn;have q1':w.heap[b]?=some (.map ents clock):=q1;have hq:(getObj b).run P w=.ok (.map ents clock) w:=MapKept.run_getObj_map (w:=w) q1;have hv:=Zkf (w:=w) ha hk false 9998;have ht:=Zlh (w:=w) ha q3 h0 hk;have h6:es.length=ents.toList.length:=by
    have:=congrArg List.length q3;simpa using this.symm
   have g4:b<w.heap.size:=(Array.getElem?_eq_some_iff.1 q1').1;have fin:∀(ents':Array MapEntry) (clock':Nat),(execOp a.eval o).run P w=.ok .skip (w.putObj b (.map ents' clock'))->Stamped ents' clock'->ents'.toList.map (·.key)=(mset es ks v).map (λp=>keyV kn p.1)→
     VRL (cx k g t.H w) ((mset es ks v).map (·.2)) (ents'.toList.map (·.val))->Did P k n ⟨Eng.putO t.fr d .any,t.bx,t.H.set id (.lp L fr (.mp kn (mset es ks v)))⟩ a w o:=by
    intro ents' clock' he hz h7 h3;have h4:=ZAB (ks:=ks) hg g0;have h1:=h.setMp (o':=.map ents' clock') (st':=.mp kn (mset es ks v)) hH hb q1' (λhl=>.inr ⟨g3,h4,ZyH h0 hk,ents',clock',World.putObj_heap_same g4,hz,h7,VRL.later hl _ _ (ZaY h4) h3⟩);refine⟨undef,_,g,.inr ⟨he,rfl⟩,?_⟩;rw[hd];exact h1.putO g5 (by simp[VR]) rfl
   cases hf:fEnt es ents.toList ks 0 with
   |none=>
    obtain⟨_,m2,m3⟩:=Zp4 (c:=cx k g t.H w) h6 hf;refine fin (ents.push {key:=keyV kn ks,val:=u3,born:=clock}) (clock+1) ?_ (stamped_push q2 λx hx e3=>?_) ?_ ?_
    ·rw[h2];simp only[e.1,e.2.1,e.2.2,e1,e2,Instr.mapUpdate,Sem.run_bind,run_underlying hu,Result.andThen_ok,hq,hv,ht,hf,run_setObj_map _ q1',Sem.run_pure];rfl
    ·obtain⟨i,hi,e4⟩:=List.getElem_of_mem hx;have e5:(ents.toList.map (·.key))[i]?=some (keyV kn ks):=by rw[ZN,ZL hi,Zam,e4,e3]
     rw[q3,ZN]at e5;cases e6:es[i]? with
     |none=>rw[e6]at e5;cases e5
     |some p=>
      rw[e6,Zam,Zan]at e5;have hp:=List.mem_of_getElem? e6;exact m2 p hp (ZyQ (h0 p hp) hk e5)
    ·rw[m3];simp[q3]
    rw[m3];simp only[Z2,Z3,Z4,Array.toList_push];exact ZiU q4 (by rw[VRL];exact⟨_,_,rfl,v3,by rw[VRL]⟩)
   |some p=>
    obtain⟨j,u⟩:=p;obtain⟨x,q,e',m1,m2,m3,m4,m5,m6⟩:=Zp3 q4 hf;have hj:j=q:=by omega
    subst hj;have m5':ents[j]?=some e':=by rw[←Array.getElem?_toList];exact m5
    have h8:e'.key=keyV kn ks:=by
     have e5:(ents.toList.map (·.key))[j]?=some e'.key:=by rw[ZN,m5,Zam]
     rw[q3,ZN,m4,Zam,Zan]at e5;exact e5.symm
    have h5:(ents.modify j λe=>{e with key:=keyV kn ks,val:=u3}).toList=ents.toList.set j {e' with key:=keyV kn ks,val:=u3}:=
     Zso _ _ _ _ (λe0 h9=>by rw[m5']at h9;cases h9;rfl)
    refine fin (ents.modify j λe=>{e with key:=keyV kn ks,val:=u3}) clock ?_ (stamped_modify q2 _ _ (λ_ _=>rfl) (λe0 _ h9=>by rw[m5']at h9;cases h9;exact h8.symm)) ?_ ?_
    ·rw[h2];simp only[e.1,e.2.1,e.2.2,e1,e2,Instr.mapUpdate,Sem.run_bind,run_underlying hu,Result.andThen_ok,hq,hv,ht,hf,m5',Zam,Zal,h8,Zs6,run_setObj_map _ q1',Sem.run_pure];rfl
    ·rw[h5,m6,List.map_set,List.map_set,q3]
    rw[h5,m6,List.map_set,List.map_set];exact ZxP j q4 v3
  cases ha
 split at hc
 ·rename_i ty X Y Z h2;exact main ty X Y Z (by simp[execOp,h2]) hc
 ·rename_i ty X Y Z h2;exact main ty X Y Z (by simp[execOp,h2]) hc
 cases hc
end
end Go.Eng

namespace Go.Eng
open Go Go.MapKept
def ZtX:∀(us:List Value) (st:Nat) (cells:Array Value),(∀u∈us,u.oneCell'=true)->st+us.length=cells.size→
  ∃arr,Instr.fill (λi=>some (i*1,1)) cells ((List.range' st us.length).zip us)=some arr/\arr.toList=cells.toList.take st++us
 |[],st,cells,_,hs=>⟨cells,rfl,by simp only[ZY,Zai]at hs;rw[hs,←Zd,Zad,List.append_nil]⟩
 |u::us,st,cells,h1,hs=>by
  have hu:u.cells=#[u]:=by have:=h1 u (by simp);cases u<;>simp_all[Value.cells,Value.oneCell']
  simp only[ZW]at hs;have h0:st<cells.size:=by omega
  obtain⟨arr,a1,a2⟩:=ZtX us (st+1) (cells.setIfInBounds st u) (λv hv=>h1 v (by simp[hv])) (by simp;omega);refine⟨arr,?_,?_⟩
  ·simp only[ZW,Z8,List.zip_cons_cons,Instr.fill,hu,Nat.mul_one];rw[Zau (by simp;omega)];simpa using a1
  rw[a2,Array.toList_setIfInBounds,List.take_set,Zaf (by simpa using h0)];rw[Zab _ _ (by simp;omega)];simp[Nat.min_eq_left (Nat.le_of_lt h0)]
section
variable {P:Program} {k:K0} {n:Nat} {g:G} {s:St} {a:Act} {w:World}
def Zyj (h:Rel k n g s a w){t:TypeId}{len:Nat}{parts:Array (Nat×Operand)}{xs:List IX}(hl:ZuH P t 1 len parts.toList=true)(hm:Zbf (parts.toList.map (·.2)) xs=true)
  (hf:ZaX (xs.map (ev s.fr))=true):
  ∃vs e,(Instr.buildSlice t len (parts.map λ(i,x)=>(i,a.eval x))).run P w=.ok (.slice (some ⟨w.heap.size,0,none⟩) xs.length xs.length) (w.alloc (.cells vs e))/\VRL (cx k g s.H w) (xs.map (ev s.fr)) vs.toList:=by
 simp only[ZuH,Ze,Zas]at hl;obtain⟨⟨h2,h8⟩,h5⟩:=hl;have hv:=Za5 h hm;have h4:parts.toList.length=len:=by
  have:=congrArg List.length h8;simpa using this
 have h6:xs.length=len:=by
  have:=hv.length;simp only[ZX]at this;omega
 split at h2
 ·rename_i e ht;simp only[Ze]at h2;obtain⟨he,h2⟩:=h2;split at h2
  ·rename_i i hi;split at h2
   ·rename_i z hz;simp only[Zas]at h2;have h9:(zeroValue e).run P w=.ok z w:=by simp[zeroValue,typeInfo,hi,hz]
    generalize h7:(parts.toList.map (·.2)).map a.eval=us at hv;have ha:us.length=len:=by rw[←h7];simpa using h4
    generalize h1:(Array.range (len*1)).map ((if len*1=0 then #[]else z.cells)[· %(if len*1=0 then #[]else z.cells).size]!)=cells;have hg:cells.size=len:=by rw[←h1];simp
    obtain⟨arr,a1,a2⟩:=ZtX us 0 cells (Zkw hf hv) (by omega);simp only[List.take_zero,Z7]at a2;refine⟨arr,e,?_,by rw[a2];exact hv⟩;have elist:(parts.map λ(p:Nat×Operand)=>(p.1,a.eval p.2)).toList=(List.range' 0 us.length).zip us:=by
     have e1:List.range' 0 us.length=parts.toList.map (·.1):=by rw[h8,ha,Z9]
     rw[e1,←h7,Array.toList_map,List.map_map,List.zip_map'];rfl
    have h3:=Zdq (P:=P) (w:=w) he;have hn:¬(16777216<len*1):=by omega
    unfold Instr.buildSlice;by_cases h0:len*1=0
    ·simp only[h0,Zaw]at h1;simp only[Sem.run_bind,run_underlying ht,Result.andThen_ok,h3,h0,Zaw,Sem.run_pure,Nat.not_lt_zero,gt_iff_lt,Zat];rw[elist,h1,a1];simp[newRow,h6]
    simp only[h0,Zat]at h1;simp only[Sem.run_bind,run_underlying ht,Result.andThen_ok,h3,h0,Zat,Sem.run_pure,gt_iff_lt,h9,show(2 ^ 24:Nat)=16777216 from rfl,hn];rw[elist,h1,a1];simp[newRow,h6]
   cases h2
  cases h2
 cases h2
def Zyb {s s':St}{d:Option Nat}{xs:List IX}{ys:List AV}(hy:xs.map (ev s.fr)=ys)(h3:ZaX ys=true)(hs:s'=⟨Eng.putO s.fr d (.csl s.H.length ys.length),s.bx,s.H++[.cells ys]⟩):ZaS P (.sp d .litC xs) s s':=by
 refine Zug rfl ?_ hs;intro k n g t a w o d xs' h2 hH h hc;rw[hy]at h2;rw[←hH];simp only[Zl3,Ze,Zas]at hc;obtain⟨⟨hd,h6⟩,hc⟩:=hc;split at hc
 ·rename_i ty len parts h5;simp only[Ze]at hc;obtain⟨vs,e,h0,hv⟩:=Zyj h hc.1 hc.2 (by rw[h2];exact h3);rw[h2]at hv;have h4:xs'.length=ys.length:=by rw[←h2];simp
  rw[h4]at h0;have hl:=h.laterNewG (o:=.cells ys) (.cells vs e);have ho:HoR (cx k ⟨g.ρ++[w.heap.size],g.β⟩ (t.H++[.cells ys]) (w.alloc (.cells vs e))) w.heap.size (.cells ys):=
   ⟨h3,vs,⟨e,World.alloc_heap_new w _⟩,VRL.later hl _ _ (ZaY h3) hv⟩
  obtain⟨h1,_⟩:=h.newObjG (o:=.cells ys) (.cells vs e) ho;refine⟨.slice (some ⟨w.heap.size,0,none⟩) ys.length ys.length,w.alloc (.cells vs e),⟨g.ρ++[w.heap.size],g.β⟩,.inl ?_,?_⟩
  ·simp only[execOp,h5,Sem.run_bind];rw[h0];rfl
  rw[hd];refine h1.putO h6 ?_ rfl;rw[VR];refine⟨ys,w.heap.size,?_,?_,rfl⟩
  ·show(t.H++[_])[t.H.length]?=_;simp
  show(g.ρ++[_])[t.H.length]?=_;rw[←h.len];simp
 cases hc
def ZzL {d:Nat}{xs:List IX}{ys:List AV}{id:Nat}{H H':List HO}(hs:s.H=H)(hy:xs.map (ev s.fr)=ys)(h0:ZaX ys=true)(hid:id=H.length)(hH:H'=H++[.cells ys]):
  ZaS P (.sp (some d) .litC xs) s ⟨put s.fr d (.csl id ys.length),s.bx,H'⟩:=by
 subst hs hid hH;exact Zyb hy h0 rfl
def ZtH {κ υ:Type}[DecidableEq κ](l:List (κ×υ))(x:κ):Option υ:=(l.find? (λp=>decide (p.1=x))).map (·.2)
def Zio {κ υ:Type}[DecidableEq κ](l:List (κ×υ))(x:κ)(z:υ):υ:=(ZtH l x).getD z
def Zeq {κ υ:Type}[DecidableEq κ](l:List (κ×υ))(x:κ)(v:υ):List (κ×υ):=match l with
 |[]=>[(x,v)]
 |p::r=>if p.1=x then(x,v)::r else p::Zeq r x v
def encE {κ υ:Type}(ke:κ->List Int)(ve:υ->AV)(l:List (κ×υ)):Ent:=l.map λp=>(ke p.1,ve p.2)
class KeyE (κ:Type) (kn:Nat) (ke:κ->List Int):Prop where
 len:∀x,(ke x).length=klen kn
 inj:∀x y,ke x=ke y->x=y
def ke1 (x:Int):List Int:=[x]
instance:KeyE Int 0 ke1:=⟨λ_=>rfl,λx y h=>by simpa[ke1]using h⟩
def Zxb {κ υ:Type}[DecidableEq κ]{kn:Nat}{ke:κ->List Int}(hk:KeyE κ kn ke)(ve:υ->AV)(l:List (κ×υ))(x:κ):Zla (encE ke ve l) (ke x)=(ZtH l x).map ve:=by
 induction l with
 |nil=>rfl
 |cons p r ih=>
  by_cases e:p.1=x
  ·simp[Zla,ZtH,encE,e]
  have e2:¬ke p.1=ke x:=λh=>e (hk.inj _ _ h)
  simp only[Zla,ZtH,encE,Z3,ZC,e,e2,decide_false]at ih⊢;exact ih
def ZyI {κ υ:Type}[DecidableEq κ]{kn:Nat}{ke:κ->List Int}(hk:KeyE κ kn ke)(ve:υ->AV)(l:List (κ×υ))(x:κ)(v:υ):mset (encE ke ve l) (ke x) (ve v)=encE ke ve (Zeq l x v):=by
 induction l with
 |nil=>rfl
 |cons p r ih=>
  by_cases e:p.1=x
  ·simp[mset,Zeq,encE,e]
  have e2:¬ke p.1=ke x:=λh=>e (hk.inj _ _ h)
  simp only[encE]at ih;simp only[mset,Zeq,encE,Z3,e,e2,Zat,ih]
abbrev mpT (id kn:Nat) (es:Ent):Za0:=.lp id mapL [] (.mp kn es)
def st_mkMap' {d:Nat}(kn:Nat){id:Nat}{H H':List HO}(hs:s.H=H)(hid:id=H.length)(hH:H'=H++[.lp mapL [] (.mp kn [])]):
  ZaS P (.sp (some d) .mkMap []) s ⟨put s.fr d (.map id),s.bx,H'⟩:=by
 subst hs hid hH;exact Zx7 kn rfl
def ZzJ {κ υ:Type}[DecidableEq κ]{d:Nat}{xs:List IX}{id kn:Nat}{ke:κ->List Int}[hk:KeyE κ kn ke]{ve:υ->AV}{l:List (κ×υ)}{x:κ}{z:υ}{zero:AV}{H:List HO}{r:AV}(hs:s.H=H)(hy:xs.map (ev s.fr)=[.map id,keyA kn (ke x)])
  (hl:Lies H (mpT id kn (encE ke ve l))) (hz:zero=ve z) (hr:r=ve (Zio l x z)) (h0:∀v,Za7 (ve v)=true):
  ZaS P (.sp (some d) (.mapGet kn false zero) xs) s ⟨put s.fr d r,s.bx,s.H⟩:=by
 subst hs;refine Zs0 hy hl (hk.len x) (by rw[mres,Zxb hk];simp only[Zg,Zat];rw[hr,hz,Zio];cases ZtH l x<;>rfl) (by rw[hr];exact h0 _) rfl
def ZzI {κ υ:Type}[DecidableEq κ]{xs:List IX}{id kn:Nat}{ke:κ->List Int}[hk:KeyE κ kn ke]{ve:υ->AV}{l:List (κ×υ)}{x:κ}{v:υ}{y:AV}{H H':List HO}(hs:s.H=H)(hy:xs.map (ev s.fr)=[.map id,keyA kn (ke x),y])
  (hl:Lies H (mpT id kn (encE ke ve l))) (hv:y=ve v) (h0:ZdX y=true) (hH:H'=H.set id (.lp mapL [] (.mp kn (encE ke ve (Zeq l x v))))):
  ZaS P (.sp none (.mapSet kn) xs) s ⟨s.fr,s.bx,H'⟩:=by
 subst hs hH;refine ZsZ hy hl (hk.len x) h0 (by rw[hv,ZyI hk])
end
section
variable {H H0:List HO} {f0 items:List Za0}
def Fp.newMp (hF:Fp H0 H f0 items)(kn:Nat):∃id H',id=H.length/\H'=H++[.lp mapL [] (.mp kn [])]/\Fp H0 H' f0 (mpT id kn []::items):=
 ⟨_,_,rfl,rfl,hF.new (by simp[Lies]) (λid e=>by cases e;rfl)⟩
def ZvX {s s0:St}(t:Nat){ts:List Nat}{a x:AV}{H1:List HO}(ht:t<1000000)(hs:s.H=H)(hb:get s.fr t=a)(hf:frzV H a=some (x,H1))
  (h:Zsa ts ⟨put s.fr t x,s.bx,H1⟩=some s0):Zsa (t::ts) s=some s0:=by
 subst hs hb;simp only[Zsa,Zav ht,hf,Zak,h]
def Fp.setMp (hF:Fp H0 H f0 items){k id kn:Nat}{es:Ent}(hk:items[k]?=some (mpT id kn es))(es':Ent):
  ∃H',H'=H.set id (.lp mapL [] (.mp kn es'))/\Fp H0 H' f0 (items.set k (mpT id kn es')):=by
 have hid:H[id]?=some (.lp mapL [] (.mp kn es)):=hF.get k hk;have h0:=(List.getElem?_eq_some_iff.1 hid).1;refine⟨_,rfl,hF.step hk (by simp[Lies,h0]) (λid' e=>.inl e) (λid' hl ho=>?_) (by simp)⟩;rw[ZQ];intro e;subst e;exact ho rfl
end
def ZyY {a:AV}{sz m:Nat}{H:List HO}{r:AV×List HO}(h:OwnF sz m a)(hv:frzV H a=some r):frz1 H a=some r:=by
 cases h<;>exact hv
def ZMq {P:Program}{n:Nat}{s:St}{fs:List Nat}{a:IC}{Q:Exit->St->Prop}(h:vc P n a (puQ fs Q) s):vc P n (.pu fs a) Q s:=h
def Zsl {α:Type}(sz:Nat)(enc:α->List PC)(l:List α):AV:=match l with
 |[]=>.nl .nilSl
 |_::_=>.p (.sl sz false (l.map enc))
def Zv0 {α:Type}{sz:Nat}{enc:α->List PC}{l:List α}:Zip (Zsl sz enc l)=true:=by cases l<;>rfl
def ZtE {α:Type}{sz:Nat}{enc:α->List PC}{l:List α}(h:l.isEmpty=true):Zsl sz enc l=.nl .nilSl:=by cases l<;>simp_all[Zsl]
def Zsk {α:Type}{sz:Nat}{enc:α->List PC}{l:List α}(h:l.isEmpty=false):Zsl sz enc l=.p (.sl sz false (l.map enc)):=by cases l<;>simp_all[Zsl]
def ZoP {α:Type}{sz:Nat}{enc:α->List PC}{l:List α}{b neg:Bool}(h:l.isEmpty=false):Zbc (.isNil neg) [.p (.sl sz b (l.map enc))]=some (.p (.bool neg)):=by cases l<;>simp_all[Zbc]
def neL {α:Type}(l:List α):Option Unit:=if l.isEmpty then none else some ()
def ZyG {α:Type}{l:List α}{u:Unit}(h:neL l=some u):l.isEmpty=false:=by cases l<;>simp_all[neL]
end Go.Eng

namespace Go.Eng
open Go
def opAt (ops:List IOp)(m:Nat):Ins:=match ops[m]? with
 |some o=>o.i
 |none=>.newH 0 []
def okAt (ops:List IOp)(m:Nat)(s:St):Bool:=match ops[m]? with
 |some o=>bnOK o s.fr&&(match o.g with
  |none=>true
  |some (t,b)=>match get s.fr t with
   |.p (.bool b')=>b==b'
   |_=>false)
 |none=>false
def preB (ops:List IOp)(m:Nat)(s:St):Bool:=(opsF ZeM (ops.take m) s).isSome&&okAt ops m (opsD (ops.take m) s)
section
variable {P:Program} {n:Nat} {s s1 s2:St} {ops:List IOp} {keep:List Nat} {Q:Exit->St->Prop} {K:St->Prop}
def Zbn.o0 (m:Nat)(hs:ZaS P (opAt ops m) (opsD (ops.take m) s) s1)(rest:Zbn P (ops.drop (m+1)) s1 s2)(hm:preB ops m s=true:=by kernel_rfl):Zbn P ops s s2:=by
 simp only[preB,Ze]at hm;obtain⟨h1,h2⟩:=hm;refine Zbn.chunk m h1 ?_;unfold okAt at h2;unfold opAt at hs;cases ho:ops[m]? with
 |none=>rw[ho]at h2;cases h2
 |some o=>
  rw[ho]at h2 hs;simp only[Ze]at h2 hs;have hd:ops.drop m=o::ops.drop (m+1):=by
   obtain⟨h4,e⟩:=List.getElem?_eq_some_iff.1 ho;rw[List.drop_eq_getElem_cons h4,e]
  rw[hd];refine⟨s1,?_,rest⟩;have h0:bnOK o (opsD (ops.take m) s).fr=true:=h2.1;unfold AOp;cases hg:o.g with
  |none=>exact⟨h0,hs⟩
  |some p=>
   obtain⟨t,b⟩:=p;rw[hg]at h2;simp only at h2⊢;have hx:∃b',get (opsD (ops.take m) s).fr t=.p (.bool b')/\(b==b')=true:=by
    have h3:=h2.2;split at h3
    ·rename_i b' hv;exact⟨b',hv,h3⟩
    cases h3
   obtain⟨b',hv,h3⟩:=hx;rw[hv];have:=eq_of_beq h3;subst this;simp only[Zaw];exact⟨h0,hs⟩
def AK (P:Program)(ops:List IOp)(k:Nat)(s s1:St):Prop:=Zbn P (ops.drop k) s s1
def segO (ops:List IOp)(k m:Nat):List IOp:=(ops.drop k).take m
def preK (ops:List IOp)(k m:Nat)(s:St):Bool:=preB (ops.drop k) m s
def Zbn.o {k:Nat}(m:Nat)(hs:ZaS P (opAt ops (k+m)) (opsD (segO ops k m) s) s1)(rest:AK P ops (k+m+1) s1 s2)(hm:preK ops k m s=true:=by kernel_rfl):AK P ops k s s2:=by
 refine Zbn.o0 (s1:=s1) m ?_ ?_ hm
 ·have:opAt (ops.drop k) m=opAt ops (k+m):=by unfold opAt;rw[ZK]
  rw[this];exact hs
 rw[List.drop_drop,←Zag];exact rest
def upd (s:St)(d:Nat)(r:AV):St:=⟨put s.fr d r,s.bx,s.H⟩
def updH (s:St)(d:Nat)(r:AV)(H:List HO):St:=⟨put s.fr d r,s.bx,H⟩
def updO (s:St)(d:Option Nat)(r:AV)(H:List HO):St:=⟨putO s.fr d r,s.bx,H⟩
def Zbn.u {k d:Nat}{r:AV}(m:Nat)(hs:ZaS P (opAt ops (k+m)) (opsD (segO ops k m) s) ⟨put (opsD (segO ops k m) s).fr d r,(opsD (segO ops k m) s).bx,(opsD (segO ops k m) s).H⟩)(rest:AK P ops (k+m+1) (upd (opsD (segO ops k m) s) d r) s2)(hm:preK ops k m s=true:=by kernel_rfl):AK P ops k s s2:=Zbn.o m hs rest hm
def Zbn.h {k d:Nat}{r:AV}{H:List HO}(m:Nat)(hs:ZaS P (opAt ops (k+m)) (opsD (segO ops k m) s) ⟨put (opsD (segO ops k m) s).fr d r,(opsD (segO ops k m) s).bx,H⟩)(rest:AK P ops (k+m+1) (updH (opsD (segO ops k m) s) d r H) s2)(hm:preK ops k m s=true:=by kernel_rfl):AK P ops k s s2:=Zbn.o m hs rest hm
def Zbn.v {k:Nat}{d:Option Nat}{r:AV}{H:List HO}(m:Nat)(hs:ZaS P (opAt ops (k+m)) (opsD (segO ops k m) s) ⟨putO (opsD (segO ops k m) s).fr d r,(opsD (segO ops k m) s).bx,H⟩)(rest:AK P ops (k+m+1) (updO (opsD (segO ops k m) s) d r H) s2)(hm:preK ops k m s=true:=by kernel_rfl):AK P ops k s s2:=Zbn.o m hs rest hm
def Zbn.f {k:Nat}(h:(opsF ZeM (ops.drop k) s).isSome=true:=by kernel_rfl):AK P ops k s (opsD (ops.drop k) s):=ZpJ h
def EP (P:Program)(ops:List IOp)(k:Nat)(s:St)(K:St->Prop):Prop:=∃s1,AK P ops k s s1/\K s1
def EP.o {k:Nat}(m:Nat)(hs:ZaS P (opAt ops (k+m)) (opsD (segO ops k m) s) s1)(rest:EP P ops (k+m+1) s1 K)(hm:preK ops k m s=true:=by kernel_rfl):EP P ops k s K:=
 let ⟨s2,h1,h2⟩:=rest;⟨s2,.o m hs h1 hm,h2⟩
def EP.f {k:Nat}(hk:K (opsD (ops.drop k) s))(h:(opsF ZeM (ops.drop k) s).isSome=true:=by kernel_rfl):EP P ops k s K:=⟨_,Zbn.f h,hk⟩
def Zi6 {d:Nat}{x:IX}{m:Nat}{isA:Bool}(h:ZaS P (.load d x m isA) s s1)(hl:ZqY (ev s.fr x)=false:=by kernel_rfl):ZaS P (.loadH d x m isA) s s1:=by
 simp only[ZaS,Zbb]at h⊢;rw[Zau (by rw[hl];decide)];have:rd s.bx s.H m (ev s.fr x)=rd [] s.H m (ev s.fr x):=by
  cases he:ev s.fr x with
  |loc t o=>rw[he]at hl;simp[ZqY]at hl
  |_=>rfl
 rw[←this];exact h
def ZLh:AV->Bool
 |.ppt .. =>true
 |_=>false
def ZzG {d:Nat}{x:IX}{m:Nat}{isA:Bool}(h:ZaS P (.load d x m isA) s s1)(hl:ZLh (ev s.fr x)=true):ZaS P (.loadI d x m isA) s s1:=by
 simp only[ZaS,Zbb]at h⊢;unfold ZLh at hl;split at hl
 ·rename_i sz rows i off he;simp only[he]at h⊢;exact h
 cases hl
def Zzl:AV->Bool
 |.p (.sl _ true _)=>true
 |_=>false
def ZAU {d:Nat}{x y:IX}{sz bytes:Nat}(h:ZaS P (.app d x y sz bytes) s s1)(hx:Zzl (ev s.fr x)=true):ZaS P (.appN d x y sz bytes) s s1:=by
 simp only[ZaS,Zbb]at h⊢;unfold Zzl at hx;split at hx
 ·rename_i a b he;rw[he]at h;simp only[he];exact h
 cases hx
def rg (h:AK P ops 0 s s1)(hq:Q .normal (Zcj keep s1)):vc P n (.reg ops keep) Q s:=⟨s1,h,hq⟩
def rgS (S:St)(h:AK P ops 0 s s1)(hk:Zcj keep s1=S)(hq:Q .normal S):vc P n (.reg ops keep) Q s:=⟨s1,h,hk▸hq⟩
def rqS (S:St)(h:AK P ops 0 s s1)(hk:Zcj keep s1=S)(hq:Q .normal S)(hs:Zmb s.fr ops=true:=by kernel_rfl):vc P n (.regD ops keep) Q s:=⟨hs,s1,h,hk▸hq⟩
def rgR (R:St->Prop)(h:EP P ops 0 s (λs1=>R (Zcj keep s1)))(hq:∀S,R S->Q .normal S):vc P n (.reg ops keep) Q s:=let ⟨s1,h1,h2⟩:=h;⟨s1,h1,hq _ h2⟩
def sq {a b:IC}(h:vc P n a (Zk9 (vc P n b Q) Q) s):vc P n (.seq a b) Q s:=h
def bk {id:Nat}{a:IC}(h:vc P n a (ZeY id Q) s):vc P n (.block id a) Q s:=h
def kq {ks:List Nat}{a:IC}(h:vc P n a Q (Zcj ks s)):vc P n (.kp ks a) Q s:=h
def sk (h:Q .normal s):vc P n .skip Q s:=h
def rt (h:Q .ret s):vc P n .ret Q s:=h
def xq {id:Nat}(h:Q (.exit id) s):vc P n (.exit id) Q s:=h
def tq {next:St->Prop}(h:next s):Zk9 next Q .normal s:=h
def tr {next:St->Prop}(h:Q .ret s):Zk9 next Q .ret s:=h
def tx {next:St->Prop}{j:Nat}(h:Q (.exit j) s):Zk9 next Q (.exit j) s:=h
def tg {next:St->Prop}{j:Nat}(h:Q (.goto j) s):Zk9 next Q (.goto j) s:=h
def bn {id:Nat}(h:Q .normal s):ZeY id Q .normal s:=h
def br {id:Nat}(h:Q .ret s):ZeY id Q .ret s:=h
def bx {id:Nat}(h:Q .normal s):ZeY id Q (.exit id) s:=by simp only[ZeY,Zaw];exact h
def bo {id j:Nat}(h:Q (.exit j) s)(hj:(j==id)=false:=by kernel_rfl):ZeY id Q (.exit j) s:=by
 have:¬j=id:=by simpa using hj
 simp only[ZeY,Zau this];exact h
def hp0:HP ([]:List HO) []:=trivial
def kr {α:Sort _}{a b:α}(h:a=b:=by kernel_rfl):a=b:=h
def nx {j:Nat}(h:Q (.exit j) s):Zsj Q (.exit j) s:=h
def it {x:IX}{a b:IC}{c:Bool}{α:Type}{A B:Option α}{r:α}(h:(if c=true then A else B)=some r)
  (h1:c=true->A=some r->vc P n a Q (Zlb x s)) (h2:c=false->B=some r->vc P n b Q (Zlb x s)) (hx:ev s.fr x=.p (.bool c):=by kernel_rfl):vc P n (.cond x a b) Q s:=ZAP hx h h1 h2
def bs {α β:Type}{x:Option α}{f:α->Option β}{r:β}(h:x.bind f=some r):∃a,x=some a/\f a=some r:=bind_some h
def rbd {K:List HO->Prop}{k id:Nat}{L:LC}{fr0:List (Nat×AV)}{e:Exit}{b:Bool}{H0 H1:List HO}{f0 items:List Za0}(st:LS)(hF:Fp H0 H1 f0 items)(hk:items[k]?=some (.lp id L fr0 .busy))(he:Zsy e=some (b,st))
  (h:∀H6,Fp H0 H6 f0 (items.set k (.lp id L fr0 st))->K H6) (hs:s.H=H1:=by kernel_rfl):∃H',Ztb id L fr0 b H' e s/\K H':=ZzS st (hs.symm▸hF) hk he h
def Fp.pk {H0 H H':List HO}{f0 items L:List Za0}(h:Fp H0 H f0 items)(ks:List Nat)(hn:ZtC ks=true)(hL:(ks.filterMap λk=>items[k]?)=L:=by kernel_rfl)(hH:H=H':=by kernel_rfl):Fp H0 H' f0 L:=by
 subst hL hH;exact h.pick ks hn
def Fp.at {H0 H H':List HO}{f0 items L:List Za0}(h:Fp H0 H f0 items)(hL:items=L:=by kernel_rfl)(hH:H=H':=by kernel_rfl):Fp H0 H' f0 L:=by
 subst hL hH;exact h
end
end Go.Eng

namespace Go.Eng
open Go
def itL:LC:=⟨[],1,λ_ _=>True,true⟩
section
variable {P:Program}
def Zul (w:World)(ty:TypeId)(r bm since:Nat)(seen:Array Nat)(es:Array MapEntry)(clock:Nat)(hr:w.heap[r]?=some (.mapIter (some bm) since seen clock))(hb:w.heap[bm]?=some (.map es clock))
  (hold:∀x∈es.toList,x.born<since) (h4:since<=clock):
  ((leftOf es seen).size=0/\(Instr.next (.pointer (some ⟨r,0,none⟩)) false ty).run P w=.ok (.tuple #[.bool false]) w)∨
  ∃e∈(leftOf es seen).toList,∃w1:World,(w1=w∨w1=w.drew)/\(Instr.next (.pointer (some ⟨r,0,none⟩)) false ty).run P w=.ok (.tuple #[.bool true,e.key,e.val]) (w1.putObj r (.mapIter (some bm) since (seen.push e.born) clock)):=by
 simp only[Instr.next,getObj,Sem.run_bind,Sem.run,hr,hb,Result.andThen,next_test_false seen es since clock hold h4,Zg,Zat];unfold leftOf;have h1:∀x∈(Array.filter (λe=>!seen.contains e.born) es).toList,x.born<since:=λx hx=>hold x (by simp at hx⊢;exact hx.1)
 generalize Array.filter (λe=>!seen.contains e.born) es=L at h1⊢;have e1:L.filter (λx=>decide (x.born<since))=L:=Array.filter_eq_self.2 (λx hx=>by simpa using h1 x (by simpa using hx));have e2:L.filter (λx=>decide (x.born≥since))=#[]:=by
  rw[Array.filter_eq_empty_iff];intro x hx;have:=h1 x (by simpa using hx);simp;omega
 simp only[e1,e2,Array.append_empty];by_cases h0:L.size=0
 ·left;have:L=#[]:=Array.eq_empty_of_size_eq_zero h0;subst this;refine⟨rfl,?_⟩;simp[choose,Sem.run,Question.forced]
 right;have h6:L.isEmpty=false:=by simp[Array.isEmpty,h0]
 simp only[h6,Zg,Zat,Array.empty_append,Array.size_map];have h7:∃(j:Nat) (w1:World),j<L.size/\(w1=w∨w1=w.drew)/\(choose (Question.mapNext L.size)).run P w=.ok j w1:=by
  by_cases hf:L.size<=1
  ·exact⟨0,w,by omega,.inl rfl,by simp[choose,Sem.run,Question.forced,hf]⟩
  exact⟨_,w.drew,Nat.mod_lt _ (by omega),.inr rfl,by
   simp only[choose,Sem.run,Question.forced,Zas,hf,Zat,Question.cut];rfl⟩
 obtain⟨j,w1,hj,h3,h2⟩:=h7;refine⟨L[j],by simp,w1,h3,?_⟩;have h5:w1.heap[r]?=some (.mapIter (some bm) since seen clock):=by
  rcases h3 with rfl|rfl
  ·exact hr
  exact hr
 simp only[h2,Array.getElem?_map,Zb hj,Zam,Sem.run_bind,setObj,Sem.run,h5,Result.andThen];rfl
def Zs8 (w:World)(r bm since:Nat)(seen:Array Nat)(es:Array MapEntry)(clock:Nat)(e:MapEntry)(hr:w.heap[r]?=some (.mapIter (some bm) since (seen.push e.born) clock))(hb:w.heap[bm]?=some (.map es clock))(he:e∈es.toList)
  (hn:(es.toList.map (·.born)).Nodup):(Instr.entry (.pointer (some ⟨r,0,none⟩))).run P w=.ok (.tuple #[e.key,e.val]) w:=by
 have hf:es.find? (·.born==e.born)=some e:=by rw[←Array.find?_toList];exact find_born e es.toList hn he
 simp only[Instr.entry,getObj,Sem.run_bind,Sem.run,hr,hb,Result.andThen,Array.back?_push,Zaq,Zg,Zat,hf];rfl
def ZfM {w:World}{r:Nat}{o:Obj}(h:w.heap[r]?=some o):w.putObj r o=w:=by
 unfold World.putObj;have:w.heap.setIfInBounds r o=w.heap:=by
  apply Array.ext_getElem?;intro i;rw[Array.getElem?_setIfInBounds];by_cases e:r=i
  ·subst e;rw[Zav rfl,h];have h0:=(Array.getElem?_eq_some_iff.1 h).1;simp[h0]
  rw[Zau e]
 rw[this]
end
section
variable {P:Program} {k:K0} {n:Nat} {g:G} {s:St} {a:Act} {w:World}
def Rel.setOb (h:Rel k n g s a w){id l:Nat}{L:LC}{fr:List (Nat×AV)}{st st':LS}{x o':Obj}(hH:s.H[id]?=some (.lp L fr st))(hρ:g.ρ[id]?=some l)(hr:w.heap[l]?=some x)
  (h5:∀vs e f,x≠.cells vs e f) (h7:∀r,x≠.loop r) (h6:∀d,x≠.deferred d)
  (ho:ZbA (cx k g s.H w) (cx k g (s.H.set id (.lp L fr st')) (w.putObj l o'))->HoR (cx k g (s.H.set id (.lp L fr st')) (w.putObj l o')) l (.lp L fr st')):
  Rel k n g ⟨s.fr,s.bx,s.H.set id (.lp L fr st')⟩ a (w.putObj l o'):=by
 have u:Off w (w.putObj l o') l:=.put _ (λvs e f h=>by rw[hr]at h;exact h5 _ _ _ (Option.some.inj h));have h0:=getElem?_set' (y:=HO.lp L fr st') hH;have h9:l<w.heap.size:=(Array.getElem?_eq_some_iff.1 hr).1;have hl:ZbA (cx k g s.H w) (cx k g (s.H.set id (.lp L fr st')) (w.putObj l o')):=
  {stay:=λa x ho hc=>by
    refine⟨u.cell hc,ho.1,ho.2.1,λj hj=>?_⟩;obtain⟨sz,ver,rows,h1,h2⟩:=ho.2.2 j hj;refine⟨sz,ver,rows,?_,h2⟩;rw[h0,Zau (λe=>by subst e;rw[hH]at h1;cases h1)];exact h1
   arr:=λj sz ver frz rows e=>by
    have e':s.H[j]?=some (.arr sz ver frz rows):=e;refine⟨ver,frz,rows,?_,Nat.le_refl _,λ_=>⟨Nat.le_refl _,rfl,λb vs _ hb=>⟨vs,u.blk hb,rfl⟩⟩⟩;show(s.H.set id _)[j]?=_;rw[h0,Zau (λe1=>by subst e1;rw[hH]at e';cases e')];exact e'
   cells:=λj cs e=>by
    have e':s.H[j]?=some (.cells cs):=e;refine⟨⟨cs,?_⟩,rfl⟩;show(s.H.set id _)[j]?=_;rw[h0,Zau (λe1=>by subst e1;rw[hH]at e';cases e')];exact e'
   lp:=λj L' fr' st1 e=>by
    have e':s.H[j]?=some (.lp L' fr' st1):=e;refine⟨?_,rfl⟩;by_cases hj:id=j
    ·subst hj;rw[hH]at e';cases e';exact⟨st',by show(s.H.set id _)[id]?=_;rw[h0,Zav rfl]⟩
    exact⟨st1,by show(s.H.set id _)[j]?=_;rw[h0,Zau hj];exact e'⟩}
 have h3:∀b,b≠l->∀o,w.heap[b]?=some o->(w.putObj l o').heap[b]?=some o:=λb hb o ho=>(u.block b hb).trans ho
 exact
  {defers:=h.defers.mono λD _ hD=>h3 D (λe=>by subst e;rw[hr]at hD;exact h6 _ (Option.some.inj hD)) _ hD
   rnd:=λl' h8=>by
    obtain⟨r1,h1⟩:=h.rnd l' h8;exact⟨r1,h3 l' (λe=>by subst e;rw[hr]at h1;exact h7 _ (Option.some.inj h1)) _ h1⟩
   tsz:=h.tsz
   slots:=λt=>ZbP hl (λ_ _ e=>e) (h.tops t) (h.slots t)
   tops:=h.tops
   boxes:=λt cs e=>let ⟨b,hb,h4⟩:=h.boxes t cs e;⟨b,hb,h4.later hl (h3 b (λe=>by
    subst e;obtain⟨_,vs,⟨et,h4⟩,_⟩:=h4;rw[show w.heap[b]?=_ from h4]at hr;exact h5 _ _ _ (Option.some.inj hr).symm))⟩
   boxed:=h.boxed
   heap:=λj o e=>by
    simp only[h0]at e;by_cases hj:id=j
    ·subst hj;simp only[Zaw,Zan]at e;subst e;exact⟨l,hρ,ho hl⟩
    simp only[hj,Zat]at e;obtain⟨b,hb,h4⟩:=h.heap j o e;exact⟨b,hb,h4.later hl (h3 b (λe=>hj (h.inj id j l hρ (by rw[←e];exact hb))))⟩
   len:=by simp[h.len]
   inj:=h.inj
   binj:=h.binj
   apart:=h.apart
   own:=h.own
   keep:=h.keep.off u (h.own id l hρ)
   hist:=h.hist.trans hl}
def Rel.theOb (h:Rel k n g s a w){id:Nat}{L:LC}{fr:List (Nat×AV)}{st:LS}(hH:s.H[id]?=some (.lp L fr st)){v:Value}(hv:VR (cx k g s.H w) (.map id) v):
  L.mpk=true/\∃b,g.ρ[id]?=some b/\v=mapV L b/\MpR (cx k g s.H w) b st:=by
 rw[VR]at hv;obtain⟨L',fr',st',b,h1,h2,h3,h4⟩:=hv;have h6:s.H[id]?=some (.lp L' fr' st'):=h1;rw[hH]at h6;cases h6;obtain⟨b',h0,hq⟩:=h.heap id _ hH;have h5:g.ρ[id]?=some b:=h3;rw[h5]at h0;cases h0;rcases hq with⟨q,_⟩|⟨_,q⟩
 ·rw[h2]at q;cases q
 exact⟨h2,b,h5,h4,q⟩
def hIt (H:List HO)(id:Nat)(L:LC)(fr:List (Nat×AV))(kn:Nat)(es:Ent)(bs:List Nat)(clock:Nat)(seen:List Nat):List HO:=
 H.set id (.lp L fr (.mps kn es bs clock))++[.lp itL [] (.it id clock seen clock)]
def hEnd (H:List HO):List HO:=H++[.lp itL [] .itd]
structure ItOK (es:Ent) (bs:List Nat) (clock:Nat):Prop where
 len:bs.length=es.length
 nd:bs.Nodup
 lt:∀x∈bs,x<clock
def Rel.range (h:Rel k n g s a w){o:Oper}{d:Nat}{xs:List IX}(hc:Zl3 P n o (some d) .range xs=true){id kn:Nat}{L:LC}{fr:List (Nat×AV)}{es:Ent}(hx:xs.map (ev s.fr)=[.map id])(hH:s.H[id]?=some (.lp L fr (.mp kn es)))(hn:L.n=0):
  ∃bs clock,ItOK es bs clock/\Did P k n ⟨Eng.put s.fr d (.map s.H.length),s.bx,hIt s.H id L fr kn es bs clock []⟩ a w o:=by
 simp only[Zl3,Ze,Zas]at hc;obtain⟨⟨hd,h9⟩,hc⟩:=hc;split at hc
 ·rename_i t X h7;simp only[Ze]at hc;obtain⟨h6,ha⟩:=hc;have hv:=ZpI h ha hx;simp only[Z3,Z4]at hv;rw[VRL]at hv;obtain⟨v,vs,e,hv,_⟩:=hv;simp only[Zy]at e;obtain⟨e,_⟩:=e;obtain⟨h8,b,hb,ev1,h5,h4,ents,clock,q1,q2,q3,q4⟩:=h.theMp hH hv hn;have q1':w.heap[b]?=some (.map ents clock):=q1;split at h6
  rotate_left
  ·cases h6
  rename_i kt et hu;have h0:(ents.toList.map (·.born)).length=es.length:=by
   have:=congrArg List.length q3;simpa using this
  refine⟨ents.toList.map (·.born),clock,⟨h0,q2.2.1,λx hx=>by
   obtain⟨y,hy,rfl⟩:=List.mem_map.1 hx;exact q2.1 y hy⟩,?_⟩
  have h1:Rel k n g ⟨s.fr,s.bx,s.H.set id (.lp L fr (.mps kn es (ents.toList.map (·.born)) clock))⟩ a w:=by
   have:=h.setOb (o':=.map ents clock) (st':=.mps kn es (ents.toList.map (·.born)) clock) hH hb q1' (by simp) (by simp) (by simp) (λhl=>by
    rw[ZfM q1']at hl⊢;exact .inr ⟨h8,h5,h4,ents,q1',q2,q3,VRL.later hl _ _ (ZaY h5) q4,rfl⟩)
   rwa [ZfM q1']at this
  have hid:id<s.H.length:=(List.getElem?_eq_some_iff.1 hH).1;obtain⟨h2,he⟩:=h1.newObjG (o:=.lp itL [] (.it id clock [] clock)) (.mapIter (some b) clock #[] clock) (by
   refine .inr ⟨rfl,b,L,fr,.mps kn es (ents.toList.map (·.born)) clock,?_,?_,World.alloc_heap_new w _⟩
   ·show(s.H.set id _++[_])[id]?=_;rw[ZG (by simpa using hid),ZR hid]
   show(g.ρ++[_])[id]?=_;rw[ZG (by rw[h.len];exact hid)];exact hb)
  refine⟨.pointer (some ⟨w.heap.size,0,none⟩),w.alloc (.mapIter (some b) clock #[] clock),⟨g.ρ++[w.heap.size],g.β⟩,.inl ?_,?_⟩
  ·have h3:=run_range_map (P:=P) w t kt et b ents clock hu q1';have e0:a.eval X=.map (some b):=by rw[e,ev1]
   simp only[execOp,h7,e0,Sem.run_bind,h3,Result.andThen_ok,Sem.run_pure]
  rw[hd];refine h2.putO (d:=some d) h9 ?_ rfl;rw[VR];refine⟨itL,[],.it id clock [] clock,w.heap.size,?_,rfl,?_,rfl⟩
  ·show(s.H.set id _++[_])[s.H.length]?=_;rw[ZH (by simp)];simp
  show(g.ρ++[_])[s.H.length]?=_;rw[←h.len];simp
 cases hc
def Rel.theMps (h:Rel k n g s a w){id:Nat}{L:LC}{fr:List (Nat×AV)}{kn:Nat}{es:Ent}{bs:List Nat}{clock:Nat}(hH:s.H[id]?=some (.lp L fr (.mps kn es bs clock))):
  L.mpk=true/\∃b,g.ρ[id]?=some b/\MpR (cx k g s.H w) b (.mps kn es bs clock):=by
 obtain⟨b,hb,hq⟩:=h.heap id _ hH;rcases hq with⟨_,q⟩|⟨hm,q⟩
 ·obtain⟨_,r,_,_,_,_,_,q⟩:=q;exact q.elim
 exact⟨hm,b,hb,q⟩
def Rel.next (h:Rel k n g s a w){o:Oper}{d:Nat}{xs:List IX}(hc:Zl3 P n o (some d) .next xs=true){id j kn:Nat}{L:LC}{fr:List (Nat×AV)}{es:Ent}{bs:List Nat}{clock:Nat}{seen:List Nat}
  (hx:xs.map (ev s.fr)=[.map j]) (hH:s.H[id]?=some (.lp L fr (.mps kn es bs clock))) (hJ:s.H[j]?=some (.lp itL [] (.it id clock seen clock))):
  ((∀x∈bs,x∈seen)/\Did P k n ⟨Eng.put s.fr d (.tup [.p (.bool false)]),s.bx,s.H⟩ a w o)∨
  ∃i,∃hi:i<bs.length,bs[i]∉seen/\Did P k n ⟨Eng.put s.fr d (.tup [.p (.bool true),.any,.any]),s.bx,s.H.set j (.lp itL [] (.it id clock (seen++[bs[i]]) clock))⟩ a w o:=by
 simp only[Zl3,Ze,Zas]at hc;obtain⟨⟨hd,h7⟩,hc⟩:=hc;split at hc
 ·rename_i X str h5;simp only[Ze,Zh]at hc;obtain⟨rfl,hj⟩:=hc;have hv:=ZpI h hj hx;simp only[Z3,Z4]at hv;rw[VRL]at hv;obtain⟨v,vs,e,hv,_⟩:=hv;simp only[Zy]at e;obtain⟨e,_⟩:=e;obtain⟨_,b,hb,ev1,bm,L1,fr1,st1,i1,i2,i3⟩:=h.theOb hJ hv;obtain⟨hn,bm',h8,hm,hf,ents,q1,q2,q3,q4,q5⟩:=h.theMps hH;have:bm'=bm:=by have:=(show g.ρ[id]?=_ from i2).symm.trans h8;simpa using this.symm
  subst this;have q1':w.heap[bm']?=some (.map ents clock):=q1;have i3':w.heap[b]?=some (.mapIter (some bm') clock seen.toArray clock):=i3;have e0:a.eval X=.pointer (some ⟨b,0,none⟩):=by rw[e,ev1];rfl
  rcases Zul (P:=P) w o.type b bm' clock seen.toArray ents clock i3' q1' q2.1 (Nat.le_refl _)with⟨h0,h3⟩|⟨en,he,w1,h4,h3⟩
  ·left;refine⟨λx hx=>?_,.tuple #[.bool false],w,g,.inl ?_,?_⟩
   ·rw[←q5]at hx;obtain⟨y,hy,rfl⟩:=List.mem_map.1 hx;by_cases hs:y.born∈seen
    ·exact hs
    have:y∈leftOf ents seen.toArray:=by
     unfold leftOf;rw[Array.mem_filter];refine⟨Array.mem_toList_iff.1 hy,?_⟩;simpa using hs
    have h9:=Array.size_pos_of_mem this;omega
   ·simp only[execOp,h5,e0,Sem.run_bind,h3,Result.andThen_ok,Sem.run_pure]
   rw[hd];refine h.putO (d:=some d) h7 ?_ rfl;rw[VR];exact⟨[.bool false],rfl,by rw[VRL];exact⟨_,_,rfl,by rw[VR,PR],by rw[VRL]⟩⟩
  right;obtain⟨hh,hg⟩:=mem_left he;have hk:en.born∈bs:=by rw[←q5];exact List.mem_map.2 ⟨en,hh,rfl⟩
  obtain⟨i,hi,h6⟩:=List.getElem_of_mem hk;refine⟨i,hi,?_,.tuple #[.bool true,en.key,en.val],w1.putObj b (.mapIter (some bm') clock (seen.toArray.push en.born) clock),g,.inl ?_,?_⟩
  ·rw[h6];simpa using hg
  ·simp only[execOp,h5,e0,Sem.run_bind,h3,Result.andThen_ok,Sem.run_pure]
  have h1:Rel k n g s a w1:=by
   rcases h4 with rfl|rfl
   ·exact h
   exact h.grow (Grow.drew w)
  have i4:w1.heap[b]?=some (.mapIter (some bm') clock seen.toArray clock):=by
   rcases h4 with rfl|rfl
   ·exact i3'
   exact i3'
  have ha:=(Array.getElem?_eq_some_iff.1 i4).1;have hid:id≠j:=λe=>by subst e;rw[hH]at hJ;cases hJ
  have h2:=h1.setOb (o':=.mapIter (some bm') clock (seen.toArray.push en.born) clock) (st':=.it id clock (seen++[bs[i]]) clock) hJ hb i4 (by simp) (by simp) (by simp) (λhl=>by
   refine .inr ⟨rfl,bm',L,fr,.mps kn es bs clock,?_,h8,?_⟩
   ·show(s.H.set j _)[id]?=_;rw[ZQ (Ne.symm hid)];exact hH
   show(w1.putObj b _).heap[b]?=_;rw[World.putObj_heap_same ha,h6];simp)
  rw[hd];refine h2.putO (d:=some d) h7 ?_ rfl;rw[VR];exact⟨[.bool true,en.key,en.val],rfl,by rw[VRL];exact⟨_,_,rfl,by rw[VR,PR],by rw[VRL];exact⟨_,_,rfl,by rw[VR];trivial,by rw[VRL];exact⟨_,_,rfl,by rw[VR];trivial,by rw[VRL]⟩⟩⟩⟩
 cases hc
def Zzp {c:Cx}:∀{xs:List AV} {vs:List Value},VRL c xs vs->∀(i:Nat) x,xs[i]?=some x->∃v,vs[i]?=some v/\VR c x v
 |[],_,_,i,x,h=>by simp at h
 |y::ys,vs,h,i,x,hi=>by
  rw[VRL]at h;obtain⟨v,us,rfl,h1,h2⟩:=h;cases i with
  |zero=>simp only[ZJ,Zan]at hi;subst hi;exact⟨v,rfl,h1⟩
  |succ i=>exact Zzp h2 i x (by simpa using hi)
def Zwd (kn:Nat)(ks:List Int):Za7 (keyA kn ks)=true:=by
 unfold keyA;split
 ·rfl
 simp only[Za7];induction ks with
 |nil=>rfl
 |cons x xs ih=>simpa[Za7.noLocL,Za7]using ih
def ZAC (c:Cx)(kn:Nat)(ks:List Int):VR c (keyA kn ks) (keyV kn ks):=by
 unfold keyA keyV;split
 ·rw[VR,PR]
 rw[VR];exact⟨_,rfl,ZoM ks⟩
def Zyc {d:Nat}{xs:List IX}{id j kn i x:Nat}{L:LC}{fr:List (Nat×AV)}{es:Ent}{bs:List Nat}{clock:Nat}{seen:List Nat}{p:List Int×AV}(hi:es[i]?=some p)(hb:bs[i]?=some x)(hv:ZdX p.2=true)
  (hx:xs.map (ev s.fr)=[.map j]) (hH:s.H[id]?=some (.lp L fr (.mps kn es bs clock))) (hJ:s.H[j]?=some (.lp itL [] (.it id clock (seen++[x]) clock))):
  ZaS P (.sp (some d) .entry xs) s ⟨Eng.put s.fr d (.tup [keyA kn p.1,p.2]),s.bx,s.H⟩:=by
 have h8:Za7 (.tup [keyA kn p.1,p.2])=true:=by
  have h2:Za7 p.2=true:=by
   have:noLocL [p.2]=true:=ZaY (by simp[ZaX,hv]);simpa[Za7.noLocL]using this
  simp[Za7,Za7.noLocL,Zwd,h2]
 refine Zug h8 ?_ rfl;intro k n g t a w o d' ys h7 hg h hc;rw[hx]at h7;rw[←hg]at hH hJ⊢;simp only[Zl3,Ze,Zas]at hc;obtain⟨⟨hd,he⟩,hc⟩:=hc;split at hc
 ·rename_i X h9;have hv:=ZpI h hc h7;simp only[Z3,Z4]at hv;rw[VRL]at hv;obtain⟨v,vs,e,hv,_⟩:=hv;simp only[Zy]at e;obtain⟨e,_⟩:=e;obtain⟨_,b,hk,ev1,bm,L1,fr1,st1,i1,i2,i3⟩:=h.theOb hJ hv;obtain⟨hj,bm',hf,hh,ha,ents,q1,q2,q3,q4,q5⟩:=h.theMps hH;have:bm'=bm:=by have:=(show g.ρ[id]?=_ from i2).symm.trans hf;simpa using this.symm
  subst this;have q1':w.heap[bm']?=some (.map ents clock):=q1;have e0:a.eval X=.pointer (some ⟨b,0,none⟩):=by rw[e,ev1];rfl
  have h3:i<ents.toList.length:=by
   have h1:=(List.getElem?_eq_some_iff.1 hi).1;have:=congrArg List.length q3;simp only[ZX]at this;omega
  have h0:ents.toList[i].born=x:=by
   have:=congrArg (·[i]?) q5;simp only[ZN,ZL h3,Zam]at this;rw[hb]at this;exact Option.some.inj this
  have h6:ents.toList[i].key=keyV kn p.1:=by
   have:=congrArg (·[i]?) q3;simp only[ZN,ZL h3,Zam,hi]at this;exact Option.some.inj this
  have h4:VR (cx k g t.H w) p.2 ents.toList[i].val:=by
   obtain⟨u,hu,hr⟩:=Zzp q4 i p.2 (by rw[ZN,hi];rfl);rw[ZN,ZL h3]at hu;simp only[Zam,Zan]at hu;rw[hu];exact hr
  have i3':w.heap[b]?=some (.mapIter (some bm') clock (seen.toArray.push ents.toList[i].born) clock):=by
   rw[h0];have:(seen.toArray.push x)=(seen++[x]).toArray:=by simp
   rw[this];exact i3
  have h5:=Zs8 (P:=P) w b bm' clock seen.toArray ents clock ents.toList[i] i3' q1' (List.getElem_mem h3) q2.2.1;refine⟨.tuple #[ents.toList[i].key,ents.toList[i].val],w,g,.inl ?_,?_⟩
  ·simp only[execOp,h9,e0,Sem.run_bind,h5,Result.andThen_ok,Sem.run_pure]
  rw[hd];refine h.putO he ?_ (Za1 h8);rw[VR];exact⟨[ents.toList[i].key,ents.toList[i].val],rfl,by rw[VRL];exact⟨_,_,rfl,by rw[h6];exact ZAC _ _ _,by rw[VRL];exact⟨_,_,rfl,h4,by rw[VRL]⟩⟩⟩
 cases hc
end
section
variable {P:Program} {n:Nat}
def EvI.seq2 {x y:IC}{Q:Exit->St->Prop}{s:St}(h:EvI P n x s (Zk9 (λs'=>EvI P n y s' Q) Q)):EvI P n (.seq x y) s Q:=by
 intro c hc k g a w hr;cases c<;>simp only[chkC,Zg,Ze]at hc;rename_i c1 c2;refine wpIn_seq (wpIn_mono (h c1 hc.1 k g a w hr) ?_);rintro e a' w' ⟨s',g',h1,h2⟩;cases e with
 |normal=>exact h2 c2 hc.2 k g' a' w' h1
 |_=>exact⟨s',g',h1,h2⟩
def EvI.block2 {id:Nat}{x:IC}{Q:Exit->St->Prop}{s:St}(h:EvI P n x s (ZeY id Q)):EvI P n (.block id x) s Q:=by
 intro c hc k g a w hr;cases c<;>simp only[chkC,Zg,Ze,Zas]at hc;rename_i id' c1;obtain⟨rfl,hc⟩:=hc;refine wpIn_block (wpIn_mono (h c1 hc k g a w hr) ?_);rintro e a' w' ⟨s',g',h1,h2⟩;cases e with
 |exit j=>
  simp only[ZeY]at h2;simp only[Exit.inBlock];split
  ·rename_i e;rw[Zav e]at h2;exact⟨s',g',h1,h2⟩
  rename_i e;rw[Zau e]at h2;exact⟨s',g',h1,h2⟩
 |_=>exact⟨s',g',h1,h2⟩
def EvI.loop2 {b:IC}{Q:Exit->St->Prop}{α:Type}(R:α->St->Prop)(μ:α->Nat)(round:∀x s,R x s->EvI P n b s (Zk9 (λs'=>∃y,R y s'/\μ y<μ x) Q))(x:α)(s:St)(h:R x s):EvI P n (.loop b) s Q:=by
 intro c hc k g a w hr;cases c<;>simp only[chkC,Zg]at hc;rename_i c1;refine Zl6 (R:=λx a w=>∃s g,R x s/\Rel k n g s a w) μ (λx a w h=>?_) x a w ⟨s,g,h,hr⟩;obtain⟨s,g,hx,hr⟩:=h;refine wpIn_mono (round x s hx c1 hc k g a w hr) ?_;rintro e a' w' ⟨s',g',h1,h2⟩;cases e with
 |normal=>
  obtain⟨y,hy,h0⟩:=h2;exact⟨y,⟨s',g',hy,h1⟩,h0⟩
 |_=>exact⟨s',g',h1,h2⟩
def ZmL {ops:Array Oper}:∀{l:List Oper} {i1 i2:List IOp},ZdE P n ops l (i1++i2)=true->∃l1 l2,l=l1++l2/\ZdE P n ops l1 i1=true/\ZdE P n ops l2 i2=true
 |l,[],i2,h=>⟨[],l,rfl,rfl,h⟩
 |[],x::i1,i2,h=>by simp[ZdE]at h
 |o::l,x::i1,i2,h=>by
  simp only[Zz,ZdE,Ze]at h;obtain⟨l1,l2,rfl,h1,h2⟩:=ZmL h.2;exact⟨o::l1,l2,rfl,by simp only[ZdE,Ze];exact⟨h.1,h1⟩,h2⟩
section
variable {k:K0} {ops:Array Oper} {r:Option Nat} {Q:Exit->Act->World->Prop}
def Zva:∀(os:List Oper) (ios:List IOp) (os2:List Oper) (st:Nat) {g:G} {s s':St} {a:Act} {w:World},(∀j,(os++os2)[j]?=ops[st+j]?)->ZdE P n ops os ios=true->Rel k n g s a w->Zbn P ios s s'→
  (∀g' a' w',Rel k n g' s' a' w'->wpOpsIn (FR r) 0 P ops Q (List.range' (st+os.length) os2.length) a' w')->wpOpsIn (FR r) 0 P ops Q (List.range' st (os++os2).length) a w
 |[],[],os2,st,g,s,s',a,w,_,_,h,hp,hK=>by
  simp only[Zbn]at hp;subst hp;simpa using hK g a w h
 |o::os,io::ios,os2,st,g,s,s',a,w,h5,hc,h,hp,hK=>by
  simp only[Zbn]at hp;obtain⟨s1,h1,h2⟩:=hp;simp only[ZdE,Ze]at hc;have h0:=h5 0;simp only[Zz,ZJ,Zai]at h0;simp only[Zz,ZW,Z8];rw[wpOpsIn_cons];refine Zse h h0.symm hc.1 h1 r (λg' a' w' h3=>?_);refine Zva os ios os2 (st+1) (λj=>by have:=h5 (j+1);simpa[Zag,Nat.add_comm 1 j]using this) hc.2 h3 h2 (λg2 a2 w2 h4=>?_);have:=hK g2 a2 w2 h4
  rwa [ZW,show st+(os.length+1)=st+1+os.length by omega]at this
 |[],_::_,_,_,_,_,_,_,_,_,hc,_,_,_=>by simp[ZdE]at hc
 |_::_,[],_,_,_,_,_,_,_,_,hc,_,_,_=>by simp[ZdE]at hc
def ZMs {g:G}{a:Act}{w:World}{i:Nat}{o:Oper}{io:IOp}(hi:ops[i]?=some o)(hc:Zt2 P n ops o io=true)(hg:io.g=none){R:St->Prop}(hd:∃s',R s'/\Did P k n s' a w o){K:Act->World->Prop}
  (hK:∀s' g' a' w',R s'->Rel k n g' s' a' w'->K a' w'):wpOpIn (FR r) 0 P ops Q i K a w:=by
 simp only[Zt2,Ze]at hc;obtain⟨⟨h0,hc⟩,h2⟩:=hc;obtain⟨s',hR,hd⟩:=hd;unfold wpOpIn;rw[hi];simp only;have h1:o.guard=none:=by
  unfold ZuK at h0;rw[hg]at h0;split at h0
  ·assumption
  ·rename_i e;cases e
  cases h0
 rw[Zav (by simp[Region.wanted,h1])];exact Oper.wpIn_of_wp r (ZpN h2) (hd.wp λg' a' w' h=>hK s' g' a' w' hR h)
end
def EvI.regND {pre post:List IOp}{nd:IOp}{keep:List Nat}{s s0:St}{Q:Exit->St->Prop}(R:St->Prop)(hp:Zbn P pre s s0)(hg:nd.g=none)
  (ha:∀k g a w o,Rel k n g s0 a w->Zb5 P n o nd.i=true->∃s1,R s1/\Did P k n s1 a w o) (h7:∀s1,R s1->∃s2,Zbn P post s1 s2/\Q .normal (Zcj keep s2)):EvI P n (.reg (pre++nd::post) keep) s Q:=by
 intro c hc k g a w hr;cases c<;>simp only[chkC,Zg,Ze,Zh]at hc;rename_i id ops draw;obtain⟨rfl,hc⟩:=hc;obtain⟨l1,l2,he,h1,h2⟩:=ZmL hc;cases l2 with
 |nil=>simp[ZdE]at h2
 |cons o l2=>
  simp only[ZdE,Ze]at h2;refine wpIn_region ?_;have h0:∀j,(l1++o::l2)[j]?=ops[0+j]?:=λj=>by rw[←he];simp
  have h8:(l1++o::l2).length=ops.size:=by rw[←he];simp
  have:=Zva (r:=k.rd) (Q:=λe a' w'=>∃s' g',Rel k n g' s' a' w'/\Q e s') l1 pre (o::l2) 0 h0 h1 hr hp (λg' a' w' h3=>by
   simp only[ZW,Z8,Zaj];rw[wpOpsIn_cons];have hf:Zb5 P n o nd.i=true:=by
    have:=h2.1;simp only[Zt2,Ze]at this;exact this.1.2
   have ho:ops[l1.length]?=some o:=by have:=h0 l1.length;simpa using this.symm
   refine ZMs (g:=g') ho h2.1 hg (R:=R) (ha k g' a' w' o h3 hf) (λs1 g2 a2 w2 hR h4=>?_);obtain⟨s2,h9,hq⟩:=h7 s1 hR;refine ZpH l2 post (l1.length+1) (λj=>?_) h2.2 h4 h9 (λg3 a3 w3 h5=>?_)
   ·have:=h0 (l1.length+1+j);rw[ZH (by omega)]at this;simpa[show l1.length+1+j-l1.length=j+1 by omega]using this
   obtain⟨g4,h6⟩:=h5.keepOnly keep;exact⟨_,g4,h6,hq⟩)
  rw[h8,←Z9]at this;exact this
def Zwq {id:Nat}{G G':Exit->St->Prop}(hf:∀e s,G e s->G' e s):∀e s,ZeY id G e s->ZeY id G' e s:=by
 intro e s h;cases e with
 |exit q=>
  have h:(if q=id then G .normal s else G (.exit q) s):=h;show(if q=id then G' .normal s else G' (.exit q) s);by_cases e:q=id
  ·rw[Zav e]at h⊢;exact hf _ _ h
  rw[Zau e]at h⊢;exact hf _ _ h
 |normal=>exact hf _ _ h
 |ret=>exact hf _ _ h
 |goto l=>exact hf _ _ h
 |panic c=>exact hf _ _ h
 |outgrown=>exact hf _ _ h
def ZtB:∀(z bs:List Nat),z.Nodup->(∀x∈z,x∈bs)->z.length<=bs.length
 |[],_,_,_=>Nat.zero_le _
 |x::z,bs,hn,hs=>by
  have hx:=hs x (by simp);have h0:=List.nodup_cons.1 hn;have:=ZtB z (bs.erase x) h0.2 (λy hy=>(List.mem_erase_of_ne (λe=>by subst e;exact h0.1 hy)).2 (hs y (by simp[hy])));rw[List.length_erase_of_mem hx]at this;have h1:=List.length_pos_of_mem hx;simp only[ZW];omega
def Zre {α:Type}(A:List α)(x y:α):(A++[x]).set A.length y=A++[y]:=by
 rw[Zab _ _ (Nat.le_refl _),Nat.sub_self];rfl
def Rel.itEnd {k:K0}{g:G}{fr0:List (Nat×AV)}{bx:List (Nat×List AV)}{H:List HO}{a:Act}{w:World}{id kn:Nat}{L:LC}{fr:List (Nat×AV)}{es:Ent}{bs:List Nat}{clock:Nat}{seen:List Nat}(hH:H[id]?=some (.lp L fr (.mp kn es)))
  (h:Rel k n g ⟨fr0,bx,hIt H id L fr kn es bs clock seen⟩ a w):Rel k n g ⟨fr0,bx,hEnd H⟩ a w:=by
 have hid:id<H.length:=(List.getElem?_eq_some_iff.1 hH).1;have hm:(hIt H id L fr kn es bs clock seen)[id]?=some (.lp L fr (.mps kn es bs clock)):=by
  unfold hIt;rw[ZG (by simpa using hid),ZR hid]
 obtain⟨h5,b,hb,hq⟩:=h.theMps hm;obtain⟨h4,h3,ents,q1,q2,q3,q4,q5⟩:=hq;have q1':w.heap[b]?=some (.map ents clock):=q1;have h1:=h.setOb (o':=.map ents clock) (st':=.mp kn es) hm hb q1' (by simp) (by simp) (by simp) (λhl=>by
  rw[ZfM q1']at hl⊢;exact .inr ⟨h5,h4,h3,ents,clock,q1',q2,q3,VRL.later hl _ _ (ZaY h4) q4⟩)
 rw[ZfM q1']at h1;have e1:(hIt H id L fr kn es bs clock seen).set id (.lp L fr (.mp kn es))=H++[.lp itL [] (.it id clock seen clock)]:=by
  unfold hIt;rw[List.set_append_left _ _ (by simpa using hid),List.set_set]
  congr 1
  apply List.ext_getElem?;intro j;rw[ZP];by_cases e:id=j
  ·subst e;rw[Zav rfl,Zav hid,hH]
  rw[Zau e]
 simp only[e1]at h1;have hj:(H++[HO.lp itL [] (.it id clock seen clock)])[H.length]?=some (.lp itL [] (.it id clock seen clock)):=by simp
 obtain⟨b2,h6,h0⟩:=h1.heap H.length _ hj;rcases h0 with⟨q,_⟩|⟨_,h0⟩
 ·cases q
 obtain⟨bm,L1,fr1,st1,i1,i2,i3⟩:=h0;have i3':w.heap[b2]?=some (.mapIter (some bm) clock seen.toArray clock):=i3;have h2:=h1.setOb (o':=.mapIter (some bm) clock seen.toArray clock) (st':=.itd) hj h6 i3' (by simp) (by simp) (by simp) (λhl=>by
  rw[ZfM i3'];exact .inr ⟨rfl,_,_,_,_,i3'⟩)
 rw[ZfM i3']at h2;simp only[Zre]at h2;exact h2
def ZyM (pre:List IOp)(d:Nat)(x:IX)(k1:List Nat)(out tn tm:Nat)(k2 k3 k4:List Nat)(nxt:Nat)(rest:IC):IC:=
 .seq (.reg (pre++⟨none,.sp (some d) .range [x],[],none⟩::[]) k1) (.block out (.loop (.seq (.reg ([]++⟨none,.sp (some tn) .next [.t d],[],none⟩::[⟨none,.val tm (.ext 0) [.t tn],[],none⟩]) k2)
  (.seq (.cond (.t tm) .skip (.kp k4 (.exit out))) (.kp k3 (.block nxt rest))))))
def Zh7 (k1:List Nat)(s0:St)(d:Nat):List (Nat×AV):=Znr k1 (put s0.fr d (.map s0.H.length))
def Zj2 (k1:List Nat)(s0:St):List (Nat×List AV):=ZtP k1 s0.bx
def ZwT (k1 k2 k3:List Nat)(s0:St)(d tn tm:Nat)(H:List HO):St:=
 Zcj k3 (Zlb (.t tm) (Zcj k2 ⟨put (put (Zh7 k1 s0 d) tn (.tup [.p (.bool true),.any,.any])) tm (.p (.bool true)),Zj2 k1 s0,H⟩))
def ZwU (k1 k2 k4:List Nat)(s0:St)(d tn tm:Nat)(H:List HO):St:=
 Zcj k4 (Zlb (.t tm) (Zcj k2 ⟨put (put (Zh7 k1 s0 d) tn (.tup [.p (.bool false)])) tm (.p (.bool false)),Zj2 k1 s0,H⟩))
def Zxc {pre:List IOp}{d:Nat}{x:IX}{k1:List Nat}{out tn tm:Nat}{k2 k3 k4:List Nat}{nxt:Nat}{rest:IC}{s s0:St}{id kn:Nat}{L:LC}{fr:List (Nat×AV)}{es:Ent}(bad:Nat->Bool){sF:List (Nat×AV)}{bF:List (Nat×List AV)}
  (hp:Zbn P pre s s0) (hx:ev s0.fr x=.map id) (hH:s0.H[id]?=some (.lp L fr (.mp kn es))) (hn:L.n=0) (hd:get (Zh7 k1 s0 d) d=.map s0.H.length) (ht:k2.elem tm=true) (hu:tn≠tm)
  (h6:∀i (p:List Int×AV),es[i]?=some p->∀(bs:List Nat) (clock:Nat) (seen:List Nat) (y:Nat),bs[i]?=some y->vc P n rest (ZeY nxt λe s'=>if bad i=true then e=.ret/\s'=⟨sF,bF,hIt s0.H id L fr kn es bs clock (seen++[y])⟩else e=.normal/\s'=⟨Zh7 k1 s0 d,Zj2 k1 s0,hIt s0.H id L fr kn es bs clock (seen++[y])⟩)
   (ZwT k1 k2 k3 s0 d tn tm (hIt s0.H id L fr kn es bs clock (seen++[y]))))
  {Q:Exit->St->Prop} (hQ:if(List.range es.length).any bad=true then Q .ret ⟨sF,bF,hEnd s0.H⟩else Q .normal (ZwU k1 k2 k4 s0 d tn tm (hEnd s0.H))):EvX P n (ZyM pre d x k1 out tn tm k2 k3 k4 nxt rest) s Q:=by
 have hid:id<s0.H.length:=(List.getElem?_eq_some_iff.1 hH).1;have main:EvI P n (ZyM pre d x k1 out tn tm k2 k3 k4 nxt rest) s (λe s'=>∃bs clock seen,(if(List.range es.length).any bad=true then e=.ret/\s'=⟨sF,bF,hIt s0.H id L fr kn es bs clock seen⟩else e=.normal/\s'=ZwU k1 k2 k4 s0 d tn tm (hIt s0.H id L fr kn es bs clock seen))):=by
  unfold ZyM;refine EvI.seq2 (EvI.regND (λs1=>∃bs clock,ItOK es bs clock/\s1=⟨put s0.fr d (.map s0.H.length),s0.bx,hIt s0.H id L fr kn es bs clock []⟩) hp rfl (λk g a w o h hc=>?_) ?_)
  ·obtain⟨bs,clock,h1,h2⟩:=h.range (xs:=[x]) (by simpa only[Zb5]using hc) (by rw[Z3,hx];rfl) hH hn;exact⟨_,⟨bs,clock,h1,rfl⟩,h2⟩
  rintro s1 ⟨bs,clock,hit,rfl⟩;refine⟨_,rfl,?_⟩;show EvI P n _ ⟨Zh7 k1 s0 d,Zj2 k1 s0,hIt s0.H id L fr kn es bs clock []⟩ _;refine EvI.block2 (EvI.loop2 (λ(seen:List Nat) s=>s=⟨Zh7 k1 s0 d,Zj2 k1 s0,hIt s0.H id L fr kn es bs clock seen⟩/\seen.Nodup/\(∀y∈seen,y∈bs)/\∀i y:Nat,bs[i]?=some y->y∈seen->bad i=false) (λseen=>bs.length-seen.length) ?_ [] _ ⟨rfl,by simp,by simp,by simp⟩);rintro seen s ⟨rfl,hk,h7,h4⟩;have hm:(hIt s0.H id L fr kn es bs clock seen)[id]?=some (.lp L fr (.mps kn es bs clock)):=by
   unfold hIt;rw[ZG (by simpa using hid),ZR hid]
  have hj:(hIt s0.H id L fr kn es bs clock seen)[s0.H.length]?=some (.lp itL [] (.it id clock seen clock)):=by
   unfold hIt;rw[ZH (by simp)];simp
  have h8:∀y,(hIt s0.H id L fr kn es bs clock seen).set s0.H.length (.lp itL [] (.it id clock (seen++[y]) clock))=hIt s0.H id L fr kn es bs clock (seen++[y]):=λy=>by
   unfold hIt;simp
  refine EvI.seq2 (EvI.regND (λs1=>((∀y∈bs,y∈seen)/\s1=⟨put (Zh7 k1 s0 d) tn (.tup [.p (.bool false)]),Zj2 k1 s0,hIt s0.H id L fr kn es bs clock seen⟩)∨
   ∃i y:Nat,bs[i]?=some y/\y∉seen/\s1=⟨put (Zh7 k1 s0 d) tn (.tup [.p (.bool true),.any,.any]),Zj2 k1 s0,hIt s0.H id L fr kn es bs clock (seen++[y])⟩) (s0:=⟨Zh7 k1 s0 d,Zj2 k1 s0,hIt s0.H id L fr kn es bs clock seen⟩) rfl rfl (λk g a w o h hc=>?_) ?_)
  ·rcases h.next (xs:=[.t d]) (by simpa only[Zb5]using hc) (by rw[Z3];show[get (Zh7 k1 s0 d) d]=_;rw[hd]) hm hj with⟨h1,h2⟩|⟨i,hi,h1,h2⟩
   ·exact⟨_,.inl ⟨h1,rfl⟩,h2⟩
   refine⟨_,.inr ⟨i,bs[i],ZL hi,h1,rfl⟩,?_⟩;have:=h2;simp only[h8]at this;exact this
  have h3:∀(f:List (Nat×AV)) (b:List (Nat×List AV)) (H:List HO) (v:AV),get (Znr k2 (put f tm v)) tm=v:=λf b H v=>by
   rw[ZpY,ht,Zav rfl,ZbF,Zav rfl]
  rintro s1 (⟨he,rfl⟩|⟨i,y,hi,h9,rfl⟩)
  ·refine⟨⟨put (put (Zh7 k1 s0 d) tn (.tup [.p (.bool false)])) tm (.p (.bool false)),Zj2 k1 s0,hIt s0.H id L fr kn es bs clock seen⟩,⟨_,⟨rfl,?_⟩,rfl⟩,?_⟩
   ·simp only[ZaS,Zbb,Z3,Z4,ev,ZbF,Zaw,Zbc];rfl
   show EvI P n _ (Zcj k2 _) _;refine Zbp _ _ _ ?_;refine sq ?_;show(match get (Znr k2 _) tm with|.p (.bool t)=>_|_=>False);rw[h3 _ [] []];simp only[Zg,Zat];refine kq (xq (tx (tx (Eng.bx ?_))));refine⟨bs,clock,seen,?_⟩;rw[Zau]
   ·exact⟨rfl,rfl⟩
   rw[Bool.not_eq_true,Bool.eq_false_iff];intro hc;obtain⟨i,hi,hb⟩:=List.any_eq_true.1 hc;have hf:i<bs.length:=by rw[hit.len];exact List.mem_range.1 hi
   have:=h4 i bs[i] (ZL hf) (he _ (List.getElem_mem hf));rw[this]at hb;cases hb
  refine⟨⟨put (put (Zh7 k1 s0 d) tn (.tup [.p (.bool true),.any,.any])) tm (.p (.bool true)),Zj2 k1 s0,hIt s0.H id L fr kn es bs clock (seen++[y])⟩,⟨_,⟨rfl,?_⟩,rfl⟩,?_⟩
  ·simp only[ZaS,Zbb,Z3,Z4,ev,ZbF,Zaw,Zbc];rfl
  show EvI P n _ (Zcj k2 _) _;have hg:i<es.length:=by
   have:=(List.getElem?_eq_some_iff.1 hi).1;rw[hit.len]at this;exact this
  refine Zbp _ _ _ ?_;refine sq ?_;show(match get (Znr k2 _) tm with|.p (.bool t)=>_|_=>False);rw[h3 _ [] []];simp only[Zaw];show vc P n rest (ZeY nxt _) (ZwT k1 k2 k3 s0 d tn tm (hIt s0.H id L fr kn es bs clock (seen++[y])));refine ZcN rest ?_ (h6 i es[i] (ZL hg) bs clock seen y hi);have fin:∀e s',(if bad i=true then e=.ret/\s'=⟨sF,bF,hIt s0.H id L fr kn es bs clock (seen++[y])⟩else e=.normal/\s'=⟨Zh7 k1 s0 d,Zj2 k1 s0,hIt s0.H id L fr kn es bs clock (seen++[y])⟩)→
    Zk9 (λs'=>∃z:List Nat,(s'=⟨Zh7 k1 s0 d,Zj2 k1 s0,hIt s0.H id L fr kn es bs clock z⟩/\z.Nodup/\(∀y∈z,y∈bs)/\∀i y:Nat,bs[i]?=some y->y∈z->bad i=false)/\bs.length-z.length<bs.length-seen.length)
     (ZeY out λe s'=>∃bs clock seen,(if(List.range es.length).any bad=true then e=.ret/\s'=⟨sF,bF,hIt s0.H id L fr kn es bs clock seen⟩else e=.normal/\s'=ZwU k1 k2 k4 s0 d tn tm (hIt s0.H id L fr kn es bs clock seen))) e s':=by
   intro e s' h;by_cases hb:bad i=true
   ·rw[Zav hb]at h;obtain⟨rfl,rfl⟩:=h;show ∃bs clock seen,_;refine⟨bs,clock,seen++[y],?_⟩;rw[Zav (List.any_eq_true.2 ⟨i,List.mem_range.2 hg,hb⟩)];exact⟨rfl,rfl⟩
   rw[Zau hb]at h;obtain⟨rfl,rfl⟩:=h;have h5:(seen++[y]).Nodup:=by
    rw[List.nodup_append];refine⟨hk,by simp,λa ha b hh=>?_⟩;simp only[Z6]at hh;subst hh;intro e;subst e;exact h9 ha
   have h0:∀z∈seen++[y],z∈bs:=λz hz=>by
    rcases List.mem_append.1 hz with h|h
    ·exact h7 z h
    simp only[Z6]at h;subst h;exact List.mem_of_getElem? hi
   have hq:(seen++[y]).length<=bs.length:=ZtB _ _ h5 h0;refine⟨seen++[y],⟨rfl,h5,h0,λj z hj hz=>?_⟩,?_⟩
   ·rcases List.mem_append.1 hz with h|h
    ·exact h4 j z hj h
    simp only[Z6]at h;subst h;have:i=j:=by
     obtain⟨h1,e1⟩:=List.getElem?_eq_some_iff.1 hi;obtain⟨h2,e2⟩:=List.getElem?_eq_some_iff.1 hj;exact(List.getElem_inj hit.nd).1 (e1.trans e2.symm)
    subst this;simpa using hb
   rw[ZV,Z0]at hq⊢;omega
  exact Zwq fin
 by_cases hb:(List.range es.length).any bad=true
 ·rw[Zav hb]at hQ;refine⟨.ret,_,?_,hQ⟩;intro c hc k g a w hr;refine wpIn_mono (main c hc k g a w hr) ?_;rintro e a' w' ⟨s',g',h1,bs,clock,seen,h2⟩;rw[Zav hb]at h2;obtain⟨rfl,rfl⟩:=h2;exact⟨_,g',Rel.itEnd hH h1,rfl,rfl⟩
 rw[Zau hb]at hQ;refine⟨.normal,_,?_,hQ⟩;intro c hc k g a w hr;refine wpIn_mono (main c hc k g a w hr) ?_;rintro e a' w' ⟨s',g',h1,bs,clock,seen,h2⟩;rw[Zau hb]at h2;obtain⟨rfl,rfl⟩:=h2;exact⟨_,g',Rel.itEnd hH h1,rfl,rfl⟩
end
end Go.Eng

namespace Go.Eng
open Go
section
variable {H0 H H':List HO} {f0 items fix:List Za0} {α:Type}
def HP.snocNil (sz:Nat)(frz:Bool):∀{items:List Za0},HP H items->HP H (items++[.arr (.p (.sl sz true [])) sz frz []])
 |[],_=>(HP.nil H).nilArr sz frz
 |i::is,h=>by
  refine HP.cons (HP.snocNil sz frz h.2.2) h.1 ?_;intro id hi j hj h0;rcases List.mem_append.1 hj with hj|hj
  ·exact h.2.1 id hi j hj h0
  simp only[Z6]at hj;subst hj;obtain⟨_,_,_,_,e⟩:=h0;cases e
def Fp.snocNil (h:Fp H0 H f0 items)(sz:Nat)(frz:Bool):Fp H0 H f0 (items++[.arr (.p (.sl sz true [])) sz frz []]):=
 h.trans
  {size:=Nat.le_refl _
   same:=λ_ _ _=>rfl
   now:=h.now.snocNil sz frz
   occ:=λx hx id h0=>by
    rcases List.mem_append.1 hx with hx|hx
    ·exact .inl ⟨x,hx,h0⟩
    simp only[Z6]at hx;subst hx;obtain⟨_,_,_,_,e⟩:=h0;cases e}
def Fp.push (h:Fp H0 H f0 items)(o:HO):Fp H0 (H++[o]) f0 items:=
 h.trans
  {size:=by simp
   same:=λid h1 _=>ZG h1
   now:=h.now.push o
   occ:=λx hx id h0=>.inl ⟨x,hx,h0⟩}
def zipT (sz:Nat)(enc:α->List PC):List (Int×List α)->List AV->List Za0
 |p::m,a::as=>.arr a sz false (p.2.map enc)::zipT sz enc m as
 |_,_=>[]
def zipE:List (Int×List α)->List AV->Ent
 |p::m,a::as=>([p.1],a)::zipE m as
 |_,_=>[]
def mapT (id sz:Nat)(enc:α->List PC)(m:List (Int×List α))(as:List AV):List Za0:=mpT id 0 (zipE m as)::zipT sz enc m as
def Znm {κ υ:Type}[DecidableEq κ](p:κ×υ)(m:List (κ×υ))(x:κ)(z:υ):Zio (p::m) x z=if p.1=x then p.2 else Zio m x z:=by
 unfold Zio ZtH;rw[ZC];by_cases h:p.1=x
 ·simp[h]
 simp[h]
def Znn (p:List Int×AV)(es:Ent)(x:List Int):Zla (p::es) x=if p.1=x then some p.2 else Zla es x:=by
 unfold Zla;rw[ZC];by_cases h:p.1=x
 ·simp[h]
 simp[h]
def Zu9 {a:AV}{sz:Nat}{frz:Bool}{rows:List (List PC)}(h:Lies H (.arr a sz frz rows)):ZdX a=true/\Za7 a=true:=by
 rcases ZoE h with rfl|⟨id,ver,rfl⟩
 ·exact⟨rfl,rfl⟩
 exact⟨rfl,rfl⟩
def mval (sz:Nat)(m:List (Int×List α))(as:List AV)(x:Int):AV:=(Zla (zipE m as) [x]).getD (.p (.sl sz true []))
def Zrg {sz:Nat}{enc:α->List PC}{x:Int}:∀{m:List (Int×List α)} {as:List AV} {pre:List Za0},Fp H0 H f0 (pre++zipT sz enc m as)->Za7 (mval sz m as x)=true
 |[],as,pre,h=>by cases as<;>rfl
 |p::m,[],pre,h=>rfl
 |p::m,a::as,pre,h=>by
  unfold mval;simp only[zipE,Znn];by_cases e:[p.1]=[x]
  ·rw[Zav e];have:=h.get pre.length (i:=.arr a sz false (p.2.map enc)) (by rw[ZH (Nat.le_refl _)];simp[zipT]);exact(Zu9 this).2
  rw[Zau e];exact Zrg (pre:=pre++[.arr a sz false (p.2.map enc)]) (by simpa[zipT]using h)
def Zvx {sz bytes:Nat}(enc:α->List PC){x:Int}{e:α}{r:List α}:∀{m:List (Int×List α)} {as:List AV} {pre:List Za0},as.length=m.length->Fp H0 H f0 (pre++zipT sz enc m as)->appI bytes (Zio m x []) [e]=some r→
  ∃a1 H1 as',appV H sz bytes (mval sz m as x) [enc e]=some (a1,H1)/\ZdX a1=true/\as'.length=(Zeq m x r).length/\mset (zipE m as) [x] a1=zipE (Zeq m x r) as'/\Fp H0 H1 f0 (pre++zipT sz enc (Zeq m x r) as')
 |[],[],pre,_,h,hr=>by
  have hn:=h.snocNil sz false;simp only[zipT,List.append_nil]at hn;obtain⟨a',H',h1,h2⟩:=Fp.app (k:=pre.length) (a:=.p (.sl sz true [])) (sz:=sz) (frz:=false) (l:=[]) (m:=[e]) enc hn (by rw[ZH (Nat.le_refl _)];simp) hr;rw[Zre]at h2;have hl:=h2.get pre.length (i:=.arr a' sz false (r.map enc)) (by rw[ZH (Nat.le_refl _)];simp);exact⟨a',H',[a'],h1,(Zu9 hl).1,rfl,rfl,h2⟩
 |[],a::as,pre,hl,_,_=>by simp at hl
 |p::m,[],pre,hl,_,_=>by simp at hl
 |p::m,a::as,pre,hl,h,hr=>by
  rw[Znm]at hr;by_cases hx:p.1=x
  ·rw[Zav hx]at hr;obtain⟨a',H',h1,h2⟩:=Fp.app (k:=pre.length) (a:=a) (sz:=sz) (frz:=false) (l:=p.2) (m:=[e]) enc h (by rw[ZH (Nat.le_refl _)];simp[zipT]) hr;have e1:(pre++zipT sz enc (p::m) (a::as)).set pre.length (.arr a' sz false (r.map enc))=pre++zipT sz enc ((x,r)::m) (a'::as):=by
    rw[Zab _ _ (Nat.le_refl _),Nat.sub_self];rfl
   rw[e1]at h2;have h6:=h2.get pre.length (i:=.arr a' sz false (r.map enc)) (by rw[ZH (Nat.le_refl _)];simp[zipT]);refine⟨a',H',a'::as,?_,(Zu9 h6).1,?_,?_,?_⟩
   ·unfold mval;simp only[zipE,Znn];rw[Zav (by rw[hx])];exact h1
   ·simp only[Zeq,hx,Zaw,ZW]at hl⊢;exact hl
   ·simp only[zipE,mset,Zeq,hx,Zaw]
   simp only[Zeq,hx,Zaw];exact h2
  rw[Zau hx]at hr;obtain⟨a1,H1,as',h1,h2,h3,h4,h5⟩:=Zvx enc (m:=m) (as:=as) (pre:=pre++[.arr a sz false (p.2.map enc)]) (by simpa using hl) (by simpa[zipT]using h) hr;have h0:¬[p.1]=[x]:=λe=>hx (by simpa using e)
  refine⟨a1,H1,a::as',?_,h2,?_,?_,?_⟩
  ·unfold mval at h1⊢;simp only[zipE,Znn];rw[Zau h0];exact h1
  ·simp only[Zeq,hx,Zat,ZW,h3]
  ·simp only[zipE,mset,Zeq,hx,h0,Zat,h4]
  simp only[Zeq,hx,Zat];simpa[zipT]using h5
def Fp.mapApp {id sz bytes:Nat}(enc:α->List PC){x:Int}{e:α}{r:List α}{m:List (Int×List α)}{as:List AV}(hF:Fp H0 H f0 (fix++mapT id sz enc m as))(hl:as.length=m.length)(hr:appI bytes (Zio m x []) [e]=some r):
  H[id]?=some (.lp mapL [] (.mp 0 (zipE m as)))/\Za7 (mval sz m as x)=true/\∃a1 H1 as' H2,appV H sz bytes (mval sz m as x) [enc e]=some (a1,H1)/\H1[id]?=some (.lp mapL [] (.mp 0 (zipE m as)))/\ZdX a1=true∧
   as'.length=(Zeq m x r).length/\H2=H1.set id (.lp mapL [] (.mp 0 (mset (zipE m as) [x] a1)))/\Fp H0 H2 f0 (fix++mapT id sz enc (Zeq m x r) as'):=by
 have hid:H[id]?=some (.lp mapL [] (.mp 0 (zipE m as))):=hF.get fix.length (i:=mpT id 0 (zipE m as)) (by rw[ZH (Nat.le_refl _)];simp[mapT]);have h7:Fp H0 H f0 ((fix++[mpT id 0 (zipE m as)])++zipT sz enc m as):=by simpa[mapT]using hF
 obtain⟨a1,H1,as',h1,h2,h3,h4,h5⟩:=Zvx enc hl h7 hr;have h0:H1[id]?=some (.lp mapL [] (.mp 0 (zipE m as))):=h5.get fix.length (i:=mpT id 0 (zipE m as)) (by rw[Zx,ZH (Nat.le_refl _)];simp);obtain⟨H2,e2,h6⟩:=Fp.setMp (k:=fix.length) (id:=id) (kn:=0) (es:=zipE m as) h5 (by rw[Zx,ZH (Nat.le_refl _)];simp) (zipE (Zeq m x r) as');refine⟨hid,Zrg h7,a1,H1,as',H2,h1,h0,h2,h3,by rw[h4];exact e2,?_⟩;have e3:(fix++[mpT id 0 (zipE m as)]++zipT sz enc (Zeq m x r) as').set fix.length (mpT id 0 (zipE (Zeq m x r) as'))=fix++mapT id sz enc (Zeq m x r) as':=by
  rw[Zx,Zab _ _ (Nat.le_refl _),Nat.sub_self];rfl
 rwa [e3]at h6
def Fp.mapNew {sz:Nat}(enc:α->List PC)(hF:Fp H0 H f0 items):∃id H',id=H.length/\H'=H++[.lp mapL [] (.mp 0 [])]/\Fp H0 H' f0 (mapT id sz enc ([]:List (Int×List α)) []++items):=Fp.newMp hF 0
def ZLj {id sz kn:Nat}{enc:α->List PC}{m:List (Int×List α)}{as:List AV}{bs:List Nat}{clock:Nat}{seen:List Nat}{es:Ent}(hF:Fp H0 H f0 (fix++mapT id sz enc m as)):
  HP (hIt H id mapL [] kn es bs clock seen) (fix++zipT sz enc m as):=by
 have hid:H[id]?=some (.lp mapL [] (.mp 0 (zipE m as))):=hF.get fix.length (i:=mpT id 0 (zipE m as)) (by rw[ZH (Nat.le_refl _)];simp[mapT]);have h1:HP H (fix++zipT sz enc m as):=by
  have:=hF.now.drop fix.length
  rwa [List.eraseIdx_append_of_length_le (Nat.le_refl _),Nat.sub_self]at this
 refine h1.same λi hi q ho=>?_
 have h5:=(h1.lies i hi).lt q ho;have h4:q≠id:=by
  intro e;subst e;obtain⟨j,hj,h3⟩:=List.getElem_of_mem hi;have hk:(fix++mapT q sz enc m as)[fix.length]?=some (mpT q 0 (zipE m as)):=by rw[ZH (Nat.le_refl _)];simp[mapT]
  by_cases h0:j<fix.length
  ·have h2:(fix++mapT q sz enc m as)[j]?=some i:=by
    rw[ZG h0,←h3,List.getElem_append_left h0,ZL h0]
   exact hF.now.apart h2 hk (by omega) ho rfl
  have h2:(fix++mapT q sz enc m as)[j+1]?=some i:=by
   rw[ZH (by omega),←h3,List.getElem_append_right (by omega)];simp only[mapT];rw[show j+1-fix.length=(j-fix.length)+1 by omega,ZI,ZL]
  exact hF.now.apart h2 hk (by omega) ho rfl
 unfold hIt;rw[ZG (by simpa using h5),ZQ (Ne.symm h4)]
def Zzf {sz:Nat}{enc:α->List PC}:∀{m:List (Int×List α)} {as:List AV},as.length=m.length->∀(i:Nat) (p:List Int×AV),(zipE m as)[i]?=some p->∃q,m[i]?=some q/\p.1=[q.1]/\(zipT sz enc m as)[i]?=some (.arr p.2 sz false (q.2.map enc))
 |[],[],_,i,p,h=>by simp[zipE]at h
 |[],_::_,hl,_,_,_=>by simp at hl
 |_::_,[],hl,_,_,_=>by simp at hl
 |q::m,a::as,hl,0,p,h=>by
  simp only[zipE,ZJ,Zan]at h;subst h;exact⟨q,rfl,rfl,rfl⟩
 |q::m,a::as,hl,i+1,p,h=>Zzf (m:=m) (as:=as) (by simpa using hl) i p (by simpa[zipE]using h)
def ZuW:∀{m:List (Int×List α)} {as:List AV},as.length=m.length->(zipE m as).length=m.length
 |[],[],_=>rfl
 |[],_::_,hl=>by simp at hl
 |_::_,[],hl=>by simp at hl
 |q::m,a::as,hl=>by simp only[zipE,ZW];rw[ZuW (by simpa using hl)]
def rgF (f:List α->Option Bool):List (Int×List α)->Option Bool
 |[]=>some false
 |p::m=>(f p.2).bind λb=>(rgF f m).bind λc=>some (b||c)
def ZsE (f:List α->Option Bool)(m:List (Int×List α))(i:Nat):Bool:=match m[i]? with
 |some p=>f p.2==some true
 |none=>false
def Zzi {f:List α->Option Bool}:∀{m:List (Int×List α)} {b:Bool},rgF f m=some b->(∀(i:Nat) p,m[i]?=some p->∃c,f p.2=some c)/\(List.range m.length).any (ZsE f m)=b
 |[],b,h=>by simp only[rgF,Zan]at h;subst h;exact⟨by simp,rfl⟩
 |p::m,b,h=>by
  obtain⟨c,h1,h2⟩:=bind_some h;obtain⟨d,h3,h4⟩:=bind_some h2;simp only[Zan]at h4;obtain⟨i1,i2⟩:=Zzi h3;refine⟨λi q hq=>?_,?_⟩
  ·cases i with
   |zero=>simp only[ZJ,Zan]at hq;subst hq;exact⟨c,h1⟩
   |succ i=>exact i1 i q (by simpa using hq)
  rw[ZW,List.range_succ_eq_map,Zv,List.any_map];have e1:ZsE f (p::m) 0=c:=by
   unfold ZsE;simp only[ZJ,h1];cases c<;>rfl
  have e2:(ZsE f (p::m)) ∘ Nat.succ=ZsE f m:=by
   funext i;simp only[Function.comp,ZsE,ZI]
  rw[e1,e2,i2,h4]
end
section
variable {P:Program} {n:Nat} {s s0 s1:St} {H H':List HO} {items:List Za0}
def HP.two (h:HP H items){i j:Nat}{x y:Za0}(hi:items[i]?=some x)(hj:items[j]?=some y)(h1:i≠j):HP H [x,y]:=
 ⟨h.get i hi,λid hx z hz h0=>by
  simp only[Z6]at hz;subst hz;exact h.apart hi hj h1 hx h0,h.get j hj,by simp,trivial⟩
def HP.three (h:HP H items){i j k:Nat}{x y z:Za0}(hi:items[i]?=some x)(hj:items[j]?=some y)(hk:items[k]?=some z)(h3:i≠j)(h2:i≠k)(h1:j≠k):HP H [x,y,z]:=
 ⟨h.get i hi,λid hx w hw h0=>by
  rcases List.mem_cons.1 hw with rfl|hw
  ·exact h.apart hi hj h3 hx h0
  simp only[Z6]at hw;subst hw;exact h.apart hi hk h2 hx h0,h.two hj hk h1⟩
def ZAQ {a:IC}{Q:Exit->St->Prop}(h:EvX P n a s Q):vc P n (.box a) Q s:=h
def ZAR {a:IC}{Q:Exit->St->Prop}(s1:St)(he:s=s1)(h:vc P n a Q s1):vc P n a Q s:=he▸h
def ZzU {ops:List IOp}(h:(opsF ZeM ops s).isSome=true)(he:opsD ops s=s0):Zbn P ops s s0:=he▸ZpJ h
def ZAG {id kn:Nat}{L:LC}{fr:List (Nat×AV)}{es:Ent}{bs:List Nat}{clock:Nat}{seen:List Nat}(hid:id<H.length):(hIt H id L fr kn es bs clock seen)[id]?=some (.lp L fr (.mps kn es bs clock)):=by
 unfold hIt;rw[ZG (by simpa using hid),ZR hid]
def ZLi {id kn:Nat}{L:LC}{fr:List (Nat×AV)}{es:Ent}{bs:List Nat}{clock:Nat}{seen:List Nat}:(hIt H id L fr kn es bs clock seen)[H.length]?=some (.lp itL [] (.it id clock seen clock)):=by
 unfold hIt;rw[ZH (by simp)];simp
def Zx9 {d id:Nat}{xs:List IX}{es:Ent}{x:Int}{zero r:AV}(hs:s.H=H)(hy:xs.map (ev s.fr)=[.map id,keyA 0 [x]])(hH:H[id]?=some (.lp mapL [] (.mp 0 es)))(hr:r=(Zla es [x]).getD zero)(h0:Za7 r=true):
  ZaS P (.sp (some d) (.mapGet 0 false zero) xs) s ⟨put s.fr d r,s.bx,s.H⟩:=by
 subst hs;exact Zs0 (d:=some d) hy hH rfl (by rw[hr];rfl) h0 rfl
def Zx8 {id:Nat}{xs:List IX}{es:Ent}{x:Int}{y:AV}(hs:s.H=H)(hy:xs.map (ev s.fr)=[.map id,keyA 0 [x],y])(hH:H[id]?=some (.lp mapL [] (.mp 0 es)))(h0:ZdX y=true)(h1:H'=H.set id (.lp mapL [] (.mp 0 (mset es [x] y)))):
  ZaS P (.sp none (.mapSet 0) xs) s ⟨s.fr,s.bx,H'⟩:=by
 subst hs;exact ZsZ hy hH rfl h0 (by rw[h1])
def ZwS {d:Nat}{xs:List IX}{id j kn i x:Nat}{L:LC}{fr:List (Nat×AV)}{es:Ent}{bs:List Nat}{clock:Nat}{seen:List Nat}{p:List Int×AV}(hs:s.H=H)(hx:xs.map (ev s.fr)=[.map j])(hi:es[i]?=some p)(hb:bs[i]?=some x)(hv:ZdX p.2=true)
  (hH:H[id]?=some (.lp L fr (.mps kn es bs clock))) (hJ:H[j]?=some (.lp itL [] (.it id clock (seen++[x]) clock))):
  ZaS P (.sp (some d) .entry xs) s ⟨put s.fr d (.tup [keyA kn p.1,p.2]),s.bx,s.H⟩:=by
 subst hs;exact Zyc hi hb hv hx hH hJ
end
end Go.Eng

namespace Go.Eng
open Go
def ZAS {f:IX->AV}{a b:AV}{l:List IX}(h:l.map f=[a,b]):∃x y,l=[x,y]/\f x=a/\f y=b:=by
 cases l with
 |nil=>cases h
 |cons x l=>cases l with
  |nil=>simp at h
  |cons y l=>cases l with
   |nil=>simp only[Z3,Z4,Zy,Zap]at h;exact⟨x,y,rfl,h.1,h.2⟩
   |cons z l=>simp at h
section
variable {P:Program} {s:St}
def ZAV {d:Nat}{x y:IX}{z:PC}{bytes:Nat}{m:Int}{id:Nat}{H H':List HO}(hs:s.H=H)(hx:ev s.fr x=.p (.int .i64 m))(hy:ev s.fr y=.p (.int .i64 m))
  (hb:0<=m/\m*bytes<=140737488355328/\m<=140737488355328) (hid:id=H.length) (hH:H'=H++[.cells (List.replicate m.toNat (.p z))]):
  ZaS P (.sp (some d) (.mkS [z] bytes) [x,y]) s ⟨put s.fr d (.csl id m.toNat),s.bx,H'⟩:=by
 subst hs hid hH;refine Zug rfl ?_ rfl;intro k n g t a w o d ys he hH h hc;rw[←hH];obtain⟨x',y',rfl,hu,hm⟩:=ZAS (f:=ev t.fr) (a:=.p (.int .i64 m)) (b:=.p (.int .i64 m)) (by rw[he,←hx];simp only[Z3,Z4];rw[hx,hy]);simp only[Zl3,Ze,Zas]at hc;obtain⟨⟨hd,gb⟩,hc⟩:=hc;split at hc
 ·rename_i d' x1 y1 e1;simp only[Zy,Zap]at e1;obtain⟨rfl,rfl⟩:=e1;simp only[Ze,Zas]at hc;obtain⟨_,hc⟩:=hc;simp only[chkS,Ze,Zas]at hc;obtain⟨⟨gd,hn⟩,hc⟩:=hc;split at hc
  ·rename_i ty X Y g4;simp only[Ze]at hc;obtain⟨⟨h4,g9⟩,g8⟩:=hc;split at h4
   ·rename_i e ht;simp only[Ze]at h4;obtain⟨⟨hz,hg⟩,h4⟩:=h4;split at h4
    ·rename_i i hi;simp only[Zas]at h4;subst h4;have h5:i.size=1:=by
      unfold ZdA at hg;simpa[hi]using hg
     obtain⟨h0,h2,h3⟩:=hb;have eX:a.eval X=.int .i64 m:=Zc8 (c:=cx k g t.H w) (by rw[←hu];exact Zcs h g9);have eY:a.eval Y=.int .i64 m:=Zc8 (c:=cx k g t.H w) (by rw[←hm];exact Zcs h g8);unfold Zj5 at hz;rw[hi]at hz;simp only at hz;split at hz
     ·rename_i zz ga;have h8:=Zjb (P:=P) (w:=w) ht hi ga h0 (Int.le_refl m) h2 h3;obtain⟨h9,hh⟩:=Zgv (c:=cx k g t.H w) hz;have h6:=h9.length;simp only[Zd,ZX,ZW,ZY]at h6;generalize hf:(Array.range (m.toNat*i.size)).map ((if m.toNat*i.size=0 then #[]else zz.cells)[· %(if m.toNat*i.size=0 then #[]else zz.cells).size]!)=vs at h8;have ha:vs.size=m.toNat:=by rw[←hf];simp[h5]
      have h7:∀q,q<m.toNat->vs[q]?=zz.cells[0]?:=by
       intro q hq;have g7:¬m.toNat*i.size=0:=by rw[h5];omega
       rw[←hf];simp only[g7,Zat];have h1:zz.cells.size=1:=by omega
       have gc:0<zz.cells.size:=by omega
       have g3:q<m.toNat*i.size:=by rw[h5];omega
       simp[g3,h1,Nat.mod_one]
      have hk:VR (cx k g t.H w) (.p z) zz.cells[0]!:=by
       rw[Zew]at h9;have h1:0<zz.cells.size:=by omega
       have:=h9.2 0 (.p z) zz.cells[0]! (by simp) (by simp[h1]);exact this
      have hl:=h.laterNewG (o:=.cells (List.replicate m.toNat (.p z))) (.cells vs e);have g0:VRL (cx k g t.H w) (List.replicate m.toNat (.p z)) vs.toList:=by
       rw[Zew];refine⟨by simp[ha],λj x v hx hv=>?_⟩;rw[ZO]at hx;split at hx
       ·rename_i hj;cases hx;have:vs.toList[j]?=zz.cells[0]?:=by rw[←h7 j hj];simp
        rw[this]at hv;have h1:0<zz.cells.size:=by omega
        have e2:zz.cells[0]! =v:=by
         rw[Zb h1]at hv;cases hv;simp[h1]
        rw[←e2];exact hk
       cases hx
      have g6:∀q:Nat,noLocL (List.replicate q (AV.p z))=true:=by
       intro q;induction q with
       |zero=>rfl
       |succ q ih=>simp only[List.replicate_succ,noLocL,Za7.noLocL,Ze];exact⟨rfl,ih⟩
      have g5:∀q:Nat,ZaX (List.replicate q (AV.p z))=true:=by
       intro q;induction q with
       |zero=>rfl
       |succ q ih=>simp only[List.replicate_succ,ZaX,Ze];exact⟨rfl,ih⟩
      have ho:HoR (cx k ⟨g.ρ++[w.heap.size],g.β⟩ (t.H++[.cells (List.replicate m.toNat (.p z))]) (w.alloc (.cells vs e))) w.heap.size (.cells (List.replicate m.toNat (.p z))):=
       ⟨g5 _,vs,⟨e,World.alloc_heap_new w _⟩,VRL.later hl _ _ (g6 _) g0⟩
      obtain⟨h1,_⟩:=h.newObjG (o:=.cells (List.replicate m.toNat (.p z))) (.cells vs e) ho;refine⟨_,_,⟨g.ρ++[w.heap.size],g.β⟩,.inl (by simp only[execOp,g4,eX,eY,Sem.run_bind];rw[h8];rfl),?_⟩;rw[hd];refine h1.putO gb ?_ rfl;rw[VR];refine⟨List.replicate m.toNat (.p z),w.heap.size,?_,?_,rfl⟩
      ·show(t.H++[_])[t.H.length]?=_;simp
      show(g.ρ++[_])[t.H.length]?=_;rw[←h.len];simp
     cases hz
    cases h4
   cases h4
  cases hc
 cases hc
end
section
variable {H0 H H':List HO} {f0 items:List Za0} {α:Type} {k id n sz:Nat} {as:List AV} {frz:Bool}
def Zsx (enc:α->List PC){l:List (List α)}{i:Int}{e:List α}(h:idx l i=some e):(l.map (List.map enc))[i.toNat]?=some (e.map enc)/\i.toNat<l.length/\0<=i:=by
 unfold idx at h;split at h
 ·rename_i h0;have h1:=(List.getElem?_eq_some_iff.1 h).1;exact⟨by rw[ZN,h];rfl,h1,h0⟩
 cases h
def Fp.famGet {l:List (List α)}{i:Int}{e:List α}(enc:α->List PC)(hF:Fp H0 H f0 items)(hk:items[k]?=some (.fam id n as sz frz (l.map (List.map enc))))(h:idx l i=some e):
  ∃a,Lies H (.cel id as)/\(∀kk:IntKind,Zbc (.iaddrS 1) [.csl id n,.p (.int kk i)]=some (.ptr id i.toNat))/\sub i.toNat 1 as=some [a]/\OwnF sz e.length a/\Lies H (.arr a sz frz (e.map enc)):=by
 obtain⟨h1,h2,h3,h4,h5⟩:=hF.get k hk;obtain⟨r1,r2,r3⟩:=Zsx enc h;rw[ZX]at h3;have h0:i.toNat<as.length:=by omega
 have hl:Lies H (.arr as[i.toNat] sz frz (e.map enc)):=h4 i.toNat _ _ (ZL h0) r1;refine⟨as[i.toNat],h1,λkk=>?_,?_,?_,hl⟩
 ·simp only[Zbc];rw[Zav ⟨trivial,r3,by omega⟩]
 ·unfold sub;rw[Zav (by omega),List.drop_eq_getElem_cons h0];rfl
 have:=Zc7 hl
 rwa [ZX]at this
def famLen {l:List (List α)}{enc:α->List PC}(hF:Fp H0 H f0 items)(hk:items[k]?=some (.fam id n as sz frz (l.map (List.map enc)))):l.length=n:=by
 obtain⟨h1,h2,h3,h4,h5⟩:=hF.get k hk
 rwa [ZX]at h3
def ZwN {as:List AV}{i:Nat}{a:AV}(h:sub i 1 as=some [a]):as[i]?=some a:=by
 unfold sub at h;split at h
 ·rename_i hl;have h0:i<as.length:=by omega
  rw[List.drop_eq_getElem_cons h0]at h;simp only[List.take_succ_cons,List.take_zero,Zan,Zy,Zap]at h;rw[←h,ZL h0]
 cases h
def HP.replaceX:∀{items:List Za0} {k:Nat} {i i':Za0},HP H items->items[k]?=some i->Lies H' i'->(∀id,Occ i' id->Occ i id∨∀(m:Nat) x,m≠k->items[m]?=some x->¬Occ x id)→
  (∀id,id<H.length->¬Occ i id->H'[id]?=H[id]?)->HP H' (items.set k i')
 |[],k,i,i',h,hk,_,_,_=>by simp at hk
 |j::is,0,i,i',h,hk,hl,ho,hs=>by
  simp only[ZJ,Zan]at hk;subst hk;refine⟨hl,λid hid x hx h0=>?_,HP.same h.2.2 λx hx id h0=>hs id ((HP.lies h.2.2 x hx).lt id h0) λhj=>h.2.1 id hj x hx h0⟩;rcases ho id hid with h1|h1
  ·exact h.2.1 id h1 x hx h0
  obtain⟨m,hm⟩:=List.getElem?_of_mem hx;exact h1 (m+1) x (by omega) (by simpa using hm) h0
 |j::is,k+1,i,i',h,hk,hl,ho,hs=>by
  simp only[ZI]at hk;have hi:i∈is:=List.mem_of_getElem? hk;refine⟨h.1.same λid hid=>hs id (h.1.lt id hid) λh2=>h.2.1 id hid i hi h2,λid hid x hx h0=>?_,HP.replaceX h.2.2 hk hl (λid hid=>?_) hs⟩
  ·rcases List.mem_or_eq_of_mem_set hx with h1|rfl
   ·exact h.2.1 id hid x h1 h0
   rcases ho id h0 with h1|h1
   ·exact h.2.1 id hid i hi h1
   exact h1 0 j (by omega) rfl hid
  rcases ho id hid with h1|h1
  ·exact .inl h1
  exact .inr λm x hm hx=>h1 (m+1) x (by omega) (by simpa using hx)
def Fp.famRow {l:List (List α)}{i j:Int}{r:List α}{e e':α}{a:AV}{off:Nat}{ps:List PC}{cs:List AV}(enc:α->List PC)(hF:Fp H0 H f0 items)(hk:items[k]?=some (.fam id n as sz false (l.map (List.map enc))))
  (h:idx l i=some r) (ha:sub i.toNat 1 as=some [a]) (h2:idx r j=some e) (hu:unP cs=some ps) (hs:Zb3 off ps (enc e)=some (enc e')):
  ∃q ver H',a=.osl sz q ver 0 r.length/\(∀kk:IntKind,Zbc (.iaddrS sz) [a,.p (.int kk j)]=some (.optr sz q ver (0+j.toNat) 0))/\(∀bx,wrt bx H cs (.optr sz q ver (0+j.toNat) off)=some ⟨bx,H'⟩)∧
   Fp H0 H' f0 (items.set k (.fam id n as sz false ((l.set i.toNat (r.set j.toNat e')).map (List.map enc)))):=by
 obtain⟨g1,g2,g3,g4,g5⟩:=hF.get k hk;obtain⟨r1,r2,r3⟩:=Zsx enc h;have h3:=ZwN ha;have h1:=(Zl1 enc h2).1;have h4:=(Zl1 enc h2).2;rcases g4 i.toNat a _ h3 r1 with⟨_,hl⟩|⟨q,ver,rfl,f,hf,hid⟩
 ·have:r=[]:=by cases r with
   |nil=>rfl
   |cons x xs=>simp at hl
  subst this;simp at h1;omega
 have h7:=hf rfl;subst h7;have h6:=(List.getElem?_eq_some_iff.1 hid).1;refine⟨q,ver,H.set q (.arr sz ver false ((r.map enc).set j.toNat (enc e'))),by simp,λkk=>?_,λbx=>?_,?_⟩
 ·simp only[Zbc,ZX];rw[Zav ⟨trivial,h1.1,by have:=h1.2;rwa [ZX]at this⟩]
 ·simp only[wrt,hid,Zaj,and_self,Zaw,h4,Zak,hu,hs,Zam]
 have h5:id≠q:=by
  intro e1;subst e1;rw[g1]at hid;cases hid
 refine hF.step hk ⟨by rw[ZQ (Ne.symm h5)];exact g1,g2,by simpa using g3,λm b s hb h0=>?_,g5⟩ (λid' ho=>.inl ho) (λid' h8 ho=>?_) (by simp)
 ·rw[List.map_set,ZP]at h0;by_cases hm:i.toNat=m
  ·subst hm;rw[Zav rfl]at h0;split at h0
   ·cases h0;rw[h3]at hb;cases hb;exact .inr ⟨q,ver,by simp,false,λ_=>rfl,by rw[List.map_set];simp[h6]⟩
   cases h0
  rw[Zau hm]at h0;rcases g4 m b s hb h0 with h|⟨q',ver',rfl,f,hf,h⟩
  ·exact .inl h
  refine .inr ⟨q',ver',rfl,f,hf,?_⟩;rw[ZQ]
  ·exact h
  intro e1;subst e1;exact hm (g5 _ _ _ _ _ _ _ _ _ _ _ h3 hb)
 rw[ZQ];intro e1;subst e1;exact ho (.inr ⟨sz,ver,0,_,List.mem_of_getElem? h3⟩)
def Fp.famSet {j:Nat}{l:List (List α)}{i:Int}{e r:List α}{b:AV}(enc:α->List PC)(hF:Fp H0 H f0 items)(hk:items[k]?=some (.fam id n as sz false (l.map (List.map enc))))(hj:items[j]?=some (.arr b sz false (r.map enc)))(he:k≠j)
  (h:idx l i=some e):∃as' H',(∀kk:IntKind,Zbc (.iaddrS 1) [.csl id n,.p (.int kk i)]=some (.ptr id i.toNat))/\(∀bx,wrt bx H [b] (.ptr id i.toNat)=some ⟨bx,H'⟩)∧
   Fp H0 H' f0 ((items.set j (.arr (.p (.sl sz true [])) sz false [])).set k (.fam id n as' sz false ((l.set i.toNat r).map (List.map enc)))):=by
 obtain⟨g1,g2,g3,g4,g5⟩:=hF.get k hk;obtain⟨r1,r2,r3⟩:=Zsx enc h;have g3':=g3;rw[ZX]at g3';have h8:i.toNat<as.length:=by omega
 have h7:=(List.getElem?_eq_some_iff.1 g1).1;have hb:=hF.get j hj;have hn:Zb3 i.toNat [b] as=some (as.set i.toNat b):=by
  unfold Zb3;rw[Zav (by simp;omega),List.set_eq_take_append_cons_drop,Zav h8];simp
 refine⟨as.set i.toNat b,H.set id (.cells (as.set i.toNat b)),λkk=>?_,λbx=>?_,?_⟩
 ·simp only[Zbc];rw[Zav ⟨trivial,r3,by omega⟩]
 ·simp only[wrt,g1,hn,Zam]
 have h1:Fp H0 H f0 (items.set j (.arr (.p (.sl sz true [])) sz false [])):=hF.step hj (.inl ⟨rfl,rfl⟩) (λid ⟨_,_,_,_,e⟩=>by cases e) (λ_ _ _=>rfl) (Nat.le_refl _);have hu:(items.set j (.arr (.p (.sl sz true [])) sz false []))[k]?=some (.fam id n as sz false (l.map (List.map enc))):=by rw[ZQ (Ne.symm he)];exact hk
 have h3:∀q,(∃s1 v1 o1 l1,b=.osl s1 q v1 o1 l1)->∀(m:Nat) x,m≠j->items[m]?=some x->¬Occ x q:=λq hq m x hm hx ho=>hF.now.apart hj hx (Ne.symm hm) hq ho
 have hv:∀q s1 v1 o1 l1,b=.osl s1 q v1 o1 l1->q≠id:=λq s1 v1 o1 l1 e1 e2=>h3 q ⟨s1,v1,o1,l1,e1⟩ k _ he hk (.inl e2.symm)
 have hh:∀q s1 v1 o1 l1,b=.osl s1 q v1 o1 l1->∀s2 v2 o2 l2,.osl s2 q v2 o2 l2∉as:=λq s1 v1 o1 l1 e1 s2 v2 o2 l2 hm=>h3 q ⟨s1,v1,o1,l1,e1⟩ k _ he hk (.inr ⟨s2,v2,o2,l2,hm⟩)
 have h6:Lies (H.set id (.cells (as.set i.toNat b))) (.fam id n (as.set i.toNat b) sz false ((l.set i.toNat r).map (List.map enc))):=by
  refine⟨by simp[h7],by simpa using g2,by simpa using g3',λm a s ha h4=>?_,λm1 m2 q s1 v1 o1 l1 s2 v2 o2 l2 e1 e2=>?_⟩
  ·rw[ZP]at ha;rw[List.map_set,ZP]at h4;by_cases hm:i.toNat=m
   ·subst hm;rw[Zav rfl]at ha h4;rw[Zav h8]at ha;rw[Zav (by rw[ZX];exact r2)]at h4;cases ha;cases h4;rcases hb with h|⟨q,ver,rfl,f,hf,h⟩
    ·exact .inl h
    refine .inr ⟨q,ver,rfl,f,hf,?_⟩;rw[ZQ (Ne.symm (hv q _ _ _ _ rfl))];exact h
   rw[Zau hm]at ha h4;rcases g4 m a s ha h4 with h|⟨q,ver,rfl,f,hf,h⟩
   ·exact .inl h
   refine .inr ⟨q,ver,rfl,f,hf,?_⟩;rw[ZQ]
   ·exact h
   intro e1;subst e1;rw[g1]at h;cases h
  rw[ZP]at e1 e2;by_cases h1:i.toNat=m1<;>by_cases h2:i.toNat=m2
  ·omega
  ·subst h1;rw[Zav rfl,Zav h8]at e1;rw[Zau h2]at e2;cases e1;exact absurd (List.mem_of_getElem? e2) (hh q _ _ _ _ rfl _ _ _ _)
  ·subst h2;rw[Zav rfl,Zav h8]at e2;rw[Zau h1]at e1;cases e2;exact absurd (List.mem_of_getElem? e1) (hh q _ _ _ _ rfl _ _ _ _)
  rw[Zau h1]at e1;rw[Zau h2]at e2;exact g5 _ _ _ _ _ _ _ _ _ _ _ e1 e2
 have h5:∀q,Occ (.fam id n (as.set i.toNat b) sz false ((l.set i.toNat r).map (List.map enc))) q->Occ (.fam id n as sz false (l.map (List.map enc))) q∨Occ (.arr b sz false (r.map enc)) q:=by
  rintro q (rfl|⟨s1,v1,o1,l1,hm⟩)
  ·exact .inl (.inl rfl)
  rcases List.mem_or_eq_of_mem_set hm with hm|e1
  ·exact .inl (.inr ⟨s1,v1,o1,l1,hm⟩)
  exact .inr ⟨s1,v1,o1,l1,e1.symm⟩
 have h0:∀q,q<H.length->¬Occ (.fam id n as sz false (l.map (List.map enc))) q->(H.set id (.cells (as.set i.toNat b)))[q]?=H[q]?:=λq _ ho=>by
  rw[ZQ];intro e1;subst e1;exact ho (.inl rfl)
 refine hF.trans
  {size:=by simp
   same:=λq hq ht=>h0 q hq (ht _ (List.mem_of_getElem? hk))
   now:=h1.now.replaceX hu h6 (λq hq=>?_) h0
   occ:=λx hx q h9=>?_}
 ·rcases h5 q hq with h|h
  ·exact .inl h
  refine .inr λm x hm hx ho=>?_
  by_cases hg:j=m
  ·subst hg;rw[ZP]at hx;rw[Zav rfl]at hx;split at hx
   ·cases hx;obtain⟨_,_,_,_,e1⟩:=ho;cases e1
   cases hx
  rw[ZQ hg]at hx;exact h3 q h m x (λe1=>hg e1.symm) hx ho
 rcases List.mem_or_eq_of_mem_set hx with hx|rfl
 ·rcases List.mem_or_eq_of_mem_set hx with hx|rfl
  ·exact .inl ⟨x,hx,h9⟩
  obtain⟨_,_,_,_,e1⟩:=h9;cases e1
 rcases h5 q h9 with h|h
 ·exact .inl ⟨_,List.mem_of_getElem? hk,h⟩
 exact .inl ⟨_,List.mem_of_getElem? hj,h⟩
def famI {α:Type}(bytes:Nat)(m:Int):Option (List (List α)):=if 0<=m/\m*bytes<=140737488355328/\m<=140737488355328 then some (List.replicate m.toNat [])else none
def Fp.famNew {m:Int}{bytes:Nat}{l:List (List α)}(enc:α->List PC)(sz:Nat)(hF:Fp H0 H f0 items)(h:famI bytes m=some l):
  ∃id n as H',id=H.length/\n=m.toNat/\H'=H++[.cells (List.replicate m.toNat (.p (.sl sz true [])))]/\(0<=m/\m*bytes<=140737488355328/\m<=140737488355328)/\l.length=n/\Fp H0 H' f0 (.fam id n as sz false (l.map (List.map enc))::items):=by
 unfold famI at h;split at h
 ·rename_i hb;cases h;refine⟨_,_,List.replicate m.toNat (.p (.sl sz true [])),_,rfl,rfl,rfl,hb,by simp,hF.new ⟨by simp,by simp,by simp,λi a r ha hr=>?_,λi j q s1 v1 o1 l1 s2 v2 o2 l2 e1 e2=>?_⟩ (λq ho=>?_)⟩
  ·rw[ZO]at ha;rw[List.map_replicate,ZO]at hr;by_cases h0:i<m.toNat
   ·rw[Zav h0]at ha hr;cases ha;cases hr;exact .inl ⟨rfl,rfl⟩
   rw[Zau h0]at ha;cases ha
  ·rw[ZO]at e1;split at e1<;>cases e1
  rcases ho with rfl|⟨s1,v1,o1,l1,hm⟩
  ·rfl
  cases (List.mem_replicate.1 hm).2
 cases h
def Fp.famFrz {l:List (List α)}{i:Int}{r:List α}{a:AV}(enc:α->List PC)(hF:Fp H0 H f0 items)(hk:items[k]?=some (.fam id n as sz frz (l.map (List.map enc))))(h:idx l i=some r)(ha:sub i.toNat 1 as=some [a]):
  ∃H',frz1 H a=some (.p (.sl sz false (r.map enc)),H')/\frzV H a=some (.p (.sl sz false (r.map enc)),H')/\Fp H0 H' f0 (items.set k (.fam id n as sz true (l.map (List.map enc)))):=by
 obtain⟨g1,g2,g3,g4,g5⟩:=hF.get k hk;obtain⟨r1,r2,r3⟩:=Zsx enc h;have h0:=ZwN ha;have up:∀(i:Nat) a r,as[i]?=some a->(l.map (List.map enc))[i]?=some r->(a=.p (.sl sz true [])/\r=[])∨∃id ver,a=.osl sz id ver 0 r.length/\∃f,(true=false->f=false)/\H[id]?=some (.arr sz ver f r):=λi a r x y=>by
  rcases g4 i a r x y with h|⟨q,ver,e,f,_,h⟩
  ·exact .inl h
  exact .inr ⟨q,ver,e,f,by simp,h⟩
 rcases g4 i.toNat a _ h0 r1 with⟨rfl,hl⟩|⟨q,ver,rfl,f,hf,hid⟩
 ·refine⟨H,by rw[hl];rfl,by rw[hl];rfl,hF.step hk ⟨g1,g2,g3,up,g5⟩ (λ_ ho=>.inl ho) (λ_ _ _=>rfl) (Nat.le_refl _)⟩
 have h3:=(List.getElem?_eq_some_iff.1 hid).1;have e1:frz1 H (.osl sz q ver 0 (r.map enc).length)=some (.p (.sl sz false (r.map enc)),H.set q (.arr sz ver true (r.map enc))):=by
  simp only[frz1,hid,and_self,Zaw,sub,Zaj,Nat.le_refl,ZB,Zad,Zam]
 have h2:id≠q:=by
  intro e2;subst e2;rw[g1]at hid;cases hid
 refine⟨H.set q (.arr sz ver true (r.map enc)),e1,e1,hF.step hk ⟨by rw[ZQ (Ne.symm h2)];exact g1,g2,g3,λm b s hb h1=>?_,g5⟩ (λ_ ho=>.inl ho) (λq' _ ho=>?_) (by simp)⟩
 ·rcases up m b s hb h1 with h|⟨q',ver',rfl,f',h4,h⟩
  ·exact .inl h
  by_cases hq:q'=q
  ·subst hq;have hm:=g5 _ _ _ _ _ _ _ _ _ _ _ h0 hb;subst hm;rw[r1]at h1;cases h1;rw[hid]at h;cases h;rw[h0]at hb;exact .inr ⟨q',ver,rfl,true,by simp,by simp[h3]⟩
  refine .inr ⟨q',ver',rfl,f',h4,?_⟩;rw[ZQ (Ne.symm hq)];exact h
 rw[ZQ];intro e2;subst e2;exact ho (.inr ⟨sz,ver,0,_,List.mem_of_getElem? h0⟩)
def Fp.famUp (hF:Fp H0 H f0 items){rows:List (List (List PC))}(hk:items[k]?=some (.fam id n as sz frz rows)):Fp H0 H f0 (items.set k (.fam id n as sz true rows)):=by
 obtain⟨g1,g2,g3,g4,g5⟩:=hF.get k hk;refine hF.step hk ⟨g1,g2,g3,λi a r x y=>?_,g5⟩ (λ_ ho=>.inl ho) (λ_ _ _=>rfl) (Nat.le_refl _);rcases g4 i a r x y with h|⟨q,ver,e,f,_,h⟩
 ·exact .inl h
 exact .inr ⟨q,ver,e,f,by simp,h⟩
def Lies.elem {r:List α}{j:Int}{e:α}{a:AV}(enc:α->List PC)(hl:Lies H (.arr a sz frz (r.map enc)))(h:idx r j=some e):
  ∃id ver f,(frz=false->f=false)/\H[id]?=some (.arr sz ver f (r.map enc))/\a=.osl sz id ver 0 r.length/\∀kk:IntKind,Zbc (.iaddrS sz) [a,.p (.int kk j)]=some (.optr sz id ver (0+j.toNat) 0):=
 HP.elem (items:=[.arr a sz frz (r.map enc)]) (k:=0) enc ⟨hl,λ_ _ _ hj=>by simp at hj,trivial⟩ rfl h
def Fp.famRowAt {l:List (List α)}{i j:Int}{r:List α}{e e':α}{a:AV}{q ver off:Nat}{ps:List PC}{cs:List AV}(enc:α->List PC)(hF:Fp H0 H f0 items)(hk:items[k]?=some (.fam id n as sz false (l.map (List.map enc))))
  (h:idx l i=some r) (ha:sub i.toNat 1 as=some [a]) (hq:a=.osl sz q ver 0 r.length) (h2:idx r j=some e) (hu:unP cs=some ps) (hs:Zb3 off ps (enc e)=some (enc e')):
  ∃H',(∀bx,wrt bx H cs (.optr sz q ver (0+j.toNat) off)=some ⟨bx,H'⟩)/\Fp H0 H' f0 (items.set k (.fam id n as sz false ((l.set i.toNat (r.set j.toNat e')).map (List.map enc)))):=by
 obtain⟨q',ver',H',a1,a2,a3,a4⟩:=hF.famRow enc hk h ha h2 hu hs;rw[hq]at a1;cases a1;exact⟨H',a3,a4⟩
def HP.famLen {l:List (List α)}{enc:α->List PC}(hF:HP H items)(hk:items[k]?=some (.fam id n as sz frz (l.map (List.map enc)))):Zbc .len [.csl id n]=some (.p (.int .i64 (l.length:Nat))):=by
 rw[Eng.famLen (Fp.refl hF) hk];rfl
def Fp.famLen {l:List (List α)}{enc:α->List PC}(hF:Fp H0 H f0 items)(hk:items[k]?=some (.fam id n as sz frz (l.map (List.map enc)))):Zbc .len [.csl id n]=some (.p (.int .i64 (l.length:Nat))):=hF.now.famLen hk
end
end Go.Eng

namespace Go.Eng
open Go
section
variable {P:Program} {k:K0} {n:Nat} {g:G} {s:St} {a:Act} {w:World}
end
def pur {fs:List Nat}{Q:Exit->St->Prop}{s:St}(h:Q .ret s):puQ fs Q .ret s:=h
section
variable {H0 H:List HO} {f0 items:List Za0} {α:Type} {k sz:Nat} {a:AV}
end
end Go.Eng

namespace Go.Eng
open Go
section
variable {P:Program} {k:K0} {n:Nat} {g:G} {s:St} {a:Act} {w:World}
def ZzK {d sz:Nat}{xs:List IX}{ys:List AV}{rows:List (List PC)}{H H':List HO}{v:AV}(hs:s.H=H)(hy:xs.map (ev s.fr)=ys)(hr:Zgz unF sz ys=some rows)(hH:H'=H++[.arr sz 0 false rows])(hv:v=.osl sz H.length 0 0 rows.length):
  ZaS P (.sp (some d) (.litO sz) xs) s ⟨put s.fr d v,s.bx,H'⟩:=by
 subst hs hy hH hv;refine Zug rfl ?_ rfl;intro k n g t a w o d' ys he hH h hc;simp only[Zl3,Ze,Zas]at hc;obtain⟨⟨hd,h0⟩,hc⟩:=hc;split at hc
 ·rename_i d2;have:=Zrj h (un:=unF) (λ_ _=>ZwM) hc (rows:=rows) (by rw[he];exact hr);rw[hH]at this;exact this
 cases hc
def Zoz {d:Nat}{x:IX}{m:Nat}{isA:Bool}{cs:List AV}{r p:AV}{H:List HO}(hs:s.H=H)(hx:ev s.fr x=p)(hl:∀bx,rd bx H m p=some cs)(h0:ZaX cs=true)(hm:mk isA cs=some r):
  ZaS P (.load d x m isA) s ⟨put s.fr d r,s.bx,s.H⟩:=by
 subst hs;simp only[ZaS,Zbb,hx,hl,Zak,h0,Zaw,hm,Zam]
end
section
variable {H0 H H':List HO} {f0 items:List Za0} {k sz:Nat} {a:AV} {u:Bool} {cs:List PC} {rows:List (Int×List (List PC))}
end
end Go.Eng

namespace Go.Eng
open Go
def Zzm (n:Nat)(v:AV):List AV:=if n=1 then[v]else cellsOf v
def ZLk (cells:List AV):List (Nat×Nat)->List AV->List AV
 |(off,n)::ps,v::vs=>ZLk ((Zb3 off (Zzm n v) cells).getD cells) ps vs
 |_,_=>cells
def vexU (v:VI)(xs:List AV):AV:=match v with
 |.build zero parts=>.agg (ZLk zero parts xs)
 |.mkfn f n=>.fn f (xs.take n) (xs.drop n)
 |v=>(Zbc v xs).getD .any
def Zzg (d:Nat)(s:St):List (Nat×AV):=match bget s.bx d with
 |none=>s.fr
 |some _=>Zgl d s.fr
def mkU (a:Bool)(cs:List AV):AV:=if a then .agg cs else cs.headD .any
def insU (i:Ins)(s:St):St:=match i with
 |.val d v xs=>⟨put s.fr d (vexU v (xs.map (ev s.fr))),s.bx,s.H⟩
 |.load d x n a|.loadL d x n a=>⟨put s.fr d (mkU a ((rd s.bx s.H n (ev s.fr x)).getD [])),s.bx,s.H⟩
 |.store x y n=>(match ev s.fr x with
  |.loc t off=>⟨s.fr,bput s.bx t ((Zb3 off (Zzm n (ev s.fr y)) ((bget s.bx t).getD [])).getD []),s.H⟩
  |_=>s)
 |.newL d zero=>⟨put (Zzg d s) d (.loc d 0),bput s.bx d zero,s.H⟩
 |.boxL d x=>⟨put (Zzg d s) d (.loc d 0),bput s.bx d (cellsOf (ev s.fr x)),s.H⟩
 |i=>(Zbb i s).getD s
def opU (o:IOp)(s:St):St:=match o.g with
 |none=>insU o.i s
 |some (t,want)=>match get s.fr t with
  |.p (.bool b)=>if b=want then insU o.i s else⟨putO s.fr (dstI o.i) (.nl .unit),s.bx,s.H⟩
  |_=>⟨putO s.fr (dstI o.i) (.nl .unit),s.bx,s.H⟩
def opsU:List IOp->St->St
 |[],s=>s
 |o::os,s=>opsU os (opU o s)
def aU (ops:List IOp)(k m:Nat)(s:St):St:=opsU (segO ops k m) s
def lhs (ops:List IOp)(k m:Nat)(s:St):Option St×Bool:=(opsF ZeM (segO ops k m) s,okAt ops (k+m) (aU ops k m s))
def rhs (ops:List IOp)(k m:Nat)(s:St):Option St×Bool:=(some (aU ops k m s),true)
section
variable {P:Program} {n:Nat} {s s1 s2:St} {ops:List IOp} {keep:List Nat} {Q:Exit->St->Prop} {K:St->Prop} {k:Nat}
def eo (m:Nat)(hs:ZaS P (opAt ops (k+m)) (aU ops k m s) s1)(c:EP P ops (k+m+1) s1 K)(hm:lhs ops k m s=rhs ops k m s:=by kernel_rfl):EP P ops k s K:=by
 have h1:opsF ZeM (segO ops k m) s=some (aU ops k m s):=congrArg Prod.fst hm;have h2:okAt ops (k+m) (aU ops k m s)=true:=congrArg Prod.snd hm;have h3:opsD (segO ops k m) s=aU ops k m s:=by unfold opsD;rw[h1];rfl
 refine EP.o m (h3▸hs) c ?_;unfold preK preB;have e:(ops.drop k).take m=segO ops k m:=rfl;rw[e,h1,h3];have:okAt (ops.drop k) m (aU ops k m s)=okAt ops (k+m) (aU ops k m s):=by unfold okAt;rw[ZK]
 rw[this,h2];rfl
def ef (c:K (opsU (ops.drop k) s))(hm:opsF ZeM (ops.drop k) s=some (opsU (ops.drop k) s):=by(repeat' cases ‹OwnF _ _ _›)<;>kernel_rfl):EP P ops k s K:=by
 have h3:opsD (ops.drop k) s=opsU (ops.drop k) s:=by unfold opsD;rw[hm];rfl
 exact EP.f (h3▸c) (by rw[hm];rfl)
def eu {d:Nat}{r:AV}(m:Nat)(hs:ZaS P (opAt ops (k+m)) (aU ops k m s) ⟨put (aU ops k m s).fr d r,(aU ops k m s).bx,(aU ops k m s).H⟩)(c:EP P ops (k+m+1) (upd (aU ops k m s) d r) K)(hm:lhs ops k m s=rhs ops k m s:=by(repeat' cases ‹OwnF _ _ _›)<;>kernel_rfl):EP P ops k s K:=eo m hs c hm
def eh {d:Nat}{r:AV}{H:List HO}(m:Nat)(hs:ZaS P (opAt ops (k+m)) (aU ops k m s) ⟨put (aU ops k m s).fr d r,(aU ops k m s).bx,H⟩)(c:EP P ops (k+m+1) (updH (aU ops k m s) d r H) K)(hm:lhs ops k m s=rhs ops k m s:=by(repeat' cases ‹OwnF _ _ _›)<;>kernel_rfl):EP P ops k s K:=eo m hs c hm
def ew {d:Option Nat}{r:AV}{H:List HO}(m:Nat)(hs:ZaS P (opAt ops (k+m)) (aU ops k m s) ⟨putO (aU ops k m s).fr d r,(aU ops k m s).bx,H⟩)(c:EP P ops (k+m+1) (updO (aU ops k m s) d r H) K)(hm:lhs ops k m s=rhs ops k m s:=by(repeat' cases ‹OwnF _ _ _›)<;>kernel_rfl):EP P ops k s K:=eo m hs c hm
def re (h:EP P ops 0 s (λs1=>Q .normal (Zcj keep s1))):vc P n (.reg ops keep) Q s:=let ⟨s1,h1,h2⟩:=h;⟨s1,h1,h2⟩
def qe (h:EP P ops 0 s (λs1=>Q .normal (Zcj keep s1)))(hs:Zmb s.fr ops=true:=by(repeat' cases ‹OwnF _ _ _›)<;>kernel_rfl):vc P n (.regD ops keep) Q s:=let ⟨s1,h1,h2⟩:=h;⟨hs,s1,h1,h2⟩
def fe {fs:List Nat}{s0:St}(h0:frzS fs s=some s0)(h:EP P ops 0 s0 (λs1=>Q .normal (Zcj keep s1)))(hs:Zmb s0.fr ops=true:=by(repeat' cases ‹OwnF _ _ _›)<;>kernel_rfl):vc P n (.regF fs ops keep) Q s:=let ⟨s1,h1,h2⟩:=h;⟨s0,h0,hs,s1,h1,h2⟩
def r0 (c:Q .normal (Zcj keep (opsU ops s)))(hm:opsF ZeM ops s=some (opsU ops s):=by(repeat' cases ‹OwnF _ _ _›)<;>kernel_rfl):vc P n (.reg ops keep) Q s:=re (ef (k:=0) c hm)
def q0 (c:Q .normal (Zcj keep (opsU ops s)))(hm:(opsF ZeM ops s,Zmb s.fr ops)=(some (opsU ops s),true):=by(repeat' cases ‹OwnF _ _ _›)<;>kernel_rfl):vc P n (.regD ops keep) Q s:=qe (ef (k:=0) c (congrArg Prod.fst hm)) (congrArg Prod.snd hm)
def xsOf:Ins->List IX
 |.val _ _ xs=>xs
 |_=>[]
def dOf (i:Ins):Nat:=(dstI i).getD 0
def szOf:Ins->Nat
 |.val _ (.iaddrS sz) _=>sz
 |_=>0
def flg:List AV->Bool
 |.p (.sl _ f _)::_=>f
 |_=>false
def knd:List AV->IntKind
 |[_,.p (.int k _)]=>k
 |_=>.i64
def szP:AV->Nat
 |.ppt sz _ _ _=>sz
 |.p (.sl sz _ _)=>sz
 |_=>0
def offP:AV->Nat
 |.ppt _ _ _ o|.optr _ _ _ _ o|.ptr _ o|.loc _ o=>o
 |_=>0
def vals (i:Ins)(s:St):List AV:=(xsOf i).map (ev s.fr)
def ix {α γ:Type}{l:List α}{i:Int}{f:α->Option γ}{r:γ}(m:Nat)(enc:α->List PC)(h:(idx l i).bind f=some r)
  (c:∀e,idx l i=some e->f e=some r->EP P ops (k+m+1) (upd (aU ops k m s) (dOf (opAt ops (k+m))) (.ppt (szOf (opAt ops (k+m))) (l.map enc) i.toNat 0)) K)
  (hm:(lhs ops k m s,opAt ops (k+m),vals (opAt ops (k+m)) (aU ops k m s))=(rhs ops k m s,.val (dOf (opAt ops (k+m))) (.iaddrS (szOf (opAt ops (k+m)))) (xsOf (opAt ops (k+m))),[.p (.sl (szOf (opAt ops (k+m))) (flg (vals (opAt ops (k+m)) (aU ops k m s))) (l.map enc)),.p (.int (knd (vals (opAt ops (k+m)) (aU ops k m s))) i)]):=by(repeat' cases ‹OwnF _ _ _›)<;>kernel_rfl):EP P ops k s K:=by
 obtain⟨e,he,h⟩:=bs h;have h1:=congrArg Prod.fst hm;have h2:=congrArg (λx=>x.2.1) hm;have h3:=congrArg (λx=>x.2.2) hm;refine eu m ?_ (c e he h) h1;have h4:=ZsN (sz:=szOf (opAt ops (k+m))) (f:=flg (vals (opAt ops (k+m)) (aU ops k m s))) (k:=knd (vals (opAt ops (k+m)) (aU ops k m s))) enc he;simp only at h2 h3;rw[←h3]at h4;rw[h2];exact Zb7 (v:=.iaddrS (szOf (opAt ops (k+m)))) rfl h4
def isLd:Ins->Bool
 |.load .. |.loadH .. |.loadI .. =>true
 |_=>false
def ldX:Ins->IX
 |.load _ x _ _|.loadH _ x _ _|.loadI _ x _ _|.loadL _ x _ _|.loadN _ x _ _ _=>x
 |_=>.t 0
def ldN:Ins->Nat
 |.load _ _ n _|.loadH _ _ n _|.loadI _ _ n _|.loadL _ _ n _|.loadN _ _ n _ _=>n
 |_=>0
def ldA:Ins->Bool
 |.load _ _ _ a|.loadH _ _ _ a|.loadI _ _ _ a|.loadL _ _ _ a|.loadN _ _ _ a _=>a
 |_=>false
def ldR (i:Ins)(s:St)(cs:List PC):AV:=mkU (ldA i) (((cs.drop (offP (ev s.fr (ldX i)))).take (ldN i)).map .p)
def ld {α:Type}{l:List α}{i:Int}{e:α}(m:Nat)(enc:α->List PC)(he:idx l i=some e)
  (c:EP P ops (k+m+1) (upd (aU ops k m s) (dOf (opAt ops (k+m))) (ldR (opAt ops (k+m)) (aU ops k m s) (enc e))) K)
  (hm:(lhs ops k m s,isLd (opAt ops (k+m)),ev (aU ops k m s).fr (ldX (opAt ops (k+m))),(sub (offP (ev (aU ops k m s).fr (ldX (opAt ops (k+m))))) (ldN (opAt ops (k+m))) (enc e)).bind (λq=>mk (ldA (opAt ops (k+m))) (q.map .p)))=
   (rhs ops k m s,true,.ppt (szP (ev (aU ops k m s).fr (ldX (opAt ops (k+m))))) (l.map enc) i.toNat (offP (ev (aU ops k m s).fr (ldX (opAt ops (k+m))))),some (ldR (opAt ops (k+m)) (aU ops k m s) (enc e))):=by(repeat' cases ‹OwnF _ _ _›)<;>kernel_rfl):EP P ops k s K:=by
 have h1:=congrArg Prod.fst hm;have h2:=congrArg (λx=>x.2.1) hm;have h3:=congrArg (λx=>x.2.2.1) hm;have h4:=congrArg (λx=>x.2.2.2) hm;simp only at h2 h3 h4;refine eu m ?_ c h1;generalize opAt ops (k+m)=I at*;generalize ldR I (aU ops k m s) (enc e)=R at*;obtain⟨cs,h5,h0⟩:=bind_some h4;have key:∀d x n a,ldX I=x->ldN I=n->ldA I=a->ZaS P (.load d x n a) (aU ops k m s) ⟨put (aU ops k m s).fr d R,(aU ops k m s).bx,(aU ops k m s).H⟩:=λd x n a e1 e2 e3=>by
  subst e1 e2 e3;exact Zya enc he h3 h5 h0
 unfold isLd at h2;split at h2
 ·exact key _ _ _ _ rfl rfl rfl
 ·exact Zi6 (key _ _ _ _ rfl rfl rfl) (by simp only[ldX]at h3;rw[h3];rfl)
 ·exact ZzG (key _ _ _ _ rfl rfl rfl) (by simp only[ldX]at h3;rw[h3];rfl)
 cases h2
def ln {α:Type}(m:Nat)(enc:α->List PC)(l:List α)
  (c:EP P ops (k+m+1) (upd (aU ops k m s) (dOf (opAt ops (k+m))) (iv (l.length:Int))) K)
  (hm:(lhs ops k m s,opAt ops (k+m),vals (opAt ops (k+m)) (aU ops k m s))=(rhs ops k m s,.val (dOf (opAt ops (k+m))) .len (xsOf (opAt ops (k+m))),[.p (.sl (szP ((vals (opAt ops (k+m)) (aU ops k m s)).headD .any)) (flg (vals (opAt ops (k+m)) (aU ops k m s))) (l.map enc))]):=by(repeat' cases ‹OwnF _ _ _›)<;>kernel_rfl):EP P ops k s K:=by
 have h1:=congrArg Prod.fst hm;have h2:=congrArg (λx=>x.2.1) hm;have h3:=congrArg (λx=>x.2.2) hm;simp only at h2 h3;refine eu m ?_ c h1;have h4:=ZwI (l:=l) (sz:=szP ((vals (opAt ops (k+m)) (aU ops k m s)).headD .any)) (f:=flg (vals (opAt ops (k+m)) (aU ops k m s))) enc;rw[←h3]at h4;rw[h2];exact Zb7 (v:=.len) rfl h4
def PF (P:Program)(f:Nat)(args:List AV){β:Type}(o:Option β)(enc:β->AV):Prop:=∀r,o=some r->Zld P f args (enc r)
def RL (res:List RV){β:Type}(enc:β->AV)(r:β)(s:St):Prop:=∃xs,resL s res=some xs/\ZcZ xs=enc r
def fnC:Ins->Option Nat
 |.call _ f _=>some f
 |.callP _ f _=>some f
 |_=>none
def ZMm (i:Ins)(s:St):Option (List AV×List HO):=match i with
 |.call _ _ xs=>frzL s.H (xs.map (ev s.fr))
 |.callP _ _ xs=>some (weakVs (xs.map (ev s.fr)),s.H)
 |_=>none
def ca {β γ:Type}{o:Option β}{enc:β->AV}{f:β->Option γ}{r:γ}{fn:Nat}{args:List AV}(m:Nat)(hc:PF P fn args o enc)(h:o.bind f=some r)
  (c:∀v,f v=some r->EP P ops (k+m+1) (updO (aU ops k m s) (dstI (opAt ops (k+m))) (enc v) (aU ops k m s).H) K)
  (hm:(lhs ops k m s,fnC (opAt ops (k+m)),ZMm (opAt ops (k+m)) (aU ops k m s))=(rhs ops k m s,some fn,some (args,(aU ops k m s).H)):=by(repeat' cases ‹OwnF _ _ _›)<;>kernel_rfl):EP P ops k s K:=by
 obtain⟨v,hv,h⟩:=bs h;have h1:=congrArg Prod.fst hm;have h2:=congrArg (λx=>x.2.1) hm;have h3:=congrArg (λx=>x.2.2) hm;simp only at h2 h3;refine ew m ?_ (c v h) h1;generalize opAt ops (k+m)=I at*;cases I<;>simp only[fnC,Zan,reduceCtorEq]at h2
 ·subst h2;exact ZzM h3 (hc v hv)
 subst h2;simp only[ZMm,Zan,Zao]at h3;exact Zye h3.1 (hc v hv)
def pc {f:Nat}{F:IFn}{β:Type}{o:Option β}{enc:β->AV}{args:List AV}(hk:chkF P f F=true)(h:∀r,o=some r->vc P F.nt F.body (endQ (RL F.res enc r)) ⟨ZhI args 0,[],[]⟩)
  (hl:(args.length,Zit args)=(F.nargs,true):=by kernel_rfl) (hp:∀r,Zip (enc r)=true:=by intro;kernel_rfl):PF P f args o enc:=λr hr=>
 Zyu hk (congrArg Prod.fst hl) (congrArg Prod.snd hl) (Zbp _ _ _ (h r hr)) (hp r)
def fz {β:Type}{enc:β->AV}{v r:β}{res:List RV}(h:some v=some r)(hk:(resL s res).map ZcZ=some (enc v):=by(repeat' cases ‹OwnF _ _ _›)<;>kernel_rfl):RL res enc r s:=by
 cases h;exact Zpg hk
end
end Go.Eng

namespace Go.Eng
open Go
def ap (s:St)(u:List (Nat×AV))(b:List (Nat×List AV)):St:=⟨u.foldl (λf p=>put f p.1 p.2) s.fr,b.foldl (λf p=>bput f p.1 p.2) s.bx,s.H⟩
def apH (s:St)(u:List (Nat×AV))(b:List (Nat×List AV))(H:List HO):St:=⟨u.foldl (λf p=>put f p.1 p.2) s.fr,b.foldl (λf p=>bput f p.1 p.2) s.bx,H⟩
abbrev SU:=List (Nat×AV)
abbrev BU:=List (Nat×List AV)
def exKs (id:Nat):IC->Option (List Nat)
 |.kp ks a=>match a with
  |.exit j=>if j=id then some ks else none
  |a=>exKs id a
 |.seq a b|.cond _ a b=>(exKs id a).orElse λ_=>exKs id b
 |.block _ a|.loop a|.scope a|.pu _ a|.box a=>exKs id a
 |.rangeF _ _ a b=>(exKs id a).orElse λ_=>exKs id b
 |_=>none
def kx (b:IC)(id:Nat)(s:St):St:=Zcj ((exKs id b).getD []) s
section
variable {σ ρ ρ':Type}
abbrev XT (ρ:Type):=IC->St->ρ->Exit->St->Prop
@[reducible] def x0 (id:Nat):XT ρ:=λb s p e s'=>e=.exit id/\s'=kx b id s
@[reducible] def xe (id:Nat)(u:ρ->SU)(bu:ρ->BU):XT ρ:=λb s p e s'=>e=.exit id/\s'=ap (kx b id s) (u p) (bu p)
@[reducible] def x1 (G:List HO->List Za0->Prop)(id:Nat)(u:ρ->AV->SU)(bu:ρ->AV->BU)(t:ρ->AV->List Za0):XT ρ:=λb s p e s'=>e=.exit id/\∃a H,s'=apH (kx b id s) (u p a) (bu p a) H/\G H (t p a)
@[reducible] def x2 (G:List HO->List Za0->Prop)(id:Nat)(u:ρ->AV->AV->SU)(bu:ρ->AV->AV->BU)(t:ρ->AV->AV->List Za0):XT ρ:=λb s p e s'=>e=.exit id/\∃a a' H,s'=apH (kx b id s) (u p a a') (bu p a a') H/\G H (t p a a')
@[reducible] def xr (res:List RV)(enc:ρ->AV):XT ρ:=λb s p e s'=>e=.ret/\RL res enc p s'
@[reducible] def xR (R:ρ->St->Prop):XT ρ:=λb s p e s'=>e=.ret/\R p s'
@[reducible] def xs (A:XT ρ)(B:XT ρ'):XT (ρ⊕ρ'):=λb s p e s'=>match p with
 |.inl p=>A b s p e s'
 |.inr p=>B b s p e s'
@[reducible] def lq (I:σ->St->Prop)(X:ρ->Exit->St->Prop)(o:σ⊕ρ):Exit->St->Prop:=Zk9 (λs'=>∃y,o=.inl y/\I y s') (λe s'=>∃r,o=.inr r/\X r e s')
variable {P:Program} {n:Nat} {s s':St} {Q:Exit->St->Prop} {b:IC} {γ:Type} {body:σ->Option (σ⊕ρ)} {N:Nat} {y0:σ} {f:ρ->Option γ} {r:γ}
def lpR (I:σ->St->Prop)(X:XT ρ)(h:(ZaT body N y0).bind f=some r)(h0:I y0 s)(hb:∀x o s1,I x s1->body x=some o->vc P n b (lq I (X b s) o) s1)(hk:∀p e s',X b s p e s'->f p=some r->Q e s'):vc P n (.loop b) Q s:=by
 obtain⟨o,ho,h⟩:=bs h;exact ZcE ((Zb4 I body (X b s) (λx o s1 hx hI=>hb x o s1 hI hx) N _ o _ ho h0).mono λe s' hq=>hk o e s' hq h)
def lp (X:XT ρ)(u:σ->SU)(bu:σ->BU)(h:(ZaT body N y0).bind f=some r)(hb:∀x o,body x=some o->vc P n b (lq (λy s'=>s'=ap s (u y) (bu y)) (X b s) o) (ap s (u x) (bu x)))
  (hk:∀p e s',X b s p e s'->f p=some r->Q e s') (h0:s=ap s (u y0) (bu y0):=by(repeat' cases ‹OwnF _ _ _›)<;>kernel_rfl):vc P n (.loop b) Q s:=
 lpR (λy s'=>s'=ap s (u y) (bu y)) X h h0 (λx o s1 hI hx=>by subst hI;exact hb x o hx) hk
def lp1 (G:List HO->List Za0->Prop)(X:XT ρ)(u:σ->AV->SU)(bu:σ->AV->BU)(t:σ->AV->List Za0)(h:(ZaT body N y0).bind f=some r)(a0:AV){H0:List HO}(hp:G H0 (t y0 a0))
  (hb:∀x o a H,G H (t x a)->body x=some o->vc P n b (lq (λy s'=>∃a H,s'=apH s (u y a) (bu y a) H/\G H (t y a)) (X b s) o) (apH s (u x a) (bu x a) H))
  (hk:∀p e s',X b s p e s'->f p=some r->Q e s') (h0:s=apH s (u y0 a0) (bu y0 a0) H0:=by(repeat' cases ‹OwnF _ _ _›)<;>kernel_rfl):vc P n (.loop b) Q s:=
 lpR (λy s'=>∃a H,s'=apH s (u y a) (bu y a) H/\G H (t y a)) X h ⟨a0,H0,h0,hp⟩ (λx o s1 hI hx=>by obtain⟨a,H,rfl,hG⟩:=hI;exact hb x o a H hG hx) hk
def lp2 (G:List HO->List Za0->Prop)(X:XT ρ)(u:σ->AV->AV->SU)(bu:σ->AV->AV->BU)(t:σ->AV->AV->List Za0)(h:(ZaT body N y0).bind f=some r)(a0 a1:AV){H0:List HO}(hp:G H0 (t y0 a0 a1))
  (hb:∀x o a a' H,G H (t x a a')->body x=some o->vc P n b (lq (λy s'=>∃a a' H,s'=apH s (u y a a') (bu y a a') H/\G H (t y a a')) (X b s) o) (apH s (u x a a') (bu x a a') H))
  (hk:∀p e s',X b s p e s'->f p=some r->Q e s') (h0:s=apH s (u y0 a0 a1) (bu y0 a0 a1) H0:=by(repeat' cases ‹OwnF _ _ _›)<;>kernel_rfl):vc P n (.loop b) Q s:=
 lpR (λy s'=>∃a a' H,s'=apH s (u y a a') (bu y a a') H/\G H (t y a a')) X h ⟨a0,a1,H0,h0,hp⟩ (λx o s1 hI hx=>by obtain⟨a,a',H,rfl,hG⟩:=hI;exact hb x o a a' H hG hx) hk
def ka0 {id:Nat}(h:∀p,f p=some r->Q (.exit id) (kx b id s)):∀p e s',x0 id b s p e s'->f p=some r->Q e s':=λp e s' ⟨e1,e2⟩ hf=>by subst e1 e2;exact h p hf
def ke {id:Nat}{u:ρ->SU}{bu:ρ->BU}(h:∀p,f p=some r->Q (.exit id) (ap (kx b id s) (u p) (bu p))):∀p e s',xe id u bu b s p e s'->f p=some r->Q e s':=λp e s' ⟨e1,e2⟩ hf=>by subst e1 e2;exact h p hf
def ka1 {G:List HO->List Za0->Prop}{id:Nat}{u:ρ->AV->SU}{bu:ρ->AV->BU}{t:ρ->AV->List Za0}(h:∀p a H,G H (t p a)->f p=some r->Q (.exit id) (apH (kx b id s) (u p a) (bu p a) H)):∀p e s',x1 G id u bu t b s p e s'->f p=some r->Q e s':=λp e s' ⟨e1,a,H,e2,hG⟩ hf=>by subst e1 e2;exact h p a H hG hf
def ka2 {G:List HO->List Za0->Prop}{id:Nat}{u:ρ->AV->AV->SU}{bu:ρ->AV->AV->BU}{t:ρ->AV->AV->List Za0}(h:∀p a a' H,G H (t p a a')->f p=some r->Q (.exit id) (apH (kx b id s) (u p a a') (bu p a a') H)):∀p e s',x2 G id u bu t b s p e s'->f p=some r->Q e s':=λp e s' ⟨e1,a,a',H,e2,hG⟩ hf=>by subst e1 e2;exact h p a a' H hG hf
def kR {R:ρ->St->Prop}(h:∀p s',R p s'->f p=some r->Q .ret s'):∀p e s',xR R b s p e s'->f p=some r->Q e s':=λp e s' ⟨e1,q⟩ hf=>by subst e1;exact h p s' q hf
def kr' {res:List RV}{enc:ρ->AV}(h:∀p s',RL res enc p s'->f p=some r->Q .ret s'):∀p e s',xr res enc b s p e s'->f p=some r->Q e s':=λp e s' ⟨e1,q⟩ hf=>by subst e1;exact h p s' q hf
def ks {A:XT ρ}{B:XT ρ'}{f:ρ⊕ρ'->Option γ}(hA:∀p e s',A b s p e s'->f (.inl p)=some r->Q e s')(hB:∀p e s',B b s p e s'->f (.inr p)=some r->Q e s'):∀p e s',xs A B b s p e s'->f p=some r->Q e s':=λp=>match p with
 |.inl p=>hA p
 |.inr p=>hB p
def ok {α:Sort _}{a b:α}(h:a=b:=by(repeat' cases ‹OwnF _ _ _›)<;>kernel_rfl):a=b:=h
def wb {o:σ⊕ρ}{y:σ}{u:σ->SU}{bu:σ->BU}{s0:St}(h:some (.inl y)=some o)(hs:s'=ap s0 (u y) (bu y):=by(repeat' cases ‹OwnF _ _ _›)<;>kernel_rfl):∃y,o=.inl y/\s'=ap s0 (u y) (bu y):=by cases h;exact⟨y,rfl,hs⟩
def we {o:σ⊕ρ}{w:ρ}{e:Exit}{s2:St}{X:XT ρ}(h:some (.inr w)=some o)(hx:e=e/\s'=s2->X b s w e s':=by exact id)(hs:s'=s2:=by(repeat' cases ‹OwnF _ _ _›)<;>kernel_rfl):∃r,o=.inr r/\X b s r e s':=by cases h;exact⟨w,rfl,hx ⟨rfl,hs⟩⟩
def wr {o:σ⊕ρ}{w:ρ}{β:Type}{enc:β->AV}{v:β}{res:List RV}{X:XT ρ}(h:some (.inr w)=some o)(hx:Exit.ret=Exit.ret/\RL res enc v s'->X b s w .ret s':=by exact id)(hk:(resL s' res).map ZcZ=some (enc v):=by(repeat' cases ‹OwnF _ _ _›)<;>kernel_rfl):∃r,o=.inr r/\X b s r .ret s':=by cases h;exact⟨w,rfl,hx ⟨rfl,Zpg hk⟩⟩
def wq {o:σ⊕ρ}{w:ρ}{A:Prop}{X:XT ρ}(h:some (.inr w)=some o)(hq:A)(hx:Exit.ret=Exit.ret/\A->X b s w .ret s':=by exact id):∃r,o=.inr r/\X b s r .ret s':=by cases h;exact⟨w,rfl,hx ⟨rfl,hq⟩⟩
def fq {β:Type}{enc:β->AV}{v r:β}{res:List RV}(q:RL res enc v s)(h:some v=some r):RL res enc r s:=by cases h;exact q
def oG {H H0:List HO}{f0 items:List Za0}(hH:Fp H0 H f0 items)(k:Nat){a:AV}{sz:Nat}{fz:Bool}{rows:List (List PC)}(hk:items[k]?=some (.arr a sz fz rows):=by rfl):OwnF sz rows.length a:=Zc7 (hH.get k hk)
end
end Go.Eng

namespace Go.Eng
open Go
def kb (ks:List Nat)(s:St)(u:SU)(b:BU):St:=ap (Zcj ks s) u b
def kbH (ks:List Nat)(s:St)(u:SU)(b:BU)(H:List HO):St:=apH (Zcj ks s) u b H
def kv {σ:Type}(ks:List Nat)(s:St)(u:σ->SU)(b:σ->BU)(x:σ):St:=kb ks s (u x) (b x)
def jR1 {σ:Type}(ks:List Nat)(s:St)(G:List HO->List Za0->Prop)(u:σ->AV->SU)(b:σ->AV->BU)(t:σ->AV->List Za0)(x:σ)(s':St):Prop:=∃a H,Zcj ks s'=kbH ks s (u x a) (b x a) H/\G H (t x a)
def jR2 {σ:Type}(ks:List Nat)(s:St)(G:List HO->List Za0->Prop)(u:σ->AV->AV->SU)(b:σ->AV->AV->BU)(t:σ->AV->AV->List Za0)(x:σ)(s':St):Prop:=∃a a' H,Zcj ks s'=kbH ks s (u x a a') (b x a a') H/\G H (t x a a')
section
variable {P:Program} {n:Nat} {s s0 s':St} {ops:List IOp} {keep:List Nat} {Q:Exit->St->Prop} {K:St->Prop} {k:Nat} {σ γ α:Type} {r:γ}
def bi {c:Bool}{A B:Option α}{y:α}(m d:Nat)(h:(if c=true then A else B)=some y)(T:A=some y->EP P ops (k+m) (upd (aU ops k m s) d (bv true)) K)(F:B=some y->EP P ops (k+m) (upd (aU ops k m s) d (bv false)) K)
  (hm:(opsF ZeM (segO ops k m) s,upd (aU ops k m s) d (bv c))=(some (aU ops k m s),aU ops k m s):=by(repeat' cases ‹OwnF _ _ _›)<;>kernel_rfl):EP P ops k s K:=by
 have h1:opsF ZeM (segO ops k m) s=some (aU ops k m s):=congrArg Prod.fst hm;have h2:upd (aU ops k m s) d (bv c)=aU ops k m s:=congrArg Prod.snd hm;have key:EP P ops (k+m) (aU ops k m s) K:=by
  rw[←h2];cases c with
  |true=>simp only[Zaw]at h;exact T h
  |false=>simp only[Zg,Zat]at h;exact F h
 obtain⟨s1,h3,h4⟩:=key;refine⟨s1,?_,h4⟩;have h5:opsD (segO ops k m) s=aU ops k m s:=by unfold opsD;rw[h1];rfl
 have:=Zbn.chunk (P:=P) (ops:=ops.drop k) (s:=s) m (by show(opsF ZeM (segO ops k m) s).isSome=true;rw[h1];rfl) (s2:=s1);refine this ?_;rw[List.drop_drop];show AK P ops (k+m) (opsD (segO ops k m) s) s1;rw[h5];exact h3
def bg' {c b:Bool}{G:Bool->St->Prop}(m d:Nat)(hb:c=b)(T:EP P ops (k+m) (upd (aU ops k m s) d (bv true)) (G true))(F:EP P ops (k+m) (upd (aU ops k m s) d (bv false)) (G false))
  (hm:(opsF ZeM (segO ops k m) s,upd (aU ops k m s) d (bv c))=(some (aU ops k m s),aU ops k m s):=by(repeat' cases ‹OwnF _ _ _›)<;>kernel_rfl):EP P ops k s (G b):=by
 subst hb;refine bi (c:=c) (A:=if c=true then some ()else none) (B:=if c=false then some ()else none) (y:=()) m d (by cases c<;>rfl) (λh=>?_) (λh=>?_) hm
 ·cases c with
  |true=>exact T
  |false=>cases h
 cases c with
 |true=>cases h
 |false=>exact F
def rx (u:SU)(b:BU)(h:EP P ops 0 s (λs1=>Zcj keep s1=kb keep s u b))(c:Q .normal (kb keep s u b)):vc P n (.reg ops keep) Q s:=re (let ⟨s1,h1,h2⟩:=h;⟨s1,h1,by show Q .normal (Zcj keep s1);rw[h2];exact c⟩)
def qx (u:SU)(b:BU)(h:EP P ops 0 s (λs1=>Zcj keep s1=kb keep s u b))(c:Q .normal (kb keep s u b))(hs:Zmb s.fr ops=true:=by(repeat' cases ‹OwnF _ _ _›)<;>kernel_rfl):vc P n (.regD ops keep) Q s:=qe (let ⟨s1,h1,h2⟩:=h;⟨s1,h1,by show Q .normal (Zcj keep s1);rw[h2];exact c⟩) hs
def rj {o:Option σ}{f:σ->Option γ}(u:σ->SU)(b:σ->BU)(h:o.bind f=some r)(hb:∀x,o=some x->EP P ops 0 s (λs1=>Zcj keep s1=kv keep s u b x))(c:∀x,f x=some r->Q .normal (kv keep s u b x)):vc P n (.reg ops keep) Q s:=
 let ⟨x,hx,h⟩:=bs h;rx (u x) (b x) (hb x hx) (c x h)
def qj {o:Option σ}{f:σ->Option γ}(u:σ->SU)(b:σ->BU)(h:o.bind f=some r)(hb:∀x,o=some x->EP P ops 0 s (λs1=>Zcj keep s1=kv keep s u b x))(c:∀x,f x=some r->Q .normal (kv keep s u b x))(hs:Zmb s.fr ops=true:=by(repeat' cases ‹OwnF _ _ _›)<;>kernel_rfl):vc P n (.regD ops keep) Q s:=
 let ⟨x,hx,h⟩:=bs h;qx (u x) (b x) (hb x hx) (c x h) hs
def el {v x:σ}{u:σ->SU}{b:σ->BU}(h:some v=some x)(hk:(opsF ZeM (ops.drop k) s,Zcj keep (opsU (ops.drop k) s))=(some (opsU (ops.drop k) s),kv keep s0 u b v):=by(repeat' cases ‹OwnF _ _ _›)<;>kernel_rfl):EP P ops k s (λs1=>Zcj keep s1=kv keep s0 u b x):=by
 cases h;exact ef (congrArg Prod.snd hk) (congrArg Prod.fst hk)
def ek {u:SU}{b:BU}(hk:(opsF ZeM (ops.drop k) s,Zcj keep (opsU (ops.drop k) s))=(some (opsU (ops.drop k) s),kb keep s0 u b):=by(repeat' cases ‹OwnF _ _ _›)<;>kernel_rfl):EP P ops k s (λs1=>Zcj keep s1=kb keep s0 u b):=ef (congrArg Prod.snd hk) (congrArg Prod.fst hk)
def st {ic:IC}(S:St)(c:vc P n ic Q S)(e:s=S:=by(repeat' cases ‹OwnF _ _ _›)<;>kernel_rfl):vc P n ic Q s:=e▸c
def jn {ic ib:IC}{ks:List Nat}{o:Option σ}{f:σ->Option γ}(u:σ->SU)(b:σ->BU)(h:o.bind f=some r)(hb:∀x,o=some x->vc P n ic (ZpO λs'=>Zcj ks s'=kv ks s u b x) s)(c:∀x,f x=some r->vc P n ib Q (kv ks s u b x)):vc P n (.seq ic (.kp ks ib)) Q s:=
 let ⟨x,hx,h⟩:=bs h;ZiZ ks (λs'=>s'=kv ks s u b x) (hb x hx) (λs' e=>by rw[e];exact c x h)
def jl {ks:List Nat}{v x:σ}{u:σ->SU}{b:σ->BU}(h:some v=some x)(hk:Zcj ks s'=kv ks s u b v:=by(repeat' cases ‹OwnF _ _ _›)<;>kernel_rfl):ZpO (λs'=>Zcj ks s'=kv ks s u b x) .normal s':=by cases h;exact⟨rfl,hk⟩
def jn1 {ic ib:IC}{ks:List Nat}{o:Option σ}{f:σ->Option γ}(G:List HO->List Za0->Prop)(u:σ->AV->SU)(b:σ->AV->BU)(t:σ->AV->List Za0)(h:o.bind f=some r)(hb:∀x,o=some x->vc P n ic (ZpO (jR1 ks s G u b t x)) s)
  (c:∀x a H,G H (t x a)->f x=some r->vc P n ib Q (kbH ks s (u x a) (b x a) H)):vc P n (.seq ic (.kp ks ib)) Q s:=
 let ⟨x,hx,h⟩:=bs h;ZiZ ks (λs'=>∃a H,s'=kbH ks s (u x a) (b x a) H/\G H (t x a)) (hb x hx) (λs' e=>by obtain⟨a,H,e,hG⟩:=e;rw[e];exact c x a H hG h)
def jn2 {ic ib:IC}{ks:List Nat}{o:Option σ}{f:σ->Option γ}(G:List HO->List Za0->Prop)(u:σ->AV->AV->SU)(b:σ->AV->AV->BU)(t:σ->AV->AV->List Za0)(h:o.bind f=some r)(hb:∀x,o=some x->vc P n ic (ZpO (jR2 ks s G u b t x)) s)
  (c:∀x a a' H,G H (t x a a')->f x=some r->vc P n ib Q (kbH ks s (u x a a') (b x a a') H)):vc P n (.seq ic (.kp ks ib)) Q s:=
 let ⟨x,hx,h⟩:=bs h;ZiZ ks (λs'=>∃a a' H,s'=kbH ks s (u x a a') (b x a a') H/\G H (t x a a')) (hb x hx) (λs' e=>by obtain⟨a,a',H,e,hG⟩:=e;rw[e];exact c x a a' H hG h)
def rvp {H:List HO}{t m id:Nat}{isA:Bool}{cs:List AV}{v:AV}(hl:Lies H (.cel id cs))(hx:(s.H,get s.fr t,(sub (offP (get s.fr t)) m cs).bind (mk isA))=(H,.ptr id (offP (get s.fr t)),some v):=by(repeat' cases ‹OwnF _ _ _›)<;>kernel_rfl):rawV s (.cell t m isA)=some v:=by
 have h1:s.H=H:=congrArg Prod.fst hx;have h2:=congrArg (λx=>x.2.1) hx;have h3:=congrArg (λx=>x.2.2) hx;simp only at h2 h3;obtain⟨c,h4,h5⟩:=bind_some h3;exact Zyo h2 (h1▸hl) h4 h5
def fp0:Fp [] [] [] []:=Fp.refl trivial
@[reducible] def F0 (H:List HO)(i:List Za0):Prop:=Fp [] H [] i
def setH (s:St)(H:List HO):St:=⟨s.fr,s.bx,H⟩
def iad {ib:IC}{id:Nat}{L:LC}{fr0:List (Nat×AV)}{H0 H1:List HO}{f0 items:List Za0}(q:Nat)(hF:Fp H0 H1 f0 items)(h:∀H6,Fp H0 H6 f0 (items.set q (.lp id L fr0 .busy))->vc P n ib Q (setH s H6))(hk:items[q]?=some (.lp id L fr0 .ready):=by rfl)(hs:s.H=H1:=by(repeat' cases ‹OwnF _ _ _›)<;>kernel_rfl):
  Exit.normal=.normal/\s.H[id]?=some (.lp L fr0 .ready)/\vc P n ib Q ⟨s.fr,s.bx,s.H.set id (.lp L fr0 .busy)⟩:=ZAF (hs.symm▸hF) hk h
end
end Go.Eng

namespace Go.Eng
open Go
section
variable {P:Program} {n:Nat} {s:St} {ops:List IOp} {K:St->Prop} {k:Nat} {α γ:Type} {r:γ} {H0 H:List HO} {f0 items:List Za0}
def ZyS:Ins->Bool
 |.load .. |.loadH .. =>true
 |_=>false
def ldC (i:Ins)(s:St)(cs:List AV):AV:=mkU (ldA i) ((cs.drop (offP (ev s.fr (ldX i)))).take (ldN i))
def lc {id:Nat}{cs:List AV}(m j:Nat)(hH:Fp H0 H f0 items)(hk:items[j]?=some (.cel id cs))(c:EP P ops (k+m+1) (upd (aU ops k m s) (dOf (opAt ops (k+m))) (ldC (opAt ops (k+m)) (aU ops k m s) cs)) K)
  (hm:(lhs ops k m s,ZyS (opAt ops (k+m)),(aU ops k m s).H,ev (aU ops k m s).fr (ldX (opAt ops (k+m))),(sub (offP (ev (aU ops k m s).fr (ldX (opAt ops (k+m))))) (ldN (opAt ops (k+m))) cs).bind (λq=>if ZaX q=true then mk (ldA (opAt ops (k+m))) q else none))=
   (rhs ops k m s,true,H,.ptr id (offP (ev (aU ops k m s).fr (ldX (opAt ops (k+m))))),some (ldC (opAt ops (k+m)) (aU ops k m s) cs)):=by(repeat' cases ‹OwnF _ _ _›)<;>kernel_rfl):EP P ops k s K:=by
 have h1:=congrArg Prod.fst hm;have h2:=congrArg (λx=>x.2.1) hm;have h3:=congrArg (λx=>x.2.2.1) hm;have h4:=congrArg (λx=>x.2.2.2.1) hm;have h5:=congrArg (λx=>x.2.2.2.2) hm;simp only at h2 h3 h4 h5;refine eu m ?_ c h1;generalize opAt ops (k+m)=I at*;generalize ldC I (aU ops k m s) cs=R at*;obtain⟨q,h7,h0⟩:=bind_some h5;split at h0
 ·rename_i h6;have key:∀d x n a,ldX I=x->ldN I=n->ldA I=a->ZaS P (.load d x n a) (aU ops k m s) ⟨put (aU ops k m s).fr d R,(aU ops k m s).bx,(aU ops k m s).H⟩:=λd x n a e1 e2 e3=>by
   subst e1 e2 e3;exact ZgR h3 h4 (hH.get j hk) h7 h6 h0
  unfold ZyS at h2;split at h2
  ·exact key _ _ _ _ rfl rfl rfl
  ·exact Zi6 (key _ _ _ _ rfl rfl rfl) (by simp only[ldX]at h4;rw[h4];rfl)
  cases h2
 cases h0
def apX:Ins->IX
 |.app _ x _ _ _|.appN _ x _ _ _=>x
 |_=>.t 0
def apY:Ins->IX
 |.app _ _ y _ _|.appN _ _ y _ _=>y
 |_=>.t 0
def apN:Ins->Option (Nat×Nat)
 |.app _ _ _ sz b|.appN _ _ _ sz b=>some (sz,b)
 |_=>none
def flg1:AV->Bool
 |.p (.sl _ f _)=>f
 |_=>false
def ao {l q:List α}{f:List α->Option γ}{a:AV}{sz bytes:Nat}{fz:Bool}(m j:Nat)(enc:α->List PC)(hH:Fp H0 H f0 items)(hk:items[j]?=some (.arr a sz fz (l.map enc)))(h:(appI bytes l q).bind f=some r)
  (c:∀v a' H',Fp H0 H' f0 (items.set j (.arr a' sz fz (v.map enc)))->OwnF sz (v.map enc).length a'->f v=some r->EP P ops (k+m+1) (updH (aU ops k m s) (dOf (opAt ops (k+m))) a' H') K)
  (hn:∀x,Znl (enc x)=true:=by intro;rfl)
  (hm:(lhs ops k m s,opAt ops (k+m),(aU ops k m s).H,ev (aU ops k m s).fr (apX (opAt ops (k+m))),ev (aU ops k m s).fr (apY (opAt ops (k+m))))=
   (rhs ops k m s,.app (dOf (opAt ops (k+m))) (apX (opAt ops (k+m))) (apY (opAt ops (k+m))) sz bytes,H,a,.p (.sl sz (flg1 (ev (aU ops k m s).fr (apY (opAt ops (k+m))))) (q.map enc))):=by(repeat' cases ‹OwnF _ _ _›)<;>kernel_rfl):EP P ops k s K:=by
 obtain⟨v,hv,h⟩:=bs h;obtain⟨a',H',ha,hF⟩:=hH.app enc hk hv;have h1:=congrArg Prod.fst hm;have h2:=congrArg (λx=>x.2.1) hm;have h3:=congrArg (λx=>x.2.2.1) hm;have h4:=congrArg (λx=>x.2.2.2.1) hm;have h5:=congrArg (λx=>x.2.2.2.2) hm;simp only at h2 h3 h4 h5;have h0:j<items.length:=(List.getElem?_eq_some_iff.1 hk).1;refine eh m ?_ (c v a' H' hF (Zc7 (hF.get j (by simp[h0];rfl))) h) h1;rw[h2];exact Zu3 h3 h4 h5 (by simp[ZdD]) ha (by simp only[Zi8];exact ZpP hn _)
def an {q:List α}{f:List α->Option γ}{bytes:Nat}(m sz:Nat)(enc:α->List PC)(hH:Fp H0 H f0 items)(h:(appI bytes [] q).bind f=some r)
  (c:∀v a' H',Fp H0 H' f0 (.arr a' sz false (v.map enc)::items)->OwnF sz (v.map enc).length a'->f v=some r->EP P ops (k+m+1) (updH (aU ops k m s) (dOf (opAt ops (k+m))) a' H') K)
  (hn:∀x,Znl (enc x)=true:=by intro;rfl)
  (hm:(lhs ops k m s,apN (opAt ops (k+m)),(aU ops k m s).H,ev (aU ops k m s).fr (apX (opAt ops (k+m))),ev (aU ops k m s).fr (apY (opAt ops (k+m))))=
   (rhs ops k m s,some (sz,bytes),H,.p (.sl sz true []),.p (.sl sz (flg1 (ev (aU ops k m s).fr (apY (opAt ops (k+m))))) (q.map enc))):=by(repeat' cases ‹OwnF _ _ _›)<;>kernel_rfl):EP P ops k s K:=by
 obtain⟨v,hv,h⟩:=bs h;obtain⟨a',H',ha,hF⟩:=Zy4 (sz:=sz) enc hH hv;have h1:=congrArg Prod.fst hm;have h2:=congrArg (λx=>x.2.1) hm;have h3:=congrArg (λx=>x.2.2.1) hm;have h4:=congrArg (λx=>x.2.2.2.1) hm;have h5:=congrArg (λx=>x.2.2.2.2) hm;simp only at h2 h3 h4 h5;refine eh m ?_ (c v a' H' hF (Zc7 (hF.get 0 rfl)) h) h1;have key:∀d x y,apX (opAt ops (k+m))=x->apY (opAt ops (k+m))=y->ZaS P (.app d x y sz bytes) (aU ops k m s) ⟨put (aU ops k m s).fr d a',(aU ops k m s).bx,H'⟩:=λd x y e1 e2=>by
  subst e1 e2;exact Zu3 h3 h4 h5 (by simp[ZdD]) ha (by simp only[Zi8];exact ZpP hn _)
 generalize opAt ops (k+m)=I at*;cases I<;>simp only[apN,Zan,Zao,reduceCtorEq]at h2
 ·obtain⟨rfl,rfl⟩:=h2;exact key _ _ _ rfl rfl
 obtain⟨rfl,rfl⟩:=h2;exact ZAU (key _ _ _ rfl rfl) (by simp only[apX]at h4;rw[h4];rfl)
def xo {l:List α}{i:Int}{f:α->Option γ}{a:AV}{sz:Nat}{fz:Bool}(m j:Nat)(enc:α->List PC)(hH:Fp H0 H f0 items)(hk:items[j]?=some (.arr a sz fz (l.map enc)))(h:(idx l i).bind f=some r)
  (c:∀e id ver b,idx l i=some e->H[id]?=some (.arr sz ver b (l.map enc))->(fz=false->b=false)->a=.osl sz id ver 0 l.length->f e=some r->EP P ops (k+m+1) (upd (aU ops k m s) (dOf (opAt ops (k+m))) (.optr sz id ver (0+i.toNat) 0)) K)
  (hm:(lhs ops k m s,opAt ops (k+m),vals (opAt ops (k+m)) (aU ops k m s))=(rhs ops k m s,.val (dOf (opAt ops (k+m))) (.iaddrS sz) (xsOf (opAt ops (k+m))),[a,.p (.int (knd (vals (opAt ops (k+m)) (aU ops k m s))) i)]):=by(repeat' cases ‹OwnF _ _ _›)<;>kernel_rfl):EP P ops k s K:=by
 obtain⟨e,he,h⟩:=bs h;obtain⟨id,ver,b,hb,hid,ha,hv⟩:=hH.elem enc hk he;have h1:=congrArg Prod.fst hm;have h2:=congrArg (λx=>x.2.1) hm;have h3:=congrArg (λx=>x.2.2) hm;simp only at h2 h3;refine eu m ?_ (c e id ver b he hid hb ha h) h1;rw[h2];exact Zb7 (v:=.iaddrS sz) (show _=_ from h3) (hv _)
def lo {l:List α}{i:Int}{e:α}{sz id ver:Nat}{b:Bool}(m:Nat)(enc:α->List PC)(he:idx l i=some e)(hid:H[id]?=some (.arr sz ver b (l.map enc)))
  (c:EP P ops (k+m+1) (upd (aU ops k m s) (dOf (opAt ops (k+m))) (ldR (opAt ops (k+m)) (aU ops k m s) (enc e))) K)
  (hm:(lhs ops k m s,ZyS (opAt ops (k+m)),(aU ops k m s).H,ev (aU ops k m s).fr (ldX (opAt ops (k+m))),(sub (offP (ev (aU ops k m s).fr (ldX (opAt ops (k+m))))) (ldN (opAt ops (k+m))) (enc e)).bind (λq=>if Znl q=true then mk (ldA (opAt ops (k+m))) (q.map .p)else none))=
   (rhs ops k m s,true,H,.optr sz id ver (0+i.toNat) (offP (ev (aU ops k m s).fr (ldX (opAt ops (k+m))))),some (ldR (opAt ops (k+m)) (aU ops k m s) (enc e))):=by(repeat' cases ‹OwnF _ _ _›)<;>kernel_rfl):EP P ops k s K:=by
 have h1:=congrArg Prod.fst hm;have h2:=congrArg (λx=>x.2.1) hm;have h3:=congrArg (λx=>x.2.2.1) hm;have h4:=congrArg (λx=>x.2.2.2.1) hm;have h5:=congrArg (λx=>x.2.2.2.2) hm;simp only at h2 h3 h4 h5;refine eu m ?_ c h1;generalize opAt ops (k+m)=I at*;generalize ldR I (aU ops k m s) (enc e)=R at*;obtain⟨q,h7,h0⟩:=bind_some h5;split at h0
 ·rename_i h6;have key:∀d x n a,ldX I=x->ldN I=n->ldA I=a->ZaS P (.load d x n a) (aU ops k m s) ⟨put (aU ops k m s).fr d R,(aU ops k m s).bx,(aU ops k m s).H⟩:=λd x n a e1 e2 e3=>by
   subst e1 e2 e3;exact ZhV enc he hid h3 h4 h7 h0 h6
  unfold ZyS at h2;split at h2
  ·exact key _ _ _ _ rfl rfl rfl
  ·exact Zi6 (key _ _ _ _ rfl rfl rfl) (by simp only[ldX]at h4;rw[h4];rfl)
  cases h2
 cases h0
def lno {l:List α}{a:AV}{sz:Nat}{fz:Bool}(m j:Nat)(enc:α->List PC)(hH:Fp H0 H f0 items)(hk:items[j]?=some (.arr a sz fz (l.map enc)))(c:EP P ops (k+m+1) (upd (aU ops k m s) (dOf (opAt ops (k+m))) (iv (l.length:Int))) K)
  (hm:(lhs ops k m s,opAt ops (k+m),vals (opAt ops (k+m)) (aU ops k m s))=(rhs ops k m s,.val (dOf (opAt ops (k+m))) .len (xsOf (opAt ops (k+m))),[a]):=by(repeat' cases ‹OwnF _ _ _›)<;>kernel_rfl):EP P ops k s K:=by
 have h1:=congrArg Prod.fst hm;have h2:=congrArg (λx=>x.2.1) hm;have h3:=congrArg (λx=>x.2.2) hm;simp only at h2 h3;refine eu m ?_ c h1;rw[h2];exact Zb7 (v:=.len) (show _=_ from h3) (hH.len enc hk)
def stX:Ins->IX
 |.store x _ _|.storeH x _ _=>x
 |_=>.t 0
def stY:Ins->IX
 |.store _ y _|.storeH _ y _=>y
 |_=>.t 0
def stN:Ins->Option Nat
 |.store _ _ n|.storeH _ _ n=>some n
 |_=>none
theorem ZaS.store {I:Ins}{s:St}{m:Nat}{p:AV}{cs:List AV}{H H':List HO}(hI:stN I=some m)(hH:s.H=H)(hx:ev s.fr (stX I)=p)(h1:cellsOf (ev s.fr (stY I))=cs)(h0:decide (cs.length=m)&&ZaX cs=true)(hl:ZqY p=false)(hw:∀bx,wrt bx H cs p=some ⟨bx,H'⟩):ZaS P I s ⟨s.fr,s.bx,H'⟩:=by
 cases I<;>simp only[stN,Zan,reduceCtorEq]at hI
 ·subst hI;exact Zo5 h1 hH hx rfl h0 hw
 subst hI;exact ZwR (Zo5 h1 hH hx rfl h0 hw) (by simp only[stX]at hx;rw[hx];exact hl)
def so {l:List α}{i:Int}{e:α}{a:AV}{sz id ver:Nat}{b:Bool}(m j:Nat)(enc:α->List PC)(e':α)(hH:Fp H0 H f0 items)(hk:items[j]?=some (.arr a sz false (l.map enc)))(he:idx l i=some e)(hid:H[id]?=some (.arr sz ver b (l.map enc)))(hb:false=false->b=false)(ha:a=.osl sz id ver 0 l.length)
  (c:∀H',Fp H0 H' f0 (items.set j (.arr a sz false ((l.set i.toNat e').map enc)))->EP P ops (k+m+1) (setH (aU ops k m s) H') K)
  (hm:(lhs ops k m s,stN (opAt ops (k+m)),(aU ops k m s).H,ev (aU ops k m s).fr (stX (opAt ops (k+m))),ZaX (cellsOf (ev (aU ops k m s).fr (stY (opAt ops (k+m))))),(unP (cellsOf (ev (aU ops k m s).fr (stY (opAt ops (k+m)))))).bind (λps=>Zb3 (offP (ev (aU ops k m s).fr (stX (opAt ops (k+m))))) ps (enc e)))=
   (rhs ops k m s,some (cellsOf (ev (aU ops k m s).fr (stY (opAt ops (k+m))))).length,H,.optr sz id ver (0+i.toNat) (offP (ev (aU ops k m s).fr (stX (opAt ops (k+m))))),true,some (enc e')):=by(repeat' cases ‹OwnF _ _ _›)<;>kernel_rfl):EP P ops k s K:=by
 have h1:=congrArg Prod.fst hm;have h2:=congrArg (λx=>x.2.1) hm;have h3:=congrArg (λx=>x.2.2.1) hm;have h4:=congrArg (λx=>x.2.2.2.1) hm;have h5:=congrArg (λx=>x.2.2.2.2.1) hm;have h6:=congrArg (λx=>x.2.2.2.2.2) hm;simp only at h2 h3 h4 h5 h6;obtain⟨ps,h7,h0⟩:=bind_some h6;obtain⟨H',hw,hF⟩:=hH.setRow enc hk ha hid (hb rfl) he h7 h0;exact eo m (ZaS.store h2 h3 h4 rfl (by simp[h5]) rfl hw) (c H' hF) h1
def sc {id:Nat}{cs:List AV}(m j:Nat)(cs':List AV)(hH:Fp H0 H f0 items)(hk:items[j]?=some (.cel id cs))(c:∀H',Fp H0 H' f0 (items.set j (.cel id cs'))->EP P ops (k+m+1) (setH (aU ops k m s) H') K)
  (hm:(lhs ops k m s,stN (opAt ops (k+m)),(aU ops k m s).H,ev (aU ops k m s).fr (stX (opAt ops (k+m))),ZaX (cellsOf (ev (aU ops k m s).fr (stY (opAt ops (k+m))))),Zb3 (offP (ev (aU ops k m s).fr (stX (opAt ops (k+m))))) (cellsOf (ev (aU ops k m s).fr (stY (opAt ops (k+m))))) cs)=
   (rhs ops k m s,some (cellsOf (ev (aU ops k m s).fr (stY (opAt ops (k+m))))).length,H,.ptr id (offP (ev (aU ops k m s).fr (stX (opAt ops (k+m))))),true,some cs'):=by(repeat' cases ‹OwnF _ _ _›)<;>kernel_rfl):EP P ops k s K:=by
 have h1:=congrArg Prod.fst hm;have h2:=congrArg (λx=>x.2.1) hm;have h3:=congrArg (λx=>x.2.2.1) hm;have h4:=congrArg (λx=>x.2.2.2.1) hm;have h5:=congrArg (λx=>x.2.2.2.2.1) hm;have h6:=congrArg (λx=>x.2.2.2.2.2) hm;simp only at h2 h3 h4 h5 h6;obtain⟨H',hw,hF⟩:=hH.setCell hk h6;exact eo m (ZaS.store h2 h3 h4 rfl (by simp[h5]) rfl hw) (c H' hF) h1
def ncC (i:Ins)(s:St):Option (List AV):=match i with
 |.boxH _ x=>some (cellsOf (ev s.fr x))
 |.newH _ z=>some z
 |_=>none
def nc (m:Nat)(cs:List AV)(hH:Fp H0 H f0 items)(c:∀id H',Fp H0 H' f0 (.cel id cs::items)->EP P ops (k+m+1) (updH (aU ops k m s) (dOf (opAt ops (k+m))) (.ptr id 0) H') K)
  (hm:(lhs ops k m s,(aU ops k m s).H,ncC (opAt ops (k+m)) (aU ops k m s),ZaX cs)=(rhs ops k m s,H,some cs,true):=by(repeat' cases ‹OwnF _ _ _›)<;>kernel_rfl):EP P ops k s K:=by
 have h1:=congrArg Prod.fst hm;have h2:=congrArg (λx=>x.2.1) hm;have h3:=congrArg (λx=>x.2.2.1) hm;have h4:=congrArg (λx=>x.2.2.2) hm;simp only at h2 h3 h4;obtain⟨id,H',hid,h0,hF⟩:=hH.newCell cs;refine eh m ?_ (c id H' hF) h1;generalize opAt ops (k+m)=I at*;cases I<;>simp only[ncC,Zan,reduceCtorEq]at h3
 ·subst h3;exact ZzH h2 hid h0
 exact ZzN h2 rfl (by rw[h3];exact h4) hid (by rw[h3];exact h0)
def qu {kk:IntKind}{a b:Int}{f:Int->Option γ}(m:Nat)(h:(quoI kk a b).bind f=some r)(c:∀v,f v=some r->EP P ops (k+m+1) (upd (aU ops k m s) (dOf (opAt ops (k+m))) (.p (.int kk v))) K)
  (hm:(lhs ops k m s,opAt ops (k+m),vals (opAt ops (k+m)) (aU ops k m s))=(rhs ops k m s,.val (dOf (opAt ops (k+m))) (.bin .quo) (xsOf (opAt ops (k+m))),[.p (.int kk a),.p (.int kk b)]):=by(repeat' cases ‹OwnF _ _ _›)<;>kernel_rfl):EP P ops k s K:=by
 obtain⟨v,hv,h⟩:=bs h;have h2:=congrArg (λx=>x.2.1) hm;have h3:=congrArg (λx=>x.2.2) hm;simp only at h2 h3;refine eu m ?_ (c v h) (congrArg Prod.fst hm);rw[h2];exact Zb7 (v:=.bin .quo) (show _=_ from h3) (ZsM hv)
def rm {a b:Int}{f:Int->Option γ}(m:Nat)(h:(remI a b).bind f=some r)(c:∀v,f v=some r->EP P ops (k+m+1) (upd (aU ops k m s) (dOf (opAt ops (k+m))) (.p (.int (knd (vals (opAt ops (k+m)) (aU ops k m s))) v))) K)
  (hm:(lhs ops k m s,opAt ops (k+m),vals (opAt ops (k+m)) (aU ops k m s))=(rhs ops k m s,.val (dOf (opAt ops (k+m))) (.bin .rem) (xsOf (opAt ops (k+m))),[.p (.int (knd (vals (opAt ops (k+m)) (aU ops k m s))) a),.p (.int (knd (vals (opAt ops (k+m)) (aU ops k m s))) b)]):=by(repeat' cases ‹OwnF _ _ _›)<;>kernel_rfl):EP P ops k s K:=by
 obtain⟨v,hv,h⟩:=bs h;have h2:=congrArg (λx=>x.2.1) hm;have h3:=congrArg (λx=>x.2.2) hm;simp only at h2 h3;refine eu m ?_ (c v h) (congrArg Prod.fst hm);rw[h2];exact Zb7 (v:=.bin .rem) (show _=_ from h3) (ZwG hv)
end
end Go.Eng

namespace Go.Eng
open Go
section
variable {P:Program} {n:Nat} {s s0 s':St} {ops:List IOp} {keep:List Nat} {Q:Exit->St->Prop} {K:St->Prop} {k:Nat} {σ ρ γ:Type} {r:γ} {b:IC} {H0 H:List HO} {f0 items:List Za0}
def kw {α:Sort _}{a b:α}(h:a=b:=by(repeat' cases ‹OwnF _ _ _›)<;>kernel_rfl):a=b:=h
def ow {C:Prop}{a:AV}{sz:Nat}{fz:Bool}{rows:List (List PC)}(j:Nat)(hH:Fp H0 H f0 items)(hk:items[j]?=some (.arr a sz fz rows))(c:OwnF sz rows.length a->C):C:=c (Zc7 (hH.get j hk))
def w1 {o:σ⊕ρ}{y:σ}{G:List HO->List Za0->Prop}{u:σ->AV->SU}{bu:σ->AV->BU}{t:σ->AV->List Za0}{X:ρ->Exit->St->Prop}(h:some (.inl y)=some o)(a:AV){C:Prop}(hp:C)(hC:C->G H (t y a):=by exact id)(hs:s'=apH s0 (u y a) (bu y a) H:=by(repeat' cases ‹OwnF _ _ _›)<;>kernel_rfl):
  lq (λy s'=>∃a H,s'=apH s0 (u y a) (bu y a) H/\G H (t y a)) X o .normal s':=by cases h;exact⟨y,rfl,a,H,hs,hC hp⟩
def w2 {o:σ⊕ρ}{y:σ}{G:List HO->List Za0->Prop}{u:σ->AV->AV->SU}{bu:σ->AV->AV->BU}{t:σ->AV->AV->List Za0}{X:ρ->Exit->St->Prop}(h:some (.inl y)=some o)(a a':AV){C:Prop}(hp:C)(hC:C->G H (t y a a'):=by exact id)(hs:s'=apH s0 (u y a a') (bu y a a') H:=by(repeat' cases ‹OwnF _ _ _›)<;>kernel_rfl):
  lq (λy s'=>∃a a' H,s'=apH s0 (u y a a') (bu y a a') H/\G H (t y a a')) X o .normal s':=by cases h;exact⟨y,rfl,a,a',H,hs,hC hp⟩
def we1 {o:σ⊕ρ}{w:ρ}{e:Exit}{S:AV->List HO->St}{T:AV->List Za0}{G:List HO->List Za0->Prop}{X:XT ρ}(h:some (.inr w)=some o)(hx:(e=e/\∃a H,s'=S a H/\G H (T a))->X b s w e s')(a:AV){C:Prop}(hp:C)(hC:C->G H (T a):=by exact id)(hs:s'=S a H:=by(repeat' cases ‹OwnF _ _ _›)<;>kernel_rfl):∃r,o=.inr r/\X b s r e s':=by
 cases h;exact⟨w,rfl,hx ⟨rfl,a,H,hs,hC hp⟩⟩
def we2 {o:σ⊕ρ}{w:ρ}{e:Exit}{S:AV->AV->List HO->St}{T:AV->AV->List Za0}{G:List HO->List Za0->Prop}{X:XT ρ}(h:some (.inr w)=some o)(hx:(e=e/\∃a a' H,s'=S a a' H/\G H (T a a'))->X b s w e s')(a a':AV){C:Prop}(hp:C)(hC:C->G H (T a a'):=by exact id)(hs:s'=S a a' H:=by(repeat' cases ‹OwnF _ _ _›)<;>kernel_rfl):∃r,o=.inr r/\X b s r e s':=by
 cases h;exact⟨w,rfl,hx ⟨rfl,a,a',H,hs,hC hp⟩⟩
def jl1 {ks:List Nat}{v x:σ}{G:List HO->List Za0->Prop}{u:σ->AV->SU}{b:σ->AV->BU}{t:σ->AV->List Za0}(h:some v=some x)(a:AV){C:Prop}(hp:C)(hC:C->G H (t v a):=by exact id)(hs:Zcj ks s'=kbH ks s (u v a) (b v a) H:=by(repeat' cases ‹OwnF _ _ _›)<;>kernel_rfl):
  ZpO (jR1 ks s G u b t x) .normal s':=by cases h;exact⟨rfl,a,H,hs,hC hp⟩
def jl2 {ks:List Nat}{v x:σ}{G:List HO->List Za0->Prop}{u:σ->AV->AV->SU}{b:σ->AV->AV->BU}{t:σ->AV->AV->List Za0}(h:some v=some x)(a a':AV){C:Prop}(hp:C)(hC:C->G H (t v a a'):=by exact id)(hs:Zcj ks s'=kbH ks s (u v a a') (b v a a') H:=by(repeat' cases ‹OwnF _ _ _›)<;>kernel_rfl):
  ZpO (jR2 ks s G u b t x) .normal s':=by cases h;exact⟨rfl,a,a',H,hs,hC hp⟩
def cal {H':List HO}{fp fp' rest:List Za0}(hf:Fp H H' fp fp')(h:Fp H0 H f0 (fp++rest)):Fp H0 H' f0 (fp'++rest):=h.callee hf
def al2 {f:Nat}{F:IFn}{args:List AV}{E:AV->AV->AV}{C:AV->AV->List HO->Prop}(hk:chkF P f F=true)(ids:List Nat)(hE:∀a a' H,C a a' H->Za7 (E a a')=true)(h:vc P F.nt F.body (endQ λs'=>∃xs,rawL (wS ids s') F.res=some xs/\∃a a',ZcZ xs=E a a'/\C a a' (weakH ids s'.H)) ⟨ZhI args 0,[],H⟩)
  (hl:(args.length,noLocL args)=(F.nargs,true):=by(repeat' cases ‹OwnF _ _ _›)<;>kernel_rfl):∃a a' H',Zcg P f args H (E a a') H'/\C a a' H':=by
 obtain⟨r,H',h1,a,a',e,h2⟩:=Zqk hk ids (λr H=>∃a a',r=E a a'/\C a a' H) (λr H ⟨a,a',e,hc⟩=>by rw[e];exact hE a a' H hc) (congrArg Prod.fst hl) (congrArg Prod.snd hl) h;exact⟨a,a',H',e▸h1,h2⟩
def ac1 {f:Nat}{F:IFn}{args:List AV}{x:AV}{C:List Za0->List HO->Prop}(hk:chkF P f F=true)(h0:noLocL args=true)(hr:Za7 x=true)(h:vc P F.nt F.body (endQ λs'=>∃xs,rawL s' F.res=some xs/\ZcZ xs=x/\∃i,C i s'.H) ⟨ZhI args 0,[],H⟩)
  (hl:args.length=F.nargs:=by rfl):∃H' i,Zcg P f args H x H'/\C i H':=by
 obtain⟨H',h1,i,h2⟩:=Zua hk (λH=>∃i,C i H) hl h0 hr h;exact⟨H',i,h1,h2⟩
def va1 {f:Nat}{F:IFn}{first xs cap:List AV}{x:AV}{C:List Za0->List HO->Prop}(hk:chkF P f F=true)(args:List AV)(h0:noLocL args=true)(hr:Za7 x=true)(h:vc P F.nt F.body (endQ λs'=>∃xs,rawL s' F.res=some xs/\ZcZ xs=x/\∃i,C i s'.H) ⟨ZhI args 0,[],H⟩)
  (hl:args.length=F.nargs:=by rfl) (hf:frzL H (first++xs++cap)=some (args,H):=by kernel_rfl):∃H' i,Zg8 P (.fn f first cap) xs H x H'/\C i H':=by
 obtain⟨H',h1,i,h2⟩:=Zua hk (λH=>∃i,C i H) hl h0 hr h;exact⟨H',i,Zg8.of hf h1,h2⟩
def yc1 {id nt:Nat}{args:List AV}{H:List HO}{ps:List Nat}{fr0:List (Nat×AV)}{ia ib:IC}{b:Bool}{C:List Za0->List HO->Prop}(hH:H[id]?=some (.lp (lcOf P nt ps ia ib) fr0 .ready))(h0:args.length=ps.length)(h4:∀t∈ps,t<nt)(h3:noLocL args=true)
  (h:vc P nt ia (ZpO λs1=>s1.H[id]?=some (.lp (lcOf P nt ps ia ib) fr0 .ready)/\vc P nt ib (λe s2=>∃H',Ztb id (lcOf P nt ps ia ib) fr0 b H' e s2/\∃i,C i H') ⟨s1.fr,s1.bx,s1.H.set id (.lp (lcOf P nt ps ia ib) fr0 .busy)⟩) ⟨Zmq fr0 ps args,[],H⟩):∃H' i,Zlc P id args H b H'/\C i H':=by
 obtain⟨H',h1,i,h2⟩:=ZwA b (λH=>∃i,C i H) hH h0 h4 h3 h;exact⟨H',i,h1,h2⟩
def UB:Nat->Type
 |0=>SU
 |m+1=>Bool->UB m
def apB:(m:Nat)->UB m->List Bool->SU
 |0,u,_=>u
 |m+1,u,c::cs=>apB m (u c) cs
 |_+1,_,[]=>[]
def kB (keep:List Nat)(s:St)(m:Nat)(u:UB m)(cs:List Bool):St:=kb keep s (apB m u cs) []
def rb (m:Nat)(u:UB m)(cs:List Bool)(h:EP P ops 0 s (λs1=>Zcj keep s1=kB keep s m u cs))(c:Q .normal (kB keep s m u cs)):vc P n (.reg ops keep) Q s:=rx (apB m u cs) [] h c
def bb {c:Bool}{cs:List Bool}{q:Nat}{u:UB (q+1)}(m d:Nat)(T:EP P ops (k+m) (upd (aU ops k m s) d (bv true)) (λs1=>Zcj keep s1=kB keep s0 q (u true) cs))(F:EP P ops (k+m) (upd (aU ops k m s) d (bv false)) (λs1=>Zcj keep s1=kB keep s0 q (u false) cs))
  (hm:(opsF ZeM (segO ops k m) s,upd (aU ops k m s) d (bv c))=(some (aU ops k m s),aU ops k m s):=by(repeat' cases ‹OwnF _ _ _›)<;>kernel_rfl):EP P ops k s (λs1=>Zcj keep s1=kB keep s0 (q+1) u (c::cs)):=
 bg' (G:=λb s1=>Zcj keep s1=kB keep s0 q (u b) cs) m d rfl T F hm
def bs' {c:Bool}{cs:List Bool}{q:Nat}{u:UB (q+1)}(h:EP P ops k s (λs1=>Zcj keep s1=kB keep s0 q (u c) cs)):EP P ops k s (λs1=>Zcj keep s1=kB keep s0 (q+1) u (c::cs)):=h
def be {cs:List Bool}{q:Nat}{u:UB q}(hk:(opsF ZeM (ops.drop k) s,Zcj keep (opsU (ops.drop k) s))=(some (opsU (ops.drop k) s),kB keep s0 q u cs):=by(repeat' cases ‹OwnF _ _ _›)<;>kernel_rfl):EP P ops k s (λs1=>Zcj keep s1=kB keep s0 q u cs):=ef (congrArg Prod.snd hk) (congrArg Prod.fst hk)
end
end Go.Eng

namespace Go.Eng
open Go
section
variable {H0 H:List HO} {f0 items:List Za0} {k sz:Nat} {a:AV} {cs:List PC} {rows:List (List (List PC))} {hole:Option Nat}
def Fp.ragNil (h:Fp H0 H f0 items)(sz:Nat):Fp H0 H f0 (.rag (.p (.sl 1 true [])) sz [] [] none::items):=
 h.trans
  {size:=Nat.le_refl _
   same:=λ_ _ _=>rfl
   now:=h.now.cons ⟨rfl,.inl ⟨rfl,rfl⟩,by simp,by simp,by simp⟩ λid hi j hj _=>by
    rcases hi with⟨_,_,_,_,e⟩|⟨_,_,_,_,_,e⟩
    ·cases e
    simp at e
   occ:=λx hx id h0=>by
    rcases List.mem_cons.1 hx with rfl|hx
    ·rcases h0 with⟨_,_,_,_,e⟩|⟨_,_,_,_,_,e⟩
     ·cases e
     simp at e
    exact .inl ⟨x,hx,h0⟩}
def ZAX (h:Lies H (.rag a sz cs rows hole)):OwnF 1 rows.length a:=by
 obtain⟨_,h2,_⟩:=h;rcases h2 with⟨rfl,_⟩|⟨_,_,rfl,_⟩
 ·exact .a
 exact .b ..
def Zxl {α:Type}{l:List α}{i:Int}{x:α}(h:idx l i=some x):0<=i/\l[i.toNat]?=some x:=by
 unfold idx at h;split at h
 ·rename_i h0;exact⟨h0,h⟩
 cases h
def Zu8 (h:Lies H (.rag a sz cs rows none)){i:Int}{r:List (List PC)}(hi:idx rows i=some r):
  ∃id ver c b,(∀kk:IntKind,Zbc (.iaddrS 1) [a,.p (.int kk i)]=some (.optr 1 id ver (0+i.toNat) 0))/\(∀bx,rd bx H 1 (.optr 1 id ver (0+i.toNat) 0)=some [b])/\cs[i.toNat]?=some c/\up c=b/\OwnF sz r.length b/\Lies H (.arr b sz false r):=by
 obtain⟨h1,h2,h3,h4,h5⟩:=h;obtain⟨h0,hr⟩:=Zxl hi;have h6:=(List.getElem?_eq_some_iff.1 hr).1;rcases h2 with⟨_,e⟩|⟨id,ver,rfl,hid,h7⟩
 ·subst e;simp at h6
 obtain⟨c,hc⟩:∃c,cs[i.toNat]?=some c:=⟨_,ZL (by omega)⟩;have hl:Lies H (.arr (up c) sz false r):=by
  rcases h3 _ c r (by simp) hc hr with⟨rfl,e⟩|⟨q,v,rfl,hq⟩
  ·exact .inl ⟨rfl,e⟩
  exact .inr ⟨q,v,rfl,false,λ_=>rfl,hq⟩
 refine⟨id,ver,c,up c,λkk=>?_,λbx=>?_,hc,rfl,Zc7 hl,hl⟩
 ·simp only[Zbc];rw[Zav ⟨trivial,h0,by omega⟩]
 simp only[rd,hid,and_self,Zaw,Zaj,ZN,hc,Zam,Zak];rfl
def Fp.ragTake {i:Int}{r:List (List PC)}(hF:Fp H0 H f0 items)(hk:items[k]?=some (.rag a sz cs rows none))(hi:idx rows i=some r):
  ∃id ver c b,(∀kk:IntKind,Zbc (.iaddrS 1) [a,.p (.int kk i)]=some (.optr 1 id ver (0+i.toNat) 0))/\(∀bx,rd bx H 1 (.optr 1 id ver (0+i.toNat) 0)=some [b])/\cs[i.toNat]?=some c/\up c=b/\OwnF sz r.length b∧
   Fp H0 H f0 (.arr b sz false r::items.set k (.rag a sz cs rows (some i.toNat))):=by
 obtain⟨id,ver,c,b,e1,e2,hc,hb,e3,hl⟩:=Zu8 (hF.get k hk) hi;refine⟨id,ver,c,b,e1,e2,hc,hb,e3,?_⟩;obtain⟨g1,g2,g3,g4,g5⟩:=hF.get k hk;have h1:∀q,Occ (.rag a sz cs rows (some i.toNat)) q->Occ (.rag a sz cs rows none) q:=by
  rintro q (h|⟨j,s1,v1,l1,_,h⟩)
  ·exact .inl h
  exact .inr ⟨j,s1,v1,l1,by simp,h⟩
 have h0:∀q,Occ (.arr b sz false r) q->∃s1 v1 l1,c=.ow s1 q v1 l1:=by
  rintro q ⟨s1,v1,o1,l1,e⟩;rw[←hb]at e;cases c with
  |ow s2 q2 v2 l2=>simp only[up,AV.osl.injEq]at e;obtain⟨rfl,rfl,rfl,_,rfl⟩:=e;exact⟨_,_,_,rfl⟩
  |_=>cases e
 have h2:Fp H0 H f0 (items.set k (.rag a sz cs rows (some i.toNat))):=hF.step hk ⟨g1,g2,λm c' r' hm ha h8=>g3 m c' r' (by simp) ha h8,g4,g5⟩ (λq h=>.inl (h1 q h)) (λ_ _ _=>rfl) (Nat.le_refl _);have h3:∀q,Occ (.arr b sz false r) q->Occ (.rag a sz cs rows none) q:=λq h=>by
  obtain⟨s1,v1,l1,rfl⟩:=h0 q h;exact .inr ⟨i.toNat,s1,v1,l1,by simp,hc⟩
 refine hF.trans
  {size:=Nat.le_refl _
   same:=λ_ _ _=>rfl
   now:=h2.now.cons hl λq hq j hj h7=>?_
   occ:=λx hx q h4=>?_}
 ·rcases List.mem_or_eq_of_mem_set hj with he|rfl
  ·obtain⟨m,hm⟩:=List.getElem?_of_mem hj;by_cases e:k=m
   ·subst e;have h9:=(List.getElem?_eq_some_iff.1 hk).1;rw[ZR h9]at hm;cases hm;obtain⟨s1,v1,l1,rfl⟩:=h0 q hq;rcases h7 with⟨s2,v2,o2,l2,e⟩|⟨j2,s2,v2,l2,h6,e⟩
    ·rcases g2 with⟨e0,_⟩|⟨id0,v0,e0,_,h5⟩
     ·rw[e0]at e;cases e
     rw[e0]at e;cases e;exact h5 _ _ _ (List.mem_of_getElem? hc)
    exact h6 (by rw[g5 _ _ _ _ _ _ _ _ _ hc e])
   rw[ZQ e]at hm;exact hF.now.apart hk hm e (h3 q hq) h7
  obtain⟨s1,v1,l1,rfl⟩:=h0 q hq;rcases h7 with⟨s2,v2,o2,l2,e⟩|⟨j2,s2,v2,l2,h6,e⟩
  ·rcases g2 with⟨e0,_⟩|⟨id0,v0,e0,_,h5⟩
   ·rw[e0]at e;cases e
   rw[e0]at e;cases e;exact h5 _ _ _ (List.mem_of_getElem? hc)
  exact h6 (by rw[g5 _ _ _ _ _ _ _ _ _ hc e])
 rcases List.mem_cons.1 hx with rfl|hx
 ·exact .inl ⟨_,List.mem_of_getElem? hk,h3 q h4⟩
 rcases List.mem_or_eq_of_mem_set hx with hx|rfl
 ·exact .inl ⟨x,hx,h4⟩
 exact .inl ⟨_,List.mem_of_getElem? hk,h1 q h4⟩
def Fp.ragPut {i:Int}{j:Nat}{r r':List (List PC)}{c:PC}{b:AV}(hF:Fp H0 H f0 items)(hk:items[k]?=some (.rag a sz cs rows (some i.toNat)))(hj:items[j]?=some (.arr b sz false r'))(h8:k≠j)(hi:idx rows i=some r)(hc:cs[i.toNat]?=some c)(hb:up c=b):
  Fp H0 H f0 ((items.set j (.arr (.p (.sl sz true [])) sz false [])).set k (.rag a sz cs (rows.set i.toNat r') none)):=by
 obtain⟨g1,g2,g3,g4,g5⟩:=hF.get k hk;have he:=hF.get j hj;obtain⟨h0,hr⟩:=Zxl hi;have h1:=(List.getElem?_eq_some_iff.1 hr).1;have hN:Fp H0 H f0 (items.set j (.arr (.p (.sl sz true [])) sz false [])):=hF.step hj (.inl ⟨rfl,rfl⟩) (λid ⟨_,_,_,_,e⟩=>by cases e) (λ_ _ _=>rfl) (Nat.le_refl _);have h9:(items.set j (.arr (.p (.sl sz true [])) sz false []))[k]?=some (.rag a sz cs rows (some i.toNat)):=by rw[ZQ (Ne.symm h8)];exact hk
 have h5:Lies H (.rag a sz cs (rows.set i.toNat r') none):=by
  refine⟨by rw[List.length_set];exact g1,?_,λm c' r1 _ h7 h2=>?_,g4,g5⟩
  ·rcases g2 with⟨_,e⟩|⟨id,v,e,h,h'⟩
   ·subst e;simp at h1
   exact .inr ⟨id,v,by rw[List.length_set];exact e,h,h'⟩
  rw[ZP]at h2;by_cases e:i.toNat=m
  ·subst e;rw[hc]at h7;cases h7;rw[Zav rfl,Zav h1]at h2;cases h2;rcases he with⟨e1,e2⟩|⟨q,v,e1,f,hf,h⟩
   ·left;refine⟨?_,e2⟩;rw[←hb]at e1;rcases g4 _ _ hc with⟨q,v,l,rfl⟩|rfl
    ·cases e1
    rfl
   right;have ha:=hf rfl;subst ha;rw[←hb]at e1;rcases g4 _ _ hc with⟨q',v',l',rfl⟩|rfl
   ·simp only[up,AV.osl.injEq]at e1;obtain⟨_,rfl,rfl,_,rfl⟩:=e1;exact⟨_,_,rfl,h⟩
   cases e1
  rw[Zau e]at h2;exact g3 m c' r1 (λe1=>e (by injection e1)) h7 h2
 have h3:∀q,Occ (.rag a sz cs (rows.set i.toNat r') none) q->Occ (.rag a sz cs rows (some i.toNat)) q∨Occ (.arr b sz false r') q:=by
  rintro q (h|⟨m,s1,v1,l1,_,h⟩)
  ·exact .inl (.inl h)
  by_cases e:i.toNat=m
  ·subst e;rw[hc]at h;cases h;exact .inr ⟨s1,v1,0,l1,hb.symm⟩
  exact .inl (.inr ⟨m,s1,v1,l1,λe1=>e (by injection e1),h⟩)
 refine hF.trans
  {size:=Nat.le_refl _
   same:=λ_ _ _=>rfl
   now:=hN.now.replaceX h9 h5 (λq hq=>?_) (λ_ _ _=>rfl)
   occ:=λx hx q h4=>?_}
 ·rcases h3 q hq with h|h
  ·exact .inl h
  refine .inr λm y hm hy ho=>?_
  by_cases h6:j=m
  ·subst h6;rw[ZP,Zav rfl]at hy;split at hy
   ·cases hy;obtain⟨_,_,_,_,e1⟩:=ho;cases e1
   cases hy
  rw[ZQ h6]at hy;exact hF.now.apart hj hy h6 h ho
 rcases List.mem_or_eq_of_mem_set hx with hx|rfl
 ·rcases List.mem_or_eq_of_mem_set hx with hx|rfl
  ·exact .inl ⟨x,hx,h4⟩
  obtain⟨_,_,_,_,e1⟩:=h4;cases e1
 rcases h3 q h4 with h|h
 ·exact .inl ⟨_,List.mem_of_getElem? hk,h⟩
 exact .inl ⟨_,List.mem_of_getElem? hj,h⟩
def ZzT {b:AV}{c:PC}(h:up c=b)(hc:(∃z,c=.sl z true [])∨∃s1 q v l,c=.ow s1 q v l):Zgz unF 1 [b]=some [[c]]:=by
 subst h;rcases hc with⟨z,rfl⟩|⟨s1,q,v,l,rfl⟩<;>rfl
def Zyp (H:List HO)(R:List (List PC)):ZdD (H++[.arr 1 0 false R]) 1 (.osl 1 H.length 0 0 R.length)=some R:=by
 simp[ZdD,sub]
def Fp.ragApp {j bytes:Nat}{b:AV}{R:List (List PC)}(hF:Fp H0 H f0 items)(hk:items[k]?=some (.rag a sz cs rows none))(hj:items[j]?=some (.arr b sz false R))(h9:k≠j)
  (g6:(rows.length+1)*bytes<=140737488355328) (g0:rows.length+1<=140737488355328):
  ∃c a' H2,Zgz unF 1 [b]=some [[c]]/\appV (H++[.arr 1 0 false [[c]]]) 1 bytes a [[c]]=some (a',H2)/\OwnF 1 (rows.length+1) a'∧
   Fp H0 H2 f0 ((items.set j (.arr (.p (.sl sz true [])) sz false [])).set k (.rag a' sz (cs++[c]) (rows++[R]) none)):=by
 have ga:=hF.get j hj;have hl:=hF.get k hk;have gb:=hl.lt;obtain⟨g1,g2,g3,g4,g5⟩:=hl;obtain⟨c,hc,he⟩:∃c,up c=b/\((c=.sl sz true []/\R=[])∨∃q v,c=.ow sz q v R.length/\H[q]?=some (.arr sz v false R)):=by
  rcases ga with⟨rfl,h⟩|⟨q,v,rfl,f,hf,h⟩
  ·exact⟨.sl sz true [],rfl,.inl ⟨rfl,h⟩⟩
  have g8:=hf rfl;subst g8;exact⟨.ow sz q v R.length,rfl,.inr ⟨q,v,rfl,h⟩⟩
 have hg:∀q,(∃s1 v1 l1,c=.ow s1 q v1 l1)->∀(m:Nat) x,m≠j->items[m]?=some x->¬Occ x q:=by
  rintro q ⟨s1,v1,l1,rfl⟩ m x hm hx ho;exact hF.now.apart hj hx (Ne.symm hm) ⟨s1,v1,0,l1,hc.symm⟩ ho
 have h7:∀q s1 v1 l1,c=.ow s1 q v1 l1->∀s2 v2 o2 l2,a≠.osl s2 q v2 o2 l2:=λq s1 v1 l1 e s2 v2 o2 l2 e2=>hg q ⟨_,_,_,e⟩ k _ h9 hk (.inl ⟨_,_,_,_,e2⟩)
 have h0:∀q s1 v1 l1,c=.ow s1 q v1 l1->∀(m s2 v2 l2:Nat),cs[m]?≠some (.ow s2 q v2 l2):=λq s1 v1 l1 e m s2 v2 l2 e2=>hg q ⟨_,_,_,e⟩ k _ h9 hk (.inr ⟨m,_,_,_,by simp,e2⟩)
 have ht:∀q s1 v1 l1,c=.ow s1 q v1 l1->q<H.length:=λq s1 v1 l1 e=>by
  rcases he with⟨e1,_⟩|⟨q2,v2,e1,h⟩
  ·rw[e1]at e;cases e
  rw[e1]at e;cases e;exact(List.getElem?_eq_some_iff.1 h).1
 have pos:∀(m:Nat) x,(cs++[c])[m]?=some x->(m<cs.length/\cs[m]?=some x)∨(m=cs.length/\x=c):=λm x e=>by
  by_cases h:m<cs.length
  ·rw[ZG h]at e;exact .inl ⟨h,e⟩
  have h3:=(List.getElem?_eq_some_iff.1 e).1;simp at h3;have:m=cs.length:=by omega
  subst this;simp at e;exact .inr ⟨rfl,e.symm⟩
 have posR:∀(m:Nat) x,m<cs.length->(rows++[R])[m]?=some x->rows[m]?=some x:=λm x h e=>by
  rwa [ZG (by omega)]at e
 have kind:∀(m:Nat) x,(cs++[c])[m]?=some x->(∃q ver l,x=.ow sz q ver l)∨x=.sl sz true []:=λm x e=>by
  rcases pos m x e with⟨_,e⟩|⟨_,rfl⟩
  ·exact g4 m x e
  rcases he with⟨e,_⟩|⟨q,v,e,_⟩
  ·exact .inr e
  exact .inl ⟨_,_,_,e⟩
 have uniq:∀(i j q s1 v1 l1 s2 v2 l2:Nat),(cs++[c])[i]?=some (.ow s1 q v1 l1)->(cs++[c])[j]?=some (.ow s2 q v2 l2)->i=j:=λi j q s1 v1 l1 s2 v2 l2 e1 e2=>by
  rcases pos i _ e1 with⟨_,e1⟩|⟨h1,e1⟩<;>rcases pos j _ e2 with⟨_,e2⟩|⟨h2,e2⟩
  ·exact g5 _ _ _ _ _ _ _ _ _ e1 e2
  ·exact absurd e1 (h0 _ _ _ _ e2.symm _ _ _ _)
  ·exact absurd e2 (h0 _ _ _ _ e1.symm _ _ _ _)
  omega
 have hN:Fp H0 H f0 (items.set j (.arr (.p (.sl sz true [])) sz false [])):=hF.step hj (.inl ⟨rfl,rfl⟩) (λid ⟨_,_,_,_,e⟩=>by cases e) (λ_ _ _=>rfl) (Nat.le_refl _);have g7:(items.set j (.arr (.p (.sl sz true [])) sz false []))[k]?=some (.rag a sz cs rows none):=by rw[ZQ (Ne.symm h9)];exact hk
 have main:∃a' H2,appV (H++[.arr 1 0 false [[c]]]) 1 bytes a [[c]]=some (a',H2)/\Lies H2 (.rag a' sz (cs++[c]) (rows++[R]) none)/\H.length<=H2.length/\(∀id:Nat,id<H.length->(∀s1 v1 o1 l1,a≠.osl s1 id v1 o1 l1)->H2[id]?=H[id]?)∧
   (∀id,(∃s1 v1 o1 l1,a'=.osl s1 id v1 o1 l1)->(∃s1 v1 o1 l1,a=.osl s1 id v1 o1 l1)∨H.length<=id):=by
  rcases g2 with⟨rfl,rfl⟩|⟨id,v,rfl,hid,hh⟩
  ·have g9:cs=[]:=List.eq_nil_of_length_eq_zero (by simpa using g1);subst g9;simp only[ZY,Zaj]at g6 g0;refine⟨.osl 1 (H.length+1) 0 0 1,(H++[HO.arr 1 0 false [[c]]])++[.arr 1 0 false [[c]]],?_,⟨by simp,.inr ⟨H.length+1,0,rfl,?_,λs1 v1 l1 hm=>?_⟩,λm c' r' _ e1 e2=>?_,kind,uniq⟩,by simp,λid hid _=>by rw[Zx,ZG hid],λid ho=>?_⟩
   ·simp only[appV];rw[Zav ⟨rfl,trivial,trivial,by simpa using g6,by simpa using g0⟩,Zau (by simp)];simp
   ·rw[ZH (by simp)];simp
   ·simp only[Z7,Z6]at hm;have:=ht _ _ _ _ hm.symm;omega
   ·rcases pos m c' e1 with⟨h,_⟩|⟨rfl,rfl⟩
    ·simp at h
    simp at e2;subst e2;rcases he with h|⟨q,v,e3,h⟩
    ·exact .inl h
    refine .inr ⟨q,v,e3,?_⟩;rw[Zx,ZG (List.getElem?_eq_some_iff.1 h).1];exact h
   obtain⟨_,_,_,_,e⟩:=ho;cases e;exact .inr (by omega)
  have ha:=(List.getElem?_eq_some_iff.1 hid).1;have hv:(H++[HO.arr 1 0 false [[c]]])[id]?=some (.arr 1 v false (cs.map λc=>[c])):=by rw[ZG ha];exact hid
  have keep:∀(q:Nat) x',q≠id->H[q]?=some x'->((H++[HO.arr 1 0 false [[c]]]).set id (HO.arr 1 (v+1) false ((cs.map λc=>[c])++[[c]])))[q]?=some x':=λq x' hq h=>by
   rw[ZQ (Ne.symm hq),ZG (List.getElem?_eq_some_iff.1 h).1];exact h
  refine⟨.osl 1 id (v+1) 0 (rows.length+1),(H++[HO.arr 1 0 false [[c]]]).set id (HO.arr 1 (v+1) false ((cs.map λc=>[c])++[[c]])),?_,⟨by simp[g1],.inr ⟨id,v+1,by simp,?_,λs1 v1 l1 hm=>?_⟩,λm c' r' _ e1 e2=>?_,kind,uniq⟩,by simp,λid' hz h9=>?_,λid' ho=>?_⟩
  ·simp only[appV,hv];rw[Zav ⟨trivial,trivial,trivial,trivial,by simpa using g6,by simpa using g0,by simp[g1]⟩];rfl
  ·rw[ZR (by simp;omega)];simp
  ·rcases List.mem_append.1 hm with hm|hm
   ·exact hh _ _ _ hm
   exact h7 _ _ _ _ (List.mem_singleton.1 hm).symm _ _ _ _ rfl
  ·rcases pos m c' e1 with⟨h,e3⟩|⟨rfl,rfl⟩
   ·rcases g3 m c' r' (by simp) e3 (posR m r' h e2)with h|⟨q,v1,rfl,h⟩
    ·exact .inl h
    exact .inr ⟨q,v1,rfl,keep q _ (λe=>by subst e;exact hh _ _ _ (List.mem_of_getElem? e3)) h⟩
   rw[g1]at e2;simp at e2;subst e2;rcases he with h|⟨q,v1,e3,h⟩
   ·exact .inl h
   exact .inr ⟨q,v1,e3,keep q _ (λe=>by subst e;exact h7 _ _ _ _ e3 _ _ _ _ rfl) h⟩
  ·rw[ZQ (λe=>by subst e;exact h9 _ _ _ _ rfl),ZG hz]
  obtain⟨_,_,_,_,e⟩:=ho;cases e;exact .inl ⟨_,_,_,_,rfl⟩
 obtain⟨a',H2,h1,h2,h3,h4,h5⟩:=main;refine⟨c,a',H2,ZzT hc (he.imp (λh=>⟨_,h.1⟩) λ⟨q,v,e,_⟩=>⟨_,_,_,_,e⟩),h1,by have:=ZAX h2;simpa using this,?_⟩;have h8:∀q,Occ (.rag a' sz (cs++[c]) (rows++[R]) none) q->Occ (.rag a sz cs rows none) q∨Occ (.arr b sz false R) q∨H.length<=q:=by
  rintro q (ho|⟨m,s1,v1,l1,_,hm⟩)
  ·rcases h5 q ho with h|h
   ·exact .inl (.inl h)
   exact .inr (.inr h)
  rcases pos m _ hm with⟨_,hm⟩|⟨_,hm⟩
  ·exact .inl (.inr ⟨m,_,_,_,by simp,hm⟩)
  subst hm;exact .inr (.inl ⟨s1,v1,0,l1,hc.symm⟩)
 have h6:∀q,q<H.length->¬Occ (.rag a sz cs rows none) q->H2[q]?=H[q]?:=λq hq ho=>h4 q hq λs1 v1 o1 l1 e=>ho (.inl ⟨_,_,_,_,e⟩)
 refine hF.trans
  {size:=h3
   same:=λq hq hh=>h6 q hq (hh _ (List.mem_of_getElem? hk))
   now:=hN.now.replaceX g7 h2 (λq hq=>?_) h6
   occ:=λy hy q hn=>?_}
 ·rcases h8 q hq with h|h|h
  ·exact .inl h
  ·refine .inr λm y hm hy ho=>?_
   by_cases hu:j=m
   ·subst hu;rw[ZP,Zav rfl]at hy;split at hy
    ·cases hy;obtain⟨_,_,_,_,e1⟩:=ho;cases e1
    cases hy
   rw[ZQ hu]at hy;exact hF.now.apart hj hy hu h ho
  refine .inr λm y hm hy ho=>?_
  have:=hN.now.lies y (List.mem_of_getElem? hy)|>.lt q ho;omega
 rcases List.mem_or_eq_of_mem_set hy with hy|rfl
 ·rcases List.mem_or_eq_of_mem_set hy with hy|rfl
  ·exact .inl ⟨y,hy,hn⟩
  obtain⟨_,_,_,_,e1⟩:=hn;cases e1
 rcases h8 q hn with h|h|h
 ·exact .inl ⟨_,List.mem_of_getElem? hk,h⟩
 ·exact .inl ⟨_,List.mem_of_getElem? hj,h⟩
 exact .inr h
variable {α:Type} {l l2:List (List α)} {r r2:List α} {i:Int}
def Zxk {β γ:Type}(f:β->γ){l:List β}{x:β}(h:idx l i=some x):idx (l.map f) i=some (f x):=by
 obtain⟨h0,h1⟩:=Zxl h;unfold idx;rw[Zav h0,ZN,h1];rfl
def Fp.ragTakeE (enc:α->List PC)(hF:Fp H0 H f0 items)(hk:items[k]?=some (.rag a sz cs (l.map (List.map enc)) none))(hi:idx l i=some r):
  ∃id ver c b,(∀kk:IntKind,Zbc (.iaddrS 1) [a,.p (.int kk i)]=some (.optr 1 id ver (0+i.toNat) 0))/\(∀bx,rd bx H 1 (.optr 1 id ver (0+i.toNat) 0)=some [b])/\cs[i.toNat]?=some c/\up c=b/\OwnF sz (r.map enc).length b∧
   Fp H0 H f0 (.arr b sz false (r.map enc)::items.set k (.rag a sz cs (l.map (List.map enc)) (some i.toNat))):=hF.ragTake hk (Zxk _ hi)
def Zpt (enc:α->List PC)(h:Lies H (.rag a sz cs (l.map (List.map enc)) none))(hi:idx l i=some r):
  ∃id ver c b,(∀kk:IntKind,Zbc (.iaddrS 1) [a,.p (.int kk i)]=some (.optr 1 id ver (0+i.toNat) 0))/\(∀bx,rd bx H 1 (.optr 1 id ver (0+i.toNat) 0)=some [b])/\cs[i.toNat]?=some c/\up c=b/\OwnF sz (r.map enc).length b/\Lies H (.arr b sz false (r.map enc)):=Zu8 h (Zxk _ hi)
def Fp.ragPutE {j:Nat}{c:PC}{b:AV}(enc:α->List PC)(hF:Fp H0 H f0 items)(hk:items[k]?=some (.rag a sz cs (l.map (List.map enc)) (some i.toNat)))(hj:items[j]?=some (.arr b sz false (r2.map enc)))(h0:k≠j)(hi:idx l i=some r)(hc:cs[i.toNat]?=some c)(hb:up c=b):
  Fp H0 H f0 ((items.set j (.arr (.p (.sl sz true [])) sz false [])).set k (.rag a sz cs ((l.set i.toNat r2).map (List.map enc)) none)):=by
 rw[List.map_set];exact hF.ragPut hk hj h0 (Zxk _ hi) hc hb
def Fp.ragAppE {j bytes:Nat}{b:AV}(enc:α->List PC)(hF:Fp H0 H f0 items)(hk:items[k]?=some (.rag a sz cs (l.map (List.map enc)) none))(hj:items[j]?=some (.arr b sz false (r.map enc)))(h0:k≠j)(h:appI bytes l [r]=some l2):
  ∃c a' H2,Zgz unF 1 [b]=some [[c]]/\appV (H++[.arr 1 0 false [[c]]]) 1 bytes a [[c]]=some (a',H2)/\OwnF 1 (l2.map (List.map enc)).length a'∧
   Fp H0 H2 f0 ((items.set j (.arr (.p (.sl sz true [])) sz false [])).set k (.rag a' sz (cs++[c]) (l2.map (List.map enc)) none)):=by
 unfold appI at h;split at h
 ·rename_i hb;cases h;simp only[Z0]at hb;obtain⟨c,a',H2,h1,h2,h3,h4⟩:=hF.ragApp (bytes:=bytes) hk hj h0 (by rw[ZX];exact hb.1) (by rw[ZX];exact hb.2);exact⟨c,a',H2,h1,h2,by simpa using h3,by rw[Z2];exact h4⟩
 cases h
def owr {C:Prop}(j:Nat)(hH:Fp H0 H f0 items)(hk:items[j]?=some (.rag a sz cs rows hole))(c:OwnF 1 rows.length a->C):C:=c (ZAX (hH.get j hk))
def Lies.len (enc:α->List PC){fz:Bool}(h:Lies H (.arr a sz fz (r.map enc))):Zbc .len [a]=some (.p (.int .i64 ((r.length:Nat):Int))):=by
 rcases h with⟨rfl,e⟩|⟨_,_,rfl,_⟩
 ·have:r=[]:=by simpa using e
  subst this;rfl
 simp[Zbc]
end
end Go.Eng

