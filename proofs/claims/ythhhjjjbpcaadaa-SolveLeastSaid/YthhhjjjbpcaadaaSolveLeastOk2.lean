/- Part of the proof. -/
import Derived.Test.YthhhjjjbpcaadaaSolveLeastOk1
set_option linter.all false
namespace Go.Sh
open Go Go.Eng Go.Proofs
set_option maxRecDepth 100000
set_option maxHeartbeats 4000000
attribute [local irreducible] vc ev Zcr opsD opsF Zfs upd updH updO
abbrev Zav (p:Z1) (fuel:Int) (a b:AV) (m:Nat):List AV:=[Z5 false p.Periods,Z6 false p.Uses,iv fuel,a,b,.map m]
abbrev smp (m:Nat) (known:slvK):ZaL:=mpT m 3 (encE ZbX bv known)
theorem Zf1 (N:Nat)(p:Z1)(known:slvK)(i x j y:Int)(r:Bool×slvK)(id m:Nat)(fuel:Int)(a b:AV)(H:List HO)(hH:HP H [.cel id (Zav p fuel a b m),smp m known])(h:ZdC N p known i x j y=some r) :
  ∃ H',ZbE Try.prog 45 [.ptr id 0,iv i,iv x,iv j,iv y] H (bv r.1) H'/\Fp H H' [.cel id (Zav p fuel a b m),smp m known] [.cel id (Zav p fuel a b m),smp m r.2]:=by
 unfold ZdC at h
 replace hH:=Fp.refl hH
 refine ZfA Ztv (λH'=>Fp H H' [.cel id (Zav p fuel a b m),smp m known] [.cel id (Zav p fuel a b m),smp m r.2]) rfl rfl rfl ?_
 have hlc:=Fp.get hH 0 rfl
 refine sq (rg Z2.f (tq (sq ?_)))
 obtain ⟨e1,he1,h⟩:=bs h
 refine rgS ⟨[(0,.ptr id 0),(1,iv i),(2,iv x),(3,iv j),(4,iv y),(11,iv e1)],[],H⟩ (Z2.u 4 (ZaF (H:=H) (id:=id) (off:=0) (cs:=Zav p fuel a b m) (c:=[Z5 false p.Periods]) (r:=Z5 false p.Periods) (hl:=hlc)) (Z2.u 1 (Z9 (ys:=[Z5 false p.Periods,iv i]) (h:=Z8 eI64 he1)) (Z2.u 0 (Zas (sz:=1) (off:=0) (cs:=[.int .i64 e1]) (r:=iv e1) eI64 he1) Z2.f))) kr (tq (sq ?_))
 obtain ⟨m1,hm1,h⟩:=bs h
 obtain ⟨m2,hm2,h⟩:=bs h
 refine rgS ⟨[(0,.ptr id 0),(12,.loc 12 0)],[(12,[iv i,iv m2,iv j])],H⟩ (Z2.u 5 (Z9 (ys:=[iv (w64 (x-y)),iv e1]) (h:=Zbx hm1)) (Z2.u 3 (Z9 (ys:=[iv (w64 (m1+e1)),iv e1]) (h:=Zbx hm2)) Z2.f)) kr (tq (sq ?_))
 have hlm:=Fp.get hH 1 rfl
 refine rqS ⟨[(0,.ptr id 0),(12,.loc 12 0),(13,bv (Zkc known (ZaI.mk i m2 j) false)),(14,bv (mhas known (ZaI.mk i m2 j)))],[(12,[iv i,iv m2,iv j])],H⟩ (Z2.u 3 (Za5 (ZaF (H:=H) (id:=id) (off:=5) (cs:=Zav p fuel a b m) (c:=[.map m]) (r:=.map m) (hl:=hlc)))
  (Z2.u 1 (ZlR (H:=H) (id:=m) (kn:=3) (ke:=ZbX) (ve:=bv) (l:=known) (x:=(ZaI.mk i m2 j)) (z:=false) (r:=.tup [bv (Zkc known (ZaI.mk i m2 j) false),bv (mhas known (ZaI.mk i m2 j))]) kr kr hlm kr kr (λ_=>rfl)) Z2.f)) kr ?_
 refine tq (Zfc [13] (λs=>∃ H1,s=⟨[(13,bv r.1)],[],H1⟩/\Fp H H1 [.cel id (Zav p fuel a b m),smp m known] [.cel id (Zav p fuel a b m),smp m r.2]) ?_ ?_)
 ·refine sq (rgS ⟨[(0,.ptr id 0),(12,.loc 12 0),(13,bv (Zkc known (ZaI.mk i m2 j) false)),(45,bv (!(mhas known (ZaI.mk i m2 j))))],[(12,[iv i,iv m2,iv j])],H⟩ Z2.f kr (tq (it h (λhc h=>?_) (λhc h=>?_))))
  ·obtain ⟨r1,hr1,h⟩:=bs h
   cases h
   refine sq (rqS ⟨[(0,.ptr id 0),(12,.loc 12 0),(13,bv r1.1)],[(12,[iv i,iv m2,iv j])],H⟩ (Z2.u 3 (Za5 (ZaF (H:=H) (id:=id) (off:=0) (cs:=Zav p fuel a b m) (c:=Z0 p) (r:=.agg (Z0 p)) (hl:=hlc))) (Z2.v 6 (ZaH (hc:=Zgs N p i m2 j 0 r1 hr1)) Z2.f)) kr (tq ?_))
   obtain ⟨H2,hH2,hF2⟩:=Fp.setMp (k:=1) hH rfl (encE ZbX bv (Zfp known (ZaI.mk i m2 j) r1.1))
   refine rqS ⟨[(13,bv r1.1)],[],H2⟩ (Z2.u 3 (Za5 (ZaF (H:=H) (id:=id) (off:=5) (cs:=Zav p fuel a b m) (c:=[.map m]) (r:=.map m) (hl:=hlc)))
    (Z2.o 2 (ZnD (H:=H) (id:=m) (kn:=3) (ke:=ZbX) (ve:=bv) (l:=known) (x:=(ZaI.mk i m2 j)) (v:=r1.1) (y:=bv r1.1) kr kr hlm kr kr hH2) Z2.f)) kr ?_
   exact ⟨rfl,H2,kr,hF2⟩
  cases h
  exact sk (⟨rfl,H,kr,hH⟩)
 rintro s ⟨H1,rfl,hF1⟩
 exact sq (rgS ⟨[(10,bv r.1)],[],H1⟩ Z2.f kr (tq (rt (⟨[bv r.1],kr,rfl,hF1⟩))))
def dpC (c:Z3):Int×List (List PC):=(c.Stream,c.Arms.map ZaA)
theorem ZjL {H:List HO}{a:AV}{sz:Nat}{u:Bool}{cs:List PC}{f:List Z3}(h:Lies H (.deep a sz u cs (f.map dpC))):Zar .len [a]=some (iv ((List.length f:Nat):Int)):=by
 have:=Znk h
 rwa [ZB] at this
theorem ZjS {α:Type}{bytes:Nat}{l m r:List α}(h:appI bytes l m=some r):r=l++m/\(l.length+m.length)*bytes<=140737488355328/\l.length+m.length<=140737488355328:=by
 unfold appI at h
 split at h
 ·rename_i hc
  cases h
  exact ⟨rfl,hc.1,hc.2⟩
 cases h
theorem ZiN {α β:Type}(g:α->β){l:List α}{i:Int}{e:α}(h:idx l i=some e):idx (l.map g) i=some (g e):=by
 unfold idx at h ⊢
 split at h
 ·rename_i h0
  rw [ZY h0,Zu,h]
  rfl
 cases h
theorem hp1 {H:List HO}{i:ZaL}(h:Lies H i):HP H [i]:=HP.cons (HP.any H) h (λ_ _ j hj=>by cases hj)
theorem Ziv (N:Nat)(p:Z1)(given:List Int)(known:slvK)(i x:Int)(r:Int×slvK)(id m:Nat)(fuel:Int)(a b:AV)(H:List HO)(hH:HP H [.cel id (Zav p fuel a b m),.arr a 1 false (given.map eI64),smp m known])(h:ZdB N p given known i x=some r) :
  ∃ H',ZbE Try.prog 32 [.ptr id 0,iv i,iv x] H (iv r.1) H'/\Fp H H' [.cel id (Zav p fuel a b m),.arr a 1 false (given.map eI64),smp m known] [.cel id (Zav p fuel a b m),.arr a 1 false (given.map eI64),smp m r.2]:=by
 unfold ZdB at h
 replace hH:=Fp.refl hH
 have hfa:=Zcq (Fp.get hH 1 rfl)
 refine ZfA ZtC (λH'=>Fp H H' [.cel id (Zav p fuel a b m),.arr a 1 false (given.map eI64),smp m known] [.cel id (Zav p fuel a b m),.arr a 1 false (given.map eI64),smp m r.2]) rfl rfl rfl (sq (rgS ⟨[(0,.ptr id 0),(1,iv i),(2,iv x)],[],H⟩ Z2.f kr (tq (sq (sq (rgS ⟨[(0,.ptr id 0),(1,iv i),(2,iv x),(8,iv i),(9,iv 0)],[],H⟩ Z2.f kr (tq (bk ?_))))))))
 obtain ⟨o1,ho1,h⟩:=bs h
 refine Zbf ((Za0 (λ(y:Int×slvK) s=>∃ H2,s=⟨[(0,.ptr id 0),(1,iv i),(2,iv x),(8,iv i),(9,iv y.1)],[],H2⟩/\Fp H H2 [.cel id (Zav p fuel a b m),.arr a 1 false (given.map eI64),smp m known] [.cel id (Zav p fuel a b m),.arr a 1 false (given.map eI64),smp m y.2])
  (λy:Int×slvK=>ZbR N p given i x y.1 y.2)
  (λ(q:slvK⊕(Int×slvK)) e s=>match q with
   | .inl k=>e=.exit 0/\∃ H2,s=⟨[(0,.ptr id 0),(1,iv i),(2,iv x)],[],H2⟩/\Fp H H2 [.cel id (Zav p fuel a b m),.arr a 1 false (given.map eI64),smp m known] [.cel id (Zav p fuel a b m),.arr a 1 false (given.map eI64),smp m k]
   | .inr q=>e=.ret/\∃ H2,s=⟨[(6,iv q.1)],[],H2⟩/\Fp H H2 [.cel id (Zav p fuel a b m),.arr a 1 false (given.map eI64),smp m known] [.cel id (Zav p fuel a b m),.arr a 1 false (given.map eI64),smp m q.2]) ?_ N _ o1 _ ho1 ⟨H,by show _=_;kernel_rfl,hH⟩).mono ?_)
 ·clear h ho1 hH
  rintro ⟨j,k1⟩ o s h hR
  obtain ⟨H1,rfl,hF1⟩:=hR
  replace h:ZbR N p given i x j k1=some o:=h
  unfold ZbR at h
  refine sq (rgS ⟨[(0,.ptr id 0),(1,iv i),(2,iv x),(8,iv i),(9,iv j),(10,bv (decide (j<i)))],[],H1⟩ Z2.f kr (tq (sq (it h (λhc h=>?_) (λhc h=>?_)))))
  ·refine sk (tq (kq (sq (bk (sq (rgS ⟨[(0,.ptr id 0),(1,iv i),(2,iv x),(7,iv j),(8,iv i),(9,iv j)],[],H1⟩ Z2.f kr (tq (sq ?_))))))))
   obtain ⟨y,hy,h⟩:=bs h
   obtain ⟨r1,hr1,h⟩:=bs h
   obtain ⟨id2,ver2,_,hid2f,hid2,hid2a,hid2v⟩:=Fp.elem (k:=1) (a:=a) (sz:=1) (frz:=false) eI64 hF1 rfl hy
   have hlc:=Fp.get hF1 0 rfl
   obtain ⟨H2,hc2,hF2⟩:=Zf1 N p k1 i x j y r1 id m fuel a b H1 (Fp.pk hF1 [0,2] rfl).now hr1
   replace hF2:=Fp.callee (rest:=[.arr a 1 false (given.map eI64)]) (Fp.pk hF1 [0,2,1] rfl) hF2
   replace hF2:=Fp.pk (H':=H2) (L:=[.cel id (Zav p fuel a b m),.arr a 1 false (given.map eI64),smp m r1.2]) hF2 [0,2,1] rfl
   refine rgS ⟨[(0,.ptr id 0),(1,iv i),(2,iv x),(7,iv j),(8,iv i),(9,iv j),(23,bv r1.1)],[],H2⟩ (Z2.u 7 (ZaF (H:=H1) (id:=id) (off:=3) (cs:=Zav p fuel a b m) (c:=[a]) (r:=a) kr kr hlc kr (by cases hfa<;>kernel_rfl) kr)
    (Z2.u (hm:=by cases hfa<;>kernel_rfl) 1 (Z9 (ys:=[a,iv j]) (by cases hfa<;>kernel_rfl) (hid2v .i64))
    (Z2.u (hm:=by cases hfa<;>kernel_rfl) 0 (Zfg (H:=H1) (off:=0) (cs:=[.int .i64 y]) (r:=iv y) eI64 hy hid2 (by cases hfa<;>kernel_rfl) (by cases hfa<;>kernel_rfl) kr kr)
    (Z2.v (hm:=by cases hfa<;>kernel_rfl) 0 (Zdj (H:=H1) (H1:=H1) (ys:=[.ptr id 0,iv i,iv x,iv j,iv y]) (args:=[.ptr id 0,iv i,iv x,iv j,iv y]) (by cases hfa<;>kernel_rfl) (by cases hfa<;>kernel_rfl) kr hc2) (Z2.f (h:=by cases hfa<;>kernel_rfl)))))) (by cases hfa<;>kernel_rfl) ?_
   refine tq (it h (λhc3 h=>?_) (λhc3 h=>?_))
   ·cases h
    exact sq (rgS ⟨[(6,iv j)],[],H2⟩ Z2.f kr (tq (rt (br (tr (⟨_,rfl,rfl,H2,rfl,hF2⟩))))))
   refine sk (bn (tq (kq (rgS ⟨[(0,.ptr id 0),(1,iv i),(2,iv x),(8,iv i),(9,iv (w64 (j+1)))],[],H2⟩ Z2.f kr ?_))))
   cases h
   exact ⟨_,rfl,H2,rfl,hF2⟩
  refine kq (xq (tx ?_))
  cases h
  exact ⟨_,rfl,rfl,H1,kr,hF1⟩
 rintro e s hq
 rcases o1 with k|q
 ·dsimp only at h hq
  obtain ⟨rfl,H1,rfl,hF1⟩:=hq
  refine bx (tq (sq ?_))
  obtain ⟨r1,hr1,h⟩:=bs h
  obtain ⟨H2,hc2,hF2⟩:=Zf1 N p k i x i x r1 id m fuel a b H1 (Fp.pk hF1 [0,2] rfl).now hr1
  replace hF2:=Fp.callee (rest:=[.arr a 1 false (given.map eI64)]) (Fp.pk hF1 [0,2,1] rfl) hF2
  replace hF2:=Fp.pk (H':=H2) (L:=[.cel id (Zav p fuel a b m),.arr a 1 false (given.map eI64),smp m r1.2]) hF2 [0,2,1] rfl
  refine sq (rgS ⟨[(1,iv i),(31,bv r1.1)],[],H2⟩ (Z2.v 5 (Zdj (H:=H1) (H1:=H1) (ys:=[.ptr id 0,iv i,iv x,iv i,iv x]) (args:=[.ptr id 0,iv i,iv x,iv i,iv x]) kr kr kr hc2) Z2.f) kr (tq (it h (λhc3 h=>?_) (λhc3 h=>?_))))
  ·cases h
   exact sq (rgS ⟨[(6,iv i)],[],H2⟩ Z2.f kr (tq (rt (tr (⟨[iv i],kr,rfl,hF2⟩)))))
  cases h
  exact sk (tq (kq (sq (rgS ⟨[(6,iv (-1))],[],H2⟩ Z2.f kr (tq (rt (⟨[iv (-1)],kr,rfl,hF2⟩)))))))
 dsimp only at h hq
 obtain ⟨rfl,H1,rfl,hF1⟩:=hq
 refine br (tr ?_)
 have hqr:=Zap h
 subst hqr
 exact ⟨[iv q.1],kr,rfl,hF1⟩
theorem ZhS (f:List Z3)(c:Int)(z:Zan)(r:List Z3)(p:Z1)(id m:Nat)(fuel:Int)(a b:AV)(cs:List PC)(H:List HO)(hH:HP H [.cel id (Zav p fuel a b m),.deep b 4 true cs (f.map dpC)])(h:ZdO f c z=some r) :
  ∃ cs' H',ZbE Try.prog 33 [.ptr id 0,iv c,.agg (ZbB z)] H (.tup []) H'/\Fp H H' [.cel id (Zav p fuel a b m),.deep b 4 true cs (f.map dpC)] [.cel id (Zav p fuel a b m),.deep b 4 true cs' (r.map dpC)]:=by
 suffices hs:∃ H',ZbE Try.prog 33 [.ptr id 0,iv c,.agg (ZbB z)] H (.tup []) H'/\∃ cs',Fp H H' [.cel id (Zav p fuel a b m),.deep b 4 true cs (f.map dpC)] [.cel id (Zav p fuel a b m),.deep b 4 true cs' (r.map dpC)] by
  obtain ⟨H',h1,cs',h2⟩:=hs
  exact ⟨cs',H',h1,h2⟩
 unfold ZdO at h
 replace hH:=Fp.refl hH
 have hlc:=Fp.get hH 0 rfl
 have hfb:=ZjM (Fp.get hH 1 rfl)
 refine ZfA ZtB (λH'=>∃ cs',Fp H H' [.cel id (Zav p fuel a b m),.deep b 4 true cs (f.map dpC)] [.cel id (Zav p fuel a b m),.deep b 4 true cs' (r.map dpC)]) rfl rfl rfl ?_
 obtain ⟨fc,hfc,h⟩:=bs h
 obtain ⟨la,hla,h⟩:=bs h
 obtain ⟨id4,ver4,cc,bb,hid4a,hcc,hbb,hid4v,hfbb,hlbb,hr0,hr1,hr2⟩:=Zhw (Fp.get hH 1 rfl) (ZiN dpC hfc)
 refine sq (rgS ⟨[(0,.ptr id 0),(1,iv c),(5,.loc 5 0)],[(5,ZbB z)],H⟩ Z2.f kr (tq (sq ?_)))
 refine rgS ⟨[(0,.ptr id 0),(1,iv c),(5,.loc 5 0),(6,bb)],[(5,ZbB z)],H⟩ (Z2.u 3 (ZaF (H:=H) (id:=id) (off:=4) (cs:=Zav p fuel a b m) (c:=[b]) (r:=b) kr kr hlc kr (by cases hfb<;>kernel_rfl) kr)
  (Z2.u (hm:=by cases hfb<;>kernel_rfl) 1 (Z9 (ys:=[b,iv c]) (by cases hfb<;>kernel_rfl) (hid4v .i64)) (Z2.u (hm:=by cases hfb<;>kernel_rfl) 1 (ZmS (H:=H) (r:=bb) (p:=.optr 2 id4 ver4 (0+c.toNat) 1) (by cases hfb<;>kernel_rfl) (by cases hfb<;>kernel_rfl) hr1 (by cases hfbb<;>kernel_rfl) (by cases hfbb<;>kernel_rfl)) (Z2.f (h:=by cases hfb<;>kernel_rfl))))) (by cases hfb<;>cases hfbb<;>kernel_rfl) ?_
 refine tq (sq ?_)
 have hpb:HP H [.arr bb 4 false (fc.Arms.map ZaA)]:=hp1 hlbb
 refine sq (rgS ⟨[(0,.ptr id 0),(1,iv c),(5,.loc 5 0),(6,bb),(7,iv ((List.length fc.Arms:Nat):Int))],[(5,ZbB z)],H⟩ (Z2.u (hm:=by cases hfbb<;>kernel_rfl) 1 (Z9 (ys:=[bb]) (by cases hfbb<;>kernel_rfl) (HP.len (k:=0) (frz:=false) ZaA hpb rfl)) (Z2.f (h:=by cases hfbb<;>kernel_rfl))) (by cases hfbb<;>kernel_rfl) (tq (sq (rqX (hs:=(by cases hfbb<;>kernel_rfl)) ⟨[(0,.ptr id 0),(1,iv c),(5,.loc 5 0),(6,bb),(7,iv ((List.length fc.Arms:Nat):Int)),(35,bv la)],[(5,ZbB z)],H⟩ ?_ ?_))))
 ·clear h
  unfold Zdk at hla
  rcases ZaP hla with ⟨hc,hla⟩|⟨hc,hla⟩
  ·refine EP.u (hm:=by cases hfbb<;>kernel_rfl) 1 (Zaa (c:=(decide (((List.length fc.Arms:Nat):Int)>0))) (by cases hfbb<;>kernel_rfl) hc) ?_
   rcases ZaP hla with ⟨hc',hla⟩|⟨hc',hla⟩
   ·refine EP.u (hm:=by cases hfbb<;>kernel_rfl) 3 (Zaa (c:=(decide (z.By≥0))) (by cases hfbb<;>kernel_rfl) hc') ?_
    obtain ⟨e5,he5,hla⟩:=bs hla
    obtain rfl:=Zap hla
    obtain ⟨id5,ver5,_,hid5f,hid5,hid5a,hid5v⟩:=HP.elem (k:=0) (frz:=false) ZaA hpb rfl he5
    exact EP.u (hm:=by cases hfbb<;>kernel_rfl) 5 (Z9 (ys:=[bb,iv (w64 (((List.length fc.Arms:Nat):Int)-1))]) (by cases hfbb<;>kernel_rfl) (hid5v .i64)) (EP.u (hm:=by cases hfbb<;>kernel_rfl) 1 (Za5 (Zfg (H:=H) (off:=2) (cs:=[.int .i64 e5.By]) (r:=iv e5.By) ZaA he5 hid5 (by cases hfbb<;>kernel_rfl) (by cases hfbb<;>kernel_rfl) kr kr) (by cases hfbb<;>kernel_rfl)) (EP.f (h:=by cases hfbb<;>kernel_rfl) (by cases hfbb<;>kernel_rfl)))
   obtain rfl:=Zap hla
   exact EP.u (hm:=by cases hfbb<;>kernel_rfl) 3 (Zaa (c:=(decide (z.By≥0))) (by cases hfbb<;>kernel_rfl) hc') (EP.f (h:=by cases hfbb<;>kernel_rfl) (by cases hfbb<;>kernel_rfl))
  obtain rfl:=Zap hla
  exact EP.u (hm:=by cases hfbb<;>kernel_rfl) 1 (Zaa (c:=(decide (((List.length fc.Arms:Nat):Int)>0))) (by cases hfbb<;>kernel_rfl) hc) (EP.f (h:=by cases hfbb<;>kernel_rfl) (by cases hfbb<;>kernel_rfl))
 refine tq (it h (λhc6 h=>?_) (λhc6 h=>?_) (hx:=by cases hfbb<;>kernel_rfl))
 ·obtain ⟨e7,he7,h⟩:=bs h
  obtain ⟨id7,ver7,H7,hid7a,hid7v,hw7,hF7⟩:=Fp.deepRow (k:=1) (vs:=[iv z.To]) (off:=1) (e':=ZaA { e7 with To:=z.To }) hH rfl (ZiN dpC hfc) hcc hbb (ZiN ZaA he7) rfl rfl
  cases h
  replace hF7:Fp H H7 [.cel id (Zav p fuel a b m),.deep b 4 true cs (f.map dpC)] [.cel id (Zav p fuel a b m),.deep b 4 true cs ((f.set c.toNat ⟨fc.Stream,fc.Arms.set (w64 (((List.length fc.Arms:Nat):Int)-1)).toNat { e7 with To:=z.To }⟩).map dpC)]:=by
   rw [List.map_set]
   simp only [dpC,List.map_set]
   exact hF7
  exact sq (rgS ⟨[],[],H7⟩ (Z2.u (hm:=by cases hfbb<;>kernel_rfl) 5 (Z9 (ys:=[bb,iv (w64 (((List.length fc.Arms:Nat):Int)-1))]) (by cases hfbb<;>kernel_rfl) (hid7v .i64)) (Z2.o (hm:=by cases hfbb<;>kernel_rfl) 1 (Zbg (H:=H) (v:=iv z.To) (cs:=[iv z.To]) (p:=.optr 4 id7 ver7 (0+(w64 (((List.length fc.Arms:Nat):Int)-1)).toNat) 1) rfl (by cases hfbb<;>kernel_rfl) (by cases hfbb<;>kernel_rfl) (by cases hfbb<;>kernel_rfl) rfl hw7) (Z2.f (h:=by cases hfbb<;>kernel_rfl)))) (by cases hfbb<;>kernel_rfl) (tq (rt (tr (⟨[],kr,rfl,cs,hF7⟩)))))
 obtain ⟨l9,hl9,h⟩:=bs h
 cases h
 obtain ⟨rfl,hb1,hb2⟩:=ZjS hl9
 refine sk (tq (kq ?_))
 obtain ⟨q9,v9,H9,a5,a4,a6,hap9,a1,a2,a3⟩:=Fp.deepIn (k:=1) (bytes:=32) (m:=[ZaA z]) hH rfl (ZiN dpC hfc) hcc hbb (by simp) (by simpa [dpC] using hb1) (by simpa [dpC] using hb2)
 have a0:=hid4a.symm.trans a1
 cases a0
 subst hid4a
 clear hfb
 refine rqS (hs:=(by cases hfbb<;>kernel_rfl)) ⟨[],[],a6⟩
  (Z2.u (hm:=by cases hfbb<;>kernel_rfl) 3 (ZkG (H:=H) (id:=id) (off:=4) (cs:=Zav p fuel a (.osl 2 id4 ver4 0 (f.map dpC).length) m) (c:=[.osl 2 id4 ver4 0 (f.map dpC).length]) (r:=.osl 2 id4 ver4 0 (f.map dpC).length) (zs:=[]) (vs:=[]) (by cases hfbb<;>kernel_rfl) (by cases hfbb<;>kernel_rfl) hlc kr kr kr rfl rfl)
  (Z2.h (hm:=by cases hfbb<;>kernel_rfl) 4 (ZhQ (H:=H) (a:=bb) (b:=Zba true [z]) (by cases hfbb<;>kernel_rfl) (by cases hfbb<;>kernel_rfl) (by cases hfbb<;>kernel_rfl) kr hap9)
  (Z2.u (hm:=by cases hfbb<;>kernel_rfl) 0 (Z9 (ys:=[.osl 2 id4 ver4 0 (f.map dpC).length,iv c]) (by cases hfbb<;>kernel_rfl) (hid4v .i64))
  (Z2.o (hm:=by cases hfbb<;>kernel_rfl) 1 (Zi6 (Zbg (H:=H9) (v:=.osl 4 q9 v9 0 ((dpC fc).2++[ZaA z]).length) (p:=.optr 2 id4 ver4 (0+c.toNat) 1) rfl (by cases hfbb<;>kernel_rfl) (by cases hfbb<;>kernel_rfl) (by cases hfbb<;>kernel_rfl) rfl a2) (by cases hfbb<;>kernel_rfl))
  (Z2.f (h:=by cases hfbb<;>kernel_rfl)))))) (by cases hfbb<;>kernel_rfl) ?_
 refine ⟨[],kr,rfl,(cs.set c.toNat (.ow 4 q9 v9 ((dpC fc).2++[ZaA z]).length)),?_⟩
 rw [List.map_set]
 have e:dpC ⟨fc.Stream,fc.Arms++[z]⟩=((dpC fc).1,(dpC fc).2++[ZaA z]):=by simp [dpC]
 rw [e]
 exact a3
abbrev ZaQ (p:Z1) (fuel:Int) (id m:Nat) (a b:AV) (cs:List PC) (st:Zbh):List ZaL:=[.cel id (Zav p fuel a b m),.arr a 1 false (st.2.1.map eI64),.deep b 4 true cs (st.1.map dpC),smp m st.2.2]
abbrev ZkW (P:Program) (p:Z1) (fuel:Int) (rec_:Zbh->Int->Option (Option (Bool×Zbh))):Prop :=
 ∀ (st:Zbh) (i:Int) (r:Option (Bool×Zbh)) (id m:Nat) (a b:AV) (cs:List PC) (H:List HO),HP H (ZaQ p fuel id m a b cs st)->rec_ st i=some r →
  (∃ (t:Bool) (s':Zbh) (a' b':AV) (cs':List PC) (H':List HO),r=some (t,s')/\ZbE P 23 [.ptr id 0,iv i] H (bv t) H'/\Fp H H' (ZaQ p fuel id m a b cs st) (ZaQ p fuel id m a' b' cs' s')) ∨
  ∃ H',r=none/\Zkx P 23 [.ptr id 0,iv i] H 79 H'/\Fp H H' (ZaQ p fuel id m a b cs st) []
theorem Zh9 {H H1:List HO}{f0:List ZaL}{p:Z1}{fuel:Int}{id m:Nat}{a b:AV}{cs:List PC}{st:Zbh}{i c most x by_ nx:Int}{f:List Z3}{Q:Exit->St->Prop}
  (hF:Fp H H1 f0 (ZaQ p fuel id m a b cs st)) (hadd:ZdO st.1 c ⟨x,w64 (x+1),by_,nx⟩=some f)
  (hQ:∀ H2 cs',Fp H H2 f0 (ZaQ p fuel id m a b cs' (f,st.2))->Q .normal ⟨[(0,.ptr id 0),(1,iv i),(5,iv c),(6,iv most),(44,iv most),(45,iv x)],[],H2⟩) :
  vc Try.prog i23.nt (Ro Znt [0,1,5,6,44,45]) Q ⟨[(0,.ptr id 0),(1,iv i),(5,iv c),(6,iv most),(7,iv x),(8,iv by_),(9,iv nx),(44,iv most),(45,iv x)],[],H1⟩:=by
 obtain ⟨cs',H2,hc2,hF2⟩:=ZhS st.1 c ⟨x,w64 (x+1),by_,nx⟩ f p id m fuel a b cs H1 (Fp.pk hF [0,2] rfl).now hadd
 replace hF2:=Fp.callee (rest:=[.arr a 1 false (st.2.1.map eI64),smp m st.2.2]) (Fp.pk hF [0,2,1,3] rfl) hF2
 replace hF2:=Fp.pk (H':=H2) (L:=ZaQ p fuel id m a b cs' (f,st.2)) hF2 [0,2,1,3] rfl
 refine rgS ⟨[(0,.ptr id 0),(1,iv i),(5,iv c),(6,iv most),(44,iv most),(45,iv x)],[],H2⟩
  (Z2.v 8 (Zdj (H:=H1) (H1:=H1) (ys:=[.ptr id 0,iv c,.agg (ZbB ⟨x,w64 (x+1),by_,nx⟩)]) (args:=[.ptr id 0,iv c,.agg (ZbB ⟨x,w64 (x+1),by_,nx⟩)]) kr kr kr hc2) Z2.f) kr ?_
 exact hQ H2 cs' hF2
abbrev s15 (id:Nat) (i c most x nx:Int) (H:List HO):St:=⟨[(0,.ptr id 0),(1,iv i),(5,iv c),(6,iv most),(7,iv x),(8,iv (-1)),(9,iv nx),(44,iv most),(45,iv x)],[],H⟩
theorem Zlt {H1:List HO}{p:Z1}{fuel:Int}{id m:Nat}{a b:AV}{i c most x nx:Int}{Q:Exit->St->Prop}(hlc:Lies H1 (.cel id (Zav p fuel a b m)))(hc:(i==w64 (((List.length p.Periods:Nat):Int)-1))=true)
  (hQ:Q .normal ⟨[(0,.ptr id 0),(1,iv i),(5,iv c),(6,iv most),(7,iv x),(8,iv (-1)),(9,iv nx),(44,iv most),(45,iv x),(83,bv true)],[],H1⟩):vc Try.prog i23.nt (.box (Ro Zjv [0,1,5,6,7,8,9,44,45,83])) Q (s15 id i c most x nx H1):=
 Zn1 (rgS ⟨[(0,.ptr id 0),(1,iv i),(5,iv c),(6,iv most),(7,iv x),(8,iv (-1)),(9,iv nx),(44,iv most),(45,iv x),(83,bv true)],[],H1⟩
  (Z2.u 5 (ZaF (H:=H1) (id:=id) (off:=0) (cs:=Zav p fuel a b m) (c:=[Z5 false p.Periods]) (r:=Z5 false p.Periods) (hl:=hlc))
  (Z2.u 0 (Z9 (ys:=[Z5 false p.Periods]) (h:=Zaf eI64)) (Z2.u 1 (Zaa (c:=(i==w64 (((List.length p.Periods:Nat):Int)-1))) (h:=hc)) Z2.f))) kr hQ)
theorem Zmu {H1 H2:List HO}{p:Z1}{fuel:Int}{id m:Nat}{a b:AV}{i c most x nx:Int}{t:Bool}{Q:Exit->St->Prop}(hlc:Lies H1 (.cel id (Zav p fuel a b m)))(hc:(i==w64 (((List.length p.Periods:Nat):Int)-1))=false)
  (hcall:ZbE Try.prog 23 [.ptr id 0,iv (w64 (i+1))] H1 (bv t) H2)
  (hQ:Q .normal ⟨[(0,.ptr id 0),(1,iv i),(5,iv c),(6,iv most),(7,iv x),(8,iv (-1)),(9,iv nx),(44,iv most),(45,iv x),(83,bv t)],[],H2⟩):vc Try.prog i23.nt (.box (Ro Zjv [0,1,5,6,7,8,9,44,45,83])) Q (s15 id i c most x nx H1):=
 Zn1 (rgS ⟨[(0,.ptr id 0),(1,iv i),(5,iv c),(6,iv most),(7,iv x),(8,iv (-1)),(9,iv nx),(44,iv most),(45,iv x),(83,bv t)],[],H2⟩
  (Z2.u 5 (ZaF (H:=H1) (id:=id) (off:=0) (cs:=Zav p fuel a b m) (c:=[Z5 false p.Periods]) (r:=Z5 false p.Periods) (hl:=hlc))
  (Z2.u 0 (Z9 (ys:=[Z5 false p.Periods]) (h:=Zaf eI64)) (Z2.u 1 (Zaa (c:=(i==w64 (((List.length p.Periods:Nat):Int)-1))) (h:=hc))
  (Z2.v 4 (Zdj (H:=H1) (H1:=H1) (ys:=[.ptr id 0,iv (w64 (i+1))]) (args:=[.ptr id 0,iv (w64 (i+1))]) kr kr kr hcall) Z2.f)))) kr hQ)
theorem Zmv {H1 H2:List HO}{p:Z1}{fuel:Int}{id m:Nat}{a b:AV}{i c most x nx:Int}{Q:Exit->St->Prop}(hlc:Lies H1 (.cel id (Zav p fuel a b m)))(hc:(i==w64 (((List.length p.Periods:Nat):Int)-1))=false)
  (hcall:Zkx Try.prog 23 [.ptr id 0,iv (w64 (i+1))] H1 79 H2)
  (hQ:∀ s:St,s.H=H2->Q (.panic (pvl 79)) s):vc Try.prog i23.nt (.box (Ro Zjv [0,1,5,6,7,8,9,44,45,83])) Q (s15 id i c most x nx H1):=
 Znw 13 _ rfl (AK.z (Z2.u (ops:=Zjv.take 13) 5 (ZaF (H:=H1) (id:=id) (off:=0) (cs:=Zav p fuel a b m) (c:=[Z5 false p.Periods]) (r:=Z5 false p.Periods) (hl:=hlc))
  (Z2.u 0 (Z9 (ys:=[Z5 false p.Periods]) (h:=Zaf eI64)) (Z2.u 1 (Zaa (c:=(i==w64 (((List.length p.Periods:Nat):Int)-1))) (h:=hc)) Z2.f))))
  ⟨(by show get _ _=_;kernel_rfl),_,_,_,[.ptr id 0,iv (w64 (i+1))],H1,rfl,Pass.frz kr,hcall⟩ [] (hQ _ kr)
theorem ZgS (N:Nat)(rec_:Zbh->Int->Option (Option (Bool×Zbh)))(p:Z1)(fuel:Int)(hrec_:ZkW Try.prog p fuel rec_)(st0:Zbh)(id m:Nat)(a0 b0:AV)(cs0:List PC)(H:List HO)(i c most x:Int)(st:Zbh)(o:(Int×Zbh)⊕(Zbh⊕Option Zbh))(a b:AV)(cs:List PC)(H1:List HO)
  (hF1:Fp H H1 (ZaQ p fuel id m a0 b0 cs0 st0) (ZaQ p fuel id m a b cs st)) (h:Zca N rec_ p i c most x st=some o) :
  vc Try.prog i23.nt Zo8 (ZgM (λs=>∃ y:Int×Zbh,o=.inl y/\∃ a b cs H2,s=⟨[(0,.ptr id 0),(1,iv i),(5,iv c),(6,iv most),(44,iv most),(45,iv y.1)],[],H2⟩/\Fp H H2 (ZaQ p fuel id m a0 b0 cs0 st0) (ZaQ p fuel id m a b cs y.2))
   (λe s=>∃ r:Zbh⊕Option Zbh,o=.inr r/\match r with
   | .inl s2=>e=.exit 0/\∃ a b cs H2,s=⟨[(0,.ptr id 0),(1,iv i),(5,iv c),(6,iv most)],[],H2⟩/\Fp H H2 (ZaQ p fuel id m a0 b0 cs0 st0) (ZaQ p fuel id m a b cs s2)
   | .inr q=>match q with
    | none=>e=.panic (pvl 79)/\Fp H s.H (ZaQ p fuel id m a0 b0 cs0 st0) []
    | some s2=>e=.ret/\∃ a b cs H2,s=⟨[(4,bv true)],[],H2⟩/\Fp H H2 (ZaQ p fuel id m a0 b0 cs0 st0) (ZaQ p fuel id m a b cs s2)))
   ⟨[(0,.ptr id 0),(1,iv i),(5,iv c),(6,iv most),(44,iv most),(45,iv x)],[],H1⟩:=by
 obtain ⟨pf,gv,kn⟩:=st
 unfold Zca at h
 dsimp only at h
 have hlc:=Fp.get hF1 0 rfl
 have hfa:=Zcq (Fp.get hF1 1 rfl)
 have hfb:=ZjM (Fp.get hF1 2 rfl)
 refine sq (rgS ⟨[(0,.ptr id 0),(1,iv i),(5,iv c),(6,iv most),(44,iv most),(45,iv x),(46,bv (decide (x<most)))],[],H1⟩ Z2.f kr (tq (sq (it h (λhc h=>?_) (λhc h=>?_)))))
 ·refine sk (tq (kq (sq (bk (sq (rgS ⟨[(0,.ptr id 0),(1,iv i),(5,iv c),(6,iv most),(7,iv x),(44,iv most),(45,iv x)],[],H1⟩ Z2.f kr (tq (sq ?_))))))))
  obtain ⟨by_,hby,h⟩:=bs h
  obtain ⟨H2,hc2,hF2⟩:=Ziv N p gv kn i x by_ id m fuel a b H1 (Fp.pk hF1 [0,1,3] rfl).now hby
  replace hF2:=Fp.callee (rest:=[.deep b 4 true cs (pf.map dpC)]) (Fp.pk hF1 [0,1,3,2] rfl) hF2
  replace hF2:=Fp.pk (H':=H2) (L:=ZaQ p fuel id m a b cs (pf,gv,by_.2)) hF2 [0,1,3,2] rfl
  refine rgS ⟨[(0,.ptr id 0),(1,iv i),(5,iv c),(6,iv most),(7,iv x),(8,iv by_.1),(9,iv 0),(44,iv most),(45,iv x)],[],H2⟩ (Z2.v 3 (Zdj (H:=H1) (H1:=H1) (ys:=[.ptr id 0,iv i,iv x]) (args:=[.ptr id 0,iv i,iv x]) kr kr kr hc2) Z2.f) kr (tq (sq ?_))
  obtain ⟨q,hq,h⟩:=bs h
  refine sq (rgS ⟨[(0,.ptr id 0),(1,iv i),(5,iv c),(6,iv most),(7,iv x),(8,iv by_.1),(9,iv 0),(44,iv most),(45,iv x),(53,bv (by_.1 == -1))],[],H2⟩ Z2.f kr (tq (it hq (λhc3 hq=>?_) (λhc3 hq=>?_))))
  ·have hby1:by_.1 = -1:=by simpa using hc3
   rw [hby1] at h ⊢
   obtain ⟨g,hg,hq⟩:=bs hq
   have hlc2:=Fp.get hF2 0 rfl
   obtain ⟨a3,H3,ha3,hF3⟩:=Fp.app (k:=1) (a:=a) (sz:=1) (frz:=false) eI64 hF2 rfl hg
   obtain ⟨H4,hw4,hF4⟩:=Fp.setCell (k:=0) (off:=3) (vs:=[a3]) (cs':=Zav p fuel a3 b m) hF3 rfl kr
   replace hF4:Fp H H4 (ZaQ p fuel id m a0 b0 cs0 st0) (ZaQ p fuel id m a3 b cs (pf,g,by_.2)):=hF4
   have hfa3:=Zcq (Fp.get hF4 1 rfl)
   refine sq (rgS ⟨[(0,.ptr id 0),(1,iv i),(5,iv c),(6,iv most),(7,iv x),(8,iv (-1)),(44,iv most),(45,iv x)],[],H4⟩ (Z2.u 4 (ZaF (H:=H2) (id:=id) (off:=3) (cs:=Zav p fuel a b m) (c:=[a]) (r:=a) kr kr hlc2 kr (by cases hfa<;>kernel_rfl) kr)
    (Z2.h (hm:=by cases hfa<;>kernel_rfl) 2 (ZhQ (H:=H2) (a:=a) (b:=Z5 true [x]) (by cases hfa<;>kernel_rfl) (by cases hfa<;>kernel_rfl) (by cases hfa<;>kernel_rfl) kr ha3)
    (Z2.o (hm:=by cases hfa<;>cases hfa3<;>kernel_rfl) 2 (Zbg (H:=H3) (v:=a3) (cs:=[a3]) (p:=.ptr id 3) (by cases hfa3<;>kernel_rfl) (by cases hfa<;>kernel_rfl) (by cases hfa<;>kernel_rfl) (by cases hfa<;>kernel_rfl) (by cases hfa3<;>kernel_rfl) hw4)
    (Z2.f (h:=by cases hfa<;>cases hfa3<;>kernel_rfl))))) (by cases hfa<;>cases hfa3<;>kernel_rfl) ?_)
   refine tq (sq ?_)
   have hlc4:=Fp.get hF4 0 rfl
   refine rgS (s15 id i c most x ((List.length pf:Nat):Int) H4) (Z2.u 3 (ZaF (H:=H4) (id:=id) (off:=4) (cs:=Zav p fuel a3 b m) (c:=[b]) (r:=b) kr kr hlc4 kr (by cases hfb<;>kernel_rfl) kr)
    (Z2.u (hm:=by cases hfb<;>kernel_rfl) 0 (Z9 (ys:=[b]) (by cases hfb<;>kernel_rfl) (ZjL (Fp.get hF4 2 rfl))) (Z2.f (h:=by cases hfb<;>kernel_rfl)))) (by cases hfb<;>kernel_rfl) ?_
   refine tq (sq (sq ?_))
   rcases ZaP hq with ⟨hc5,hq⟩|⟨hc5,hq⟩
   ·obtain rfl:=Zap hq
    dsimp only at h
    cases h
    exact Zlt hlc4 hc5 (tq (ZlM kr (sq (rgS ⟨[(4,bv true)],[],H4⟩ Z2.f kr (tq (rt (tr (tr (br (tr (⟨_,rfl,rfl,a3,b,cs,H4,rfl,hF4⟩)))))))))))
   obtain ⟨q5,hq5,hq⟩:=bs hq
   rcases hrec_ (pf,g,by_.2) (w64 (i+1)) q5 id m a3 b cs H4 hF4.now hq5 with ⟨t,s5,a5,b5,cs5,H5,rfl,hc6,hF5⟩|⟨H5,rfl,hc6,hF5⟩
   ·dsimp only at hq
    replace hF5:Fp H H5 (ZaQ p fuel id m a0 b0 cs0 st0) (ZaQ p fuel id m a5 b5 cs5 s5):=Fp.trans hF4 hF5
    refine Zmu hlc4 hc5 hc6 (tq ?_)
    cases t with
    | true =>
     simp only [ZZ] at hq
     obtain rfl:=Zap hq
     dsimp only at h
     cases h
     exact ZlM kr (sq (rgS ⟨[(4,bv true)],[],H5⟩ Z2.f kr (tq (rt (tr (tr (br (tr (⟨_,rfl,rfl,a5,b5,cs5,H5,rfl,hF5⟩)))))))))
    | false =>
     simp only [Zf,ZW] at hq
     obtain ⟨g6,hg6,hq⟩:=bs hq
     obtain rfl:=Zap hq
     dsimp only at h
     obtain ⟨f7,hf7,h⟩:=bs h
     refine ZmO kr (sk (tq (kq ?_)))
     have hlc5:=Fp.get hF5 0 rfl
     obtain ⟨id6,ver6,a6,H6,ha5,hid6,hm6,hH6,ha6,hF6⟩:=Fp.pop (k:=1) eI64 hF5 rfl hg6
     obtain ⟨H7,hw7,hF7⟩:=Fp.setCell (k:=0) (off:=3) (vs:=[a6]) (cs':=Zav p fuel a6 b5 m) hF6 rfl kr
     replace hF7:Fp H H7 (ZaQ p fuel id m a0 b0 cs0 st0) (ZaQ p fuel id m a6 b5 cs5 (s5.1,g6,s5.2.2)):=hF7
     clear hF6
     subst ha5 ha6
     refine rgS ⟨[(0,.ptr id 0),(1,iv i),(5,iv c),(6,iv most),(7,iv x),(8,iv (-1)),(9,iv ((List.length pf:Nat):Int)),(44,iv most),(45,iv x)],[],H7⟩ (Z2.u 4 (ZaF (H:=H5) (id:=id) (off:=3) (cs:=Zav p fuel (.osl 1 id6 ver6 0 (s5.2.1.map eI64).length) b5 m) (c:=[.osl 1 id6 ver6 0 (s5.2.1.map eI64).length]) (r:=.osl 1 id6 ver6 0 (s5.2.1.map eI64).length) (hl:=hlc5))
      (Z2.h 1 (ZnB (H:=H5) kr kr kr rfl hid6 hm6 hH6 rfl)
      (Z2.o 2 (Zbg (H:=H6) (v:=.osl 1 id6 (ver6+1) 0 i.toNat) (cs:=[.osl 1 id6 (ver6+1) 0 i.toNat]) (p:=.ptr id 3) kr kr kr kr kr hw7)
      Z2.f))) kr ?_
     refine tq (kq (Eq.mp (congrArg _ (show ⟨[(0,.ptr id 0),(1,iv i),(5,iv c),(6,iv most),(7,iv x),(8,iv (-1)),(9,iv ((List.length pf:Nat):Int)),(44,iv most),(45,iv x)],[],H7⟩=_ by kernel_rfl)) (Zh9 hF7 hf7 λH8 cs8 hF8=>(bn (tq (kq (rgS ⟨[(0,.ptr id 0),(1,iv i),(5,iv c),(6,iv most),(44,iv most),(45,iv (w64 (x+1)))],[],H8⟩ Z2.f kr ?_)))))))
     cases h
     exact ⟨_,rfl,_,b5,cs8,H8,rfl,hF8⟩
   dsimp only at hq
   obtain rfl:=Zap hq
   dsimp only at h
   cases h
   refine Zmv hlc4 hc5 hc6 λs hs=>?_
   refine tp (tp (tp (bp (tp ?_))))
   subst hs
   exact ⟨_,rfl,rfl,Fp.trans hF4 hF5⟩
  obtain rfl:=Zap hq
  dsimp only at h
  obtain ⟨f7,hf7,h⟩:=bs h
  refine sk (tq (kq (Eq.mp (congrArg _ (show ⟨[(0,.ptr id 0),(1,iv i),(5,iv c),(6,iv most),(7,iv x),(8,iv by_.1),(9,iv 0),(44,iv most),(45,iv x)],[],H2⟩=_ by kernel_rfl)) (Zh9 hF2 hf7 λH8 cs8 hF8=>(bn (tq (kq (rgS ⟨[(0,.ptr id 0),(1,iv i),(5,iv c),(6,iv most),(44,iv most),(45,iv (w64 (x+1)))],[],H8⟩ Z2.f kr ?_))))))))
  cases h
  exact ⟨_,rfl,a,b,cs8,H8,rfl,hF8⟩
 refine kq (xq (tx ?_))
 cases h
 exact ⟨_,rfl,rfl,a,b,cs,H1,kr,hF1⟩
theorem ZhE (N:Nat)(rec_:Zbh->Int->Option (Option (Bool×Zbh)))(p:Z1)(fuel:Int)(hrec_:ZkW Try.prog p fuel rec_):ZkW Try.prog p fuel (Zct N rec_ p fuel):=by
 intro st i r id m a b cs H hH h
 refine (ZmC ZtH (args:=[.ptr id 0,iv i]) (H:=H) 79 (λrv H'=>∃ (t:Bool) (s':Zbh),r=some (t,s')/\rv=bv t/\∃ a' b' cs',Fp H H' (ZaQ p fuel id m a b cs st) (ZaQ p fuel id m a' b' cs' s')) (λH'=>r=none/\Fp H H' (ZaQ p fuel id m a b cs st) [])
  (λrv H' q=>by obtain ⟨t,s',_,e,_⟩:=q;subst e;rfl) rfl rfl ?_).imp (λ⟨rv,H',h1,t,s',e1,e2,a',b',cs',h2⟩=>⟨t,s',a',b',cs',H',e1,e2 ▸ h1,h2⟩) (λ⟨H',h1,e,h2⟩=>⟨H',e,h1,h2⟩)
 obtain ⟨pf,gv,kn⟩:=st
 unfold Zct at h
 dsimp only at h
 replace hH:=Fp.refl hH
 have hlc:=Fp.get hH 0 rfl
 have hfa:=Zcq (Fp.get hH 1 rfl)
 have hfb:=ZjM (Fp.get hH 2 rfl)
 refine sq (rgS ⟨[(0,.ptr id 0),(1,iv i)],[],H⟩ Z2.f kr (tq (sq ?_)))
 refine rgS ⟨[(0,.ptr id 0),(1,iv i),(5,iv ((List.length pf:Nat):Int))],[],H⟩ (Z2.u 3 (ZaF (H:=H) (id:=id) (off:=4) (cs:=Zav p fuel a b m) (c:=[b]) (r:=b) kr kr hlc kr (by cases hfb<;>kernel_rfl) kr)
  (Z2.u (hm:=by cases hfb<;>kernel_rfl) 0 (Z9 (ys:=[b]) (by cases hfb<;>kernel_rfl) (ZjL (Fp.get hH 2 rfl))) (Z2.f (h:=by cases hfb<;>kernel_rfl)))) (by cases hfb<;>kernel_rfl) ?_
 refine tq (sq (sq (rgS ⟨[(0,.ptr id 0),(1,iv i),(5,iv ((List.length pf:Nat):Int)),(20,bv (decide (((List.length pf:Nat):Int)>fuel)))],[],H⟩ (Z2.u 4 (ZaF (H:=H) (id:=id) (off:=2) (cs:=Zav p fuel a b m) (c:=[iv fuel]) (r:=iv fuel) (hl:=hlc)) Z2.f) kr (tq (it h (λhc h=>?_) (λhc h=>?_))))))
 ·cases h
  exact Ztl (tp (⟨rfl,rfl,Fp.pk hH [] rfl⟩))
 refine sk (tq (kq (sq ?_)))
 obtain ⟨f1,hf1,h⟩:=bs h
 obtain ⟨rfl,hb1,hb2⟩:=ZjS hf1
 obtain ⟨c1,b1,H1,hrw,hap,hF1⟩:=Fp.deepApp (k:=3) (j:=0) (bytes:=32) (Fp.nilArr hH 4 false) rfl rfl (by decide) i (by simpa using hb1) (by simpa using hb2)
 obtain ⟨H2,hw2,hF2⟩:=Fp.setCell (k:=1) (off:=4) (vs:=[b1]) (cs':=Zav p fuel a b1 m) hF1 rfl kr
 replace hF2:Fp H H2 (ZaQ p fuel id m a b cs (pf,gv,kn)) (ZaQ p fuel id m a b1 (cs++[c1]) (pf++[Z3.mk i []],gv,kn)):=by
  have:=Fp.pick hF2 [1,2,3,4] rfl
  unfold ZaQ
  rw [List.map_append]
  exact this
 have hfb1:=ZjM (Fp.get hF2 2 rfl)
 refine rgS ⟨[(0,.ptr id 0),(1,iv i),(5,iv ((List.length pf:Nat):Int))],[],H2⟩ (Z2.u 4 (ZaF (H:=H) (id:=id) (off:=4) (cs:=Zav p fuel a b m) (c:=[b]) (r:=b) kr kr hlc kr (by cases hfb<;>kernel_rfl) kr)
  (Z2.h (hm:=by cases hfb<;>kernel_rfl) 2 (ZnE (H:=H) (ys:=[.agg [iv i,.p (.sl 4 true [])]]) (by cases hfb<;>kernel_rfl) (by cases hfb<;>kernel_rfl) hrw rfl rfl)
  (Z2.h (hm:=by cases hfb<;>kernel_rfl) 0 (ZhQ (H:=H++[.arr 2 0 false [[.int .i64 i,c1]]]) (a:=b) (b:=.osl 2 H.length 0 0 1) (by cases hfb<;>kernel_rfl) (by cases hfb<;>kernel_rfl) (by cases hfb<;>kernel_rfl) (Zmg _ _) hap)
  (Z2.o (hm:=by cases hfb<;>cases hfb1<;>kernel_rfl) 2 (Zbg (H:=H1) (v:=b1) (cs:=[b1]) (p:=.ptr id 4) (by cases hfb1<;>kernel_rfl) (by cases hfb<;>kernel_rfl) (by cases hfb<;>kernel_rfl) (by cases hfb<;>kernel_rfl) (by cases hfb1<;>kernel_rfl) hw2)
  (Z2.f (h:=by cases hfb<;>cases hfb1<;>kernel_rfl)))))) (by cases hfb<;>cases hfb1<;>kernel_rfl) ?_
 refine tq (sq ?_)
 clear hrw hap hf1 hb1 hb2 hF1 hw2
 have hlc2:=Fp.get hF2 0 rfl
 obtain ⟨per,hper,h⟩:=bs h
 refine rgS ⟨[(0,.ptr id 0),(1,iv i),(5,iv ((List.length pf:Nat):Int)),(6,iv per)],[],H2⟩ (Z2.u 4 (ZaF (H:=H2) (id:=id) (off:=0) (cs:=Zav p fuel a b1 m) (c:=[Z5 false p.Periods]) (r:=Z5 false p.Periods) (hl:=hlc2))
  (Z2.u 1 (Z9 (ys:=[Z5 false p.Periods,iv i]) (h:=Z8 eI64 hper)) (Z2.u 0 (Zas (sz:=1) (off:=0) (cs:=[.int .i64 per]) (r:=iv per) eI64 hper) Z2.f))) kr ?_
 refine tq ?_
 obtain ⟨most,hmost,h⟩:=bs h
 refine Zfc [0,1,5,6] (λs=>s=⟨[(0,.ptr id 0),(1,iv i),(5,iv ((List.length pf:Nat):Int)),(6,iv most)],[],H2⟩) ?_ ?_
 ·clear h
  refine sq (rgS ⟨[(0,.ptr id 0),(1,iv i),(5,iv ((List.length pf:Nat):Int)),(6,iv per),(43,bv (i==0))],[],H2⟩ Z2.f kr (tq (it hmost (λhc hb=>?_) (λhc hb=>?_))))
  ·obtain rfl:=Zap hb
   exact rgS ⟨[(0,.ptr id 0),(1,iv i),(5,iv ((List.length pf:Nat):Int)),(6,iv 1)],[],H2⟩ Z2.f kr (⟨rfl,kr⟩)
  obtain rfl:=Zap hb
  exact sk (⟨rfl,kr⟩)
 rintro s hR
 obtain rfl:=hR
 refine sq (sq (rgS ⟨[(0,.ptr id 0),(1,iv i),(5,iv ((List.length pf:Nat):Int)),(6,iv most),(44,iv most),(45,iv 0)],[],H2⟩ Z2.f kr (tq (bk ?_))))
 obtain ⟨o1,ho1,h⟩:=bs h
 refine Zbf ((Za0 (λ(y:Int×Zbh) s=>∃ a2 b2 cs2 H3,s=⟨[(0,.ptr id 0),(1,iv i),(5,iv ((List.length pf:Nat):Int)),(6,iv most),(44,iv most),(45,iv y.1)],[],H3⟩/\Fp H H3 (ZaQ p fuel id m a b cs (pf,gv,kn)) (ZaQ p fuel id m a2 b2 cs2 y.2))
  (λy:Int×Zbh=>Zca N rec_ p i ((List.length pf:Nat):Int) most y.1 y.2)
  (λ(r:Zbh⊕Option Zbh) e s=>match r with
   | .inl s2=>e=.exit 0/\∃ a2 b2 cs2 H2,s=⟨[(0,.ptr id 0),(1,iv i),(5,iv ((List.length pf:Nat):Int)),(6,iv most)],[],H2⟩/\Fp H H2 (ZaQ p fuel id m a b cs (pf,gv,kn)) (ZaQ p fuel id m a2 b2 cs2 s2)
   | .inr q=>match q with
    | none=>e=.panic (pvl 79)/\Fp H s.H (ZaQ p fuel id m a b cs (pf,gv,kn)) []
    | some s2=>e=.ret/\∃ a2 b2 cs2 H2,s=⟨[(4,bv true)],[],H2⟩/\Fp H H2 (ZaQ p fuel id m a b cs (pf,gv,kn)) (ZaQ p fuel id m a2 b2 cs2 s2))
  (λy o s ho hR=>by
   obtain ⟨a2,b2,cs2,H3,rfl,hF3⟩:=hR
   exact ZgS N rec_ p fuel hrec_ (pf,gv,kn) id m a b cs H i ((List.length pf:Nat):Int) most y.1 y.2 o a2 b2 cs2 H3 hF3 ho) N _ o1 _ ho1 ⟨a,b1,cs++[c1],H2,by show _=_;kernel_rfl,hF2⟩).mono ?_)
 rintro e s hq
 rcases o1 with s2|q
 ·dsimp only at h hq
  obtain ⟨rfl,a2,b2,cs2,H3,rfl,hF3⟩:=hq
  have hlc3:=Fp.get hF3 0 rfl
  refine bx (tq (Zfc [] (λs=>∃ (s4:Zbh) (b4:AV) (cs4:List PC) (H4:List HO),r=some (false,s4)/\s=⟨[],[],H4⟩/\Fp H H4 (ZaQ p fuel id m a b cs (pf,gv,kn)) (ZaQ p fuel id m a2 b4 cs4 s4)) ?_ ?_))
  ·refine sq (rgS ⟨[(0,.ptr id 0),(1,iv i),(5,iv ((List.length pf:Nat):Int)),(6,iv most),(112,bv (decide (most<per)))],[],H3⟩ (Z2.u 5 (ZaF (H:=H3) (id:=id) (off:=0) (cs:=Zav p fuel a2 b2 m) (c:=[Z5 false p.Periods]) (r:=Z5 false p.Periods) (hl:=hlc3))
    (Z2.u 1 (Z9 (ys:=[Z5 false p.Periods,iv i]) (h:=Z8 eI64 hper)) (Z2.u 0 (Zas (sz:=1) (off:=0) (cs:=[.int .i64 per]) (r:=iv per) eI64 hper) Z2.f))) kr ?_)
   refine tq (it h (λhc h=>?_) (λhc h=>?_))
   ·obtain ⟨f4,hf4,h⟩:=bs h
    obtain ⟨cs4,H4,hc4,hF4⟩:=ZhS s2.1 ((List.length pf:Nat):Int) ⟨most,per,-2,0⟩ f4 p id m fuel a2 b2 cs2 H3 (Fp.pk hF3 [0,2] rfl).now hf4
    replace hF4:=Fp.callee (rest:=[.arr a2 1 false (s2.2.1.map eI64),smp m s2.2.2]) (Fp.pk hF3 [0,2,1,3] rfl) hF4
    replace hF4:=Fp.pk (H':=H4) (L:=ZaQ p fuel id m a2 b2 cs4 (f4,s2.2)) hF4 [0,2,1,3] rfl
    refine rgS ⟨[],[],H4⟩ (Z2.u 7 (ZaF (H:=H3) (id:=id) (off:=0) (cs:=Zav p fuel a2 b2 m) (c:=[Z5 false p.Periods]) (r:=Z5 false p.Periods) (hl:=hlc3))
     (Z2.u 1 (Z9 (ys:=[Z5 false p.Periods,iv i]) (h:=Z8 eI64 hper)) (Z2.u 0 (Zas (sz:=1) (off:=0) (cs:=[.int .i64 per]) (r:=iv per) eI64 hper)
     (Z2.v 1 (Zdj (H:=H3) (H1:=H3) (ys:=[.ptr id 0,iv ((List.length pf:Nat):Int),.agg (ZbB ⟨most,per,-2,0⟩)]) (args:=[.ptr id 0,iv ((List.length pf:Nat):Int),.agg (ZbB ⟨most,per,-2,0⟩)]) kr kr kr hc4) Z2.f)))) kr ?_
    cases h
    exact ⟨rfl,_,b2,cs4,H4,rfl,kr,hF4⟩
   cases h
   exact sk (⟨rfl,_,b2,cs2,H3,rfl,kr,hF3⟩)
  rintro s ⟨s4,b4,cs4,H4,rfl,rfl,hF4⟩
  exact sq (rgS ⟨[(4,bv false)],[],H4⟩ Z2.f kr (tq (rt (⟨[bv false],kr,false,s4,rfl,rfl,a2,b4,cs4,hF4⟩))))
 rcases q with _|s2
 ·dsimp only at h hq
  obtain ⟨rfl,hF3⟩:=hq
  cases h
  exact bp (tp (⟨rfl,rfl,hF3⟩))
 dsimp only at h hq
 obtain ⟨rfl,a2,b2,cs2,H3,rfl,hF3⟩:=hq
 cases h
 exact br (tr (⟨[bv true],kr,true,s2,rfl,rfl,a2,b2,cs2,hF3⟩))
theorem ZfZ (p:Z1)(fuel:Int):∀ N:Nat,ZkW Try.prog p fuel (Zc5 N p fuel)
 | 0=>λ_ _ _ _ _ _ _ _ _ _ h=>by cases h
 | N+1=>ZhE N (Zc5 N p fuel) p fuel (ZfZ p fuel N)
theorem ZnX (l:List Z3):((l.map dpC).map λr=>[PC.int .i64 r.1,.sl 4 false r.2])=l.map Zao:=by
 rw [List.map_map];rfl
abbrev ZlW (r:List Int×List Z3×Int) (rv:AV) (H':List HO):Prop :=
 ∃ x y b H2,rv=.tup [x,y,iv r.2.2]/\Zak x=true/\Zak y=true/\Zk5 b H' H2/\ZdE H2 x=some (Z5 false r.1)/\ZdE H2 y=some (Zag false r.2.1)
theorem Zey (e:Int)(H:List HO):ZlW ([],[],e) (.tup [.p (.sl 1 true []),.p (.sl 2 true []),iv e]) H :=
 ⟨_,_,.any,H,rfl,rfl,rfl,ZlZ _,rfl,rfl⟩
abbrev sH3:List HO:=[.cells [.p (.sl 1 true [])],.cells [.p (.sl 2 true [])],.cells [iv 0]]
abbrev sH5 (p:Z1) (fuel:Int):List HO:=sH3++[.lp mapL [] (.mp 3 []),.cells (Zav p fuel (.p (.sl 1 true [])) (.p (.sl 2 true [])) 3)]
abbrev ZnI:List ZaL:=[.cel 2 [iv 0],.cel 1 [.p (.sl 2 true [])],.cel 0 [.p (.sl 1 true [])]]
theorem sF5 (p:Z1)(fuel:Int):Fp [] (sH5 p fuel) [] (ZaQ p fuel 4 3 (.p (.sl 1 true [])) (.p (.sl 2 true [])) [] ([],[],[])++ZnI):=by
 have h0:Fp [] [] [] []:=Fp.refl (HP.any [])
 obtain ⟨_,_,rfl,rfl,h1⟩:=Fp.newCell h0 [.p (.sl 1 true [])]
 obtain ⟨_,_,rfl,rfl,h2⟩:=Fp.newCell h1 [.p (.sl 2 true [])]
 obtain ⟨_,_,rfl,rfl,h3⟩:=Fp.newCell h2 [iv 0]
 obtain ⟨_,_,rfl,rfl,h4⟩:=Fp.newMp h3 3
 obtain ⟨_,_,rfl,rfl,h5⟩:=Fp.newCell h4 (Zav p fuel (.p (.sl 1 true [])) (.p (.sl 2 true [])) 3)
 exact Fp.pk (Fp.deepNil (Fp.nilArr h5 1 false) 4) [2,1,0,3,4,5,6] rfl
theorem raw3 {s:St}{H:List HO}{x y z:AV}(h4:get s.fr 4=.ptr 0 0)(h5:get s.fr 5=.ptr 1 0)(h6:get s.fr 6=.ptr 2 0)(g0:H[0]?=some (.cells [x]))(g1:H[1]?=some (.cells [y]))(g2:H[2]?=some (.cells [z]))
  (hx:Zce x=true) (hy:Zce y=true) (hz:Zce z=true):rawL ⟨s.fr,s.bx,H⟩ d9.res=some [x,y,z]:=by
 show rawL _ [.cell 4 1 false,.cell 5 1 false,.cell 6 1 false]=_
 simp [rawL,rawV,h4,h5,h6,rd,g0,g1,g2,sub,mk]
theorem Zcz (N:Nat)(a0_:Z1)(a1_:Int)(r:List Int×List Z3×Int)(h:ZbI N a0_ a1_=some r):Zbk Try.prog 9 [.agg (Z0 a0_),iv a1_] (.tup [Z5 false r.1,Zag false r.2.1,iv r.2.2]):=by
 suffices hs:∃ rv H',ZbE Try.prog 9 [.agg (Z0 a0_),iv a1_] [] rv H'/\ZlW r rv H' by
  obtain ⟨rv,H',h1,x,y,b,H2,rfl,hx,hy,h2,h3,h4⟩:=hs
  exact Zjl h1 rfl rfl h2 rfl (ZmP h3 h4 rfl)
 unfold ZbI at h
 refine Zkt chk9 79 (ZlW r) (λrv H' q=>?_) rfl rfl ?_
 ·obtain ⟨x,y,b,H2,rfl,hx,hy,_⟩:=q
  simp [Zak,Zak.noLocL,hx,hy]
 refine pq1 (rgS ⟨[(1,iv a1_),(2,.loc 2 0),(4,.ptr 0 0),(5,.ptr 1 0),(6,.ptr 2 0)],[(2,Z0 a0_)],sH3⟩ Z2.f kr (pn (pq1 (sq ?_))))
 obtain ⟨e1,he1,h⟩:=bs h
 refine rgS ⟨[(1,iv a1_),(2,.loc 2 0),(4,.ptr 0 0),(5,.ptr 1 0),(6,.ptr 2 0),(7,iv e1)],[(2,Z0 a0_)],sH3⟩ (Z2.v 1 (ZaH (hc:=ZdT N a0_ e1 he1)) Z2.f) kr (tq (sq (rgS ⟨[(1,iv a1_),(2,.loc 2 0),(4,.ptr 0 0),(5,.ptr 1 0),(6,.ptr 2 0),(7,iv e1),(12,bv (e1 != 0))],[(2,Z0 a0_)],sH3⟩ Z2.f kr (tq (it h (λhc h=>?_) (λhc h=>?_))))))
 ·cases h
  exact sq (rgS ⟨[(4,.ptr 0 0),(5,.ptr 1 0),(6,.ptr 2 0)],[],[.cells [.p (.sl 1 true [])],.cells [.p (.sl 2 true [])],.cells [iv e1]]⟩ Z2.f kr (tq (rt (pr (⟨[.p (.sl 1 true []),.p (.sl 2 true []),iv e1],by kernel_rfl,Zey e1 _⟩)))))
 refine sk (pn (pq1 (kq (sq (rgX ⟨[(1,iv a1_),(2,.loc 2 0),(4,.ptr 0 0),(5,.ptr 1 0),(6,.ptr 2 0),(19,bv ((decide (a1_<0))||(decide (a1_>1999))))],[(2,Z0 a0_)],sH3⟩ ?_ ?_)))))
 ·rcases Bool.eq_false_or_eq_true (decide (a1_<0)) with hc|hc
  ·exact (EP.u 1 (Zaa (c:=(decide (a1_<0))) (h:=hc)) (EP.f (by simp only [hc];kernel_rfl)))
  exact (EP.u 1 (Zaa (c:=(decide (a1_<0))) (h:=hc)) (EP.f (by simp only [hc];kernel_rfl)))
 refine tq (it h (λhc h=>?_) (λhc h=>?_))
 ·cases h
  exact sq (rgS ⟨[(4,.ptr 0 0),(5,.ptr 1 0),(6,.ptr 2 0)],[],[.cells [.p (.sl 1 true [])],.cells [.p (.sl 2 true [])],.cells [iv 2]]⟩ Z2.f kr (tq (rt (pr (⟨[.p (.sl 1 true []),.p (.sl 2 true []),iv 2],by kernel_rfl,Zey 2 _⟩)))))
 refine sk (pn (pq1 (kq (sq (rgS ⟨[(1,iv a1_),(2,.loc 2 0),(4,.ptr 0 0),(5,.ptr 1 0),(6,.ptr 2 0),(23,bv (((List.length a0_.Periods:Nat):Int)==0))],[(2,Z0 a0_)],sH3⟩ (Z2.u 2 (Z9 (ys:=[Z5 false a0_.Periods]) (h:=Zaf eI64)) Z2.f) kr (tq (it h (λhc h=>?_) (λhc h=>?_))))))))
 ·cases h
  exact sq (rgS ⟨[(4,.ptr 0 0),(5,.ptr 1 0),(6,.ptr 2 0)],[],[.cells [.p (.sl 1 true [])],.cells [.p (.sl 2 true [])],.cells [iv 0]]⟩ Z2.f kr (tq (rt (pr (⟨[.p (.sl 1 true []),.p (.sl 2 true []),iv 0],by kernel_rfl,Zey 0 _⟩)))))
 refine sk (pn (pk0 (⟨_,22,[.ptr 0 0,.ptr 1 0,.ptr 2 0],AK.z Z2.f,by kernel_rfl,rfl,?_⟩)))
 have hF5:=sF5 a0_ a1_
 refine sq (rgS ⟨[(4,.ptr 0 0),(5,.ptr 1 0),(6,.ptr 2 0),(8,.ptr 4 0)],[],sH5 a0_ a1_⟩ (Z2.h 2 (st_mkMap' (H:=sH3) (id:=3) (H':=sH3++[.lp mapL [] (.mp 3 [])]) 3 kr rfl rfl) (Z2.h 1 (Ze0 (H:=sH3++[.lp mapL [] (.mp 3 [])]) (id:=4) (H':=sH5 a0_ a1_) (v:=.agg (Zav a0_ a1_ (.p (.sl 1 true [])) (.p (.sl 2 true [])) 3)) kr kr kr rfl rfl) Z2.f)) kr (tq (sq (sq ?_))))
 obtain ⟨o,ho,h⟩:=bs h
 have hpre:HP (sH5 a0_ a1_) (ZaQ a0_ a1_ 4 3 (.p (.sl 1 true [])) (.p (.sl 2 true [])) [] ([],[],[])):=Fp.tail (own:=[]) (Fp.pk hF5 [0,1,2,3] rfl)
 rcases ZfZ a0_ a1_ N ([],[],[]) 0 o 4 3 (.p (.sl 1 true [])) (.p (.sl 2 true [])) [] (sH5 a0_ a1_) hpre ho with ⟨t,s5,a5,b5,cs5,H6,rfl,hc6,hF6⟩|⟨H6,rfl,hc6,hF6⟩
 ·dsimp only at h
  replace hF6:Fp [] H6 [] (ZaQ a0_ a1_ 4 3 a5 b5 cs5 s5++ZnI):=Fp.callee hF5 hF6
  have hlc:=Fp.get hF6 0 rfl
  refine Zn1 (rgS ⟨[(4,.ptr 0 0),(5,.ptr 1 0),(6,.ptr 2 0),(8,.ptr 4 0),(31,bv t)],[],H6⟩ (Z2.v 1 (Zdj (H:=sH5 a0_ a1_) (H1:=sH5 a0_ a1_) (ys:=[.ptr 4 0,iv 0]) (args:=[.ptr 4 0,iv 0]) kr kr kr hc6) Z2.f) kr (tq (it h (λhc h=>?_) (λhc h=>?_))))
  ·cases h
   have hfa:=Zcq (Fp.get hF6 1 rfl)
   obtain ⟨H7,hw7,hF7⟩:=Fp.setCell (k:=6) (off:=0) (vs:=[a5]) (cs':=[a5]) hF6 rfl kr
   obtain ⟨H8,hw8,hF8⟩:=Fp.setCell (k:=5) (off:=0) (vs:=[.p (.sl 2 true [])]) (cs':=[.p (.sl 2 true [])]) hF7 rfl kr
   obtain ⟨H9,hw9,hF9⟩:=Fp.setCell (k:=4) (off:=0) (vs:=[iv 0]) (cs':=[iv 0]) hF8 rfl kr
   refine sq (rgS ⟨[(4,.ptr 0 0),(5,.ptr 1 0),(6,.ptr 2 0)],[],H9⟩ (Z2.u 3 (ZaF (H:=H6) (id:=4) (off:=3) (cs:=Zav a0_ a1_ a5 b5 3) (c:=[a5]) (r:=a5) kr kr hlc kr (by cases hfa<;>kernel_rfl) kr)
    (Z2.o (hm:=by cases hfa<;>kernel_rfl) 0 (Zbg (H:=H6) (v:=a5) (cs:=[a5]) (p:=.ptr 0 0) (by cases hfa<;>kernel_rfl) (by cases hfa<;>kernel_rfl) (by cases hfa<;>kernel_rfl) (by cases hfa<;>kernel_rfl) (by cases hfa<;>kernel_rfl) hw7)
    (Z2.o (hm:=by cases hfa<;>kernel_rfl) 0 (Zbg (H:=H7) (v:=.p (.sl 2 true [])) (cs:=[.p (.sl 2 true [])]) (p:=.ptr 1 0) kr (by cases hfa<;>kernel_rfl) (by cases hfa<;>kernel_rfl) (by cases hfa<;>kernel_rfl) kr hw8)
    (Z2.o (hm:=by cases hfa<;>kernel_rfl) 0 (Zbg (H:=H8) (v:=iv 0) (cs:=[iv 0]) (p:=.ptr 2 0) kr (by cases hfa<;>kernel_rfl) (by cases hfa<;>kernel_rfl) (by cases hfa<;>kernel_rfl) kr hw9)
    (Z2.f (h:=by cases hfa<;>kernel_rfl)))))) (by cases hfa<;>kernel_rfl) ?_)
   refine tq (rt (tr ?_))
   have hpa:HP H9 [.arr a5 1 false (s5.2.1.map eI64)]:=hp1 (Fp.get hF9 1 rfl)
   refine ⟨.returning,.returning,H9,[a5,.p (.sl 2 true []),iv 0],.ret,Zg2 Zn0 rfl,raw3 (s:=⟨[(4,.ptr 0 0),(5,.ptr 1 0),(6,.ptr 2 0)],[],H9⟩) rfl rfl rfl (Fp.get hF9 6 rfl) (Fp.get hF9 5 rfl) (Fp.get hF9 4 rfl) (by cases hfa<;>rfl) rfl rfl,?_⟩
   exact ⟨a5,_,.any,H9,rfl,by cases hfa<;>rfl,rfl,ZlZ _,(HP.pure (k:=0) eI64 hpa rfl).2,rfl⟩
  cases h
  refine sk (tq (kq (sq ?_)))
  have hfb:=ZjM (Fp.get hF6 2 rfl)
  obtain ⟨H7,hw7,hF7⟩:=Fp.setCell (k:=6) (off:=0) (vs:=[.p (.sl 1 true [])]) (cs':=[.p (.sl 1 true [])]) hF6 rfl kr
  obtain ⟨H8,hw8,hF8⟩:=Fp.setCell (k:=5) (off:=0) (vs:=[b5]) (cs':=[b5]) hF7 rfl kr
  obtain ⟨H9,hw9,hF9⟩:=Fp.setCell (k:=4) (off:=0) (vs:=[iv 4]) (cs':=[iv 4]) hF8 rfl kr
  refine rqS (hs:=kr) ⟨[(4,.ptr 0 0),(5,.ptr 1 0),(6,.ptr 2 0)],[],H9⟩ (Z2.u 3 (ZkG (H:=H6) (id:=4) (off:=4) (cs:=Zav a0_ a1_ a5 b5 3) (c:=[b5]) (r:=b5) (zs:=[.t 4]) (vs:=[.ptr 0 0]) kr kr hlc kr (by cases hfb<;>kernel_rfl) kr kr rfl)
   (Z2.o (hm:=by cases hfb<;>kernel_rfl) 0 (Zi6 (Zbg (H:=H6) (v:=.p (.sl 1 true [])) (cs:=[.p (.sl 1 true [])]) (p:=.ptr 0 0) kr (by cases hfb<;>kernel_rfl) (by cases hfb<;>kernel_rfl) (by cases hfb<;>kernel_rfl) kr hw7) (by cases hfb<;>kernel_rfl))
   (Z2.o (hm:=by cases hfb<;>kernel_rfl) 0 (Zi6 (Zbg (H:=H7) (v:=b5) (cs:=[b5]) (p:=.ptr 1 0) (by cases hfb<;>kernel_rfl) (by cases hfb<;>kernel_rfl) (by cases hfb<;>kernel_rfl) (by cases hfb<;>kernel_rfl) (by cases hfb<;>kernel_rfl) hw8) (by cases hfb<;>kernel_rfl))
   (Z2.o (hm:=by cases hfb<;>kernel_rfl) 0 (Zi6 (Zbg (H:=H8) (v:=iv 4) (cs:=[iv 4]) (p:=.ptr 2 0) kr (by cases hfb<;>kernel_rfl) (by cases hfb<;>kernel_rfl) (by cases hfb<;>kernel_rfl) kr hw9) (by cases hfb<;>kernel_rfl))
   (Z2.f (h:=by cases hfb<;>kernel_rfl)))))) (by cases hfb<;>kernel_rfl) ?_
  refine tq (rt ?_)
  obtain ⟨a2,a0,a1⟩:=Fp.deepSeal (k:=2) hF9 rfl
  have hpb:HP a2 [.arr b5 2 false (s5.1.map Zao)]:=by
   have:=Fp.get a1 2 rfl
   rw [← ZnX]
   exact hp1 this
  refine ⟨.returning,.returning,H9,[.p (.sl 1 true []),b5,iv 4],.ret,Zg2 Zn0 rfl,raw3 (s:=⟨[(4,.ptr 0 0),(5,.ptr 1 0),(6,.ptr 2 0)],[],H9⟩) rfl rfl rfl (Fp.get hF9 6 rfl) (Fp.get hF9 5 rfl) (Fp.get hF9 4 rfl) rfl (by cases hfb<;>rfl) rfl,?_⟩
  exact ⟨_,b5,b5,a2,rfl,rfl,by cases hfb<;>rfl,a0,rfl,(HP.pure (k:=0) Zao hpb rfl).2⟩
 dsimp only at h
 cases h
 replace hF6:Fp [] H6 [] ([]++ZnI):=Fp.callee hF5 hF6
 obtain ⟨H7,hw7,hF7⟩:=Fp.setCell (k:=2) (off:=0) (vs:=[.p (.sl 1 true [])]) (cs':=[.p (.sl 1 true [])]) hF6 rfl kr
 obtain ⟨H8,hw8,hF8⟩:=Fp.setCell (k:=1) (off:=0) (vs:=[.p (.sl 2 true [])]) (cs':=[.p (.sl 2 true [])]) hF7 rfl kr
 obtain ⟨H9,hw9,hF9⟩:=Fp.setCell (k:=0) (off:=0) (vs:=[iv 8]) (cs':=[iv 8]) hF8 rfl kr
 refine Znw 1 _ rfl (AK.z Z2.f) ⟨trivial,_,_,_,[.ptr 4 0,iv 0],sH5 a0_ a1_,rfl,Pass.frz kr,hc6⟩ [4,5,6] (tp (tp (⟨_,_,H9,[.p (.sl 1 true []),.p (.sl 2 true []),iv 8],.panic,Zlc (s':=⟨[(0,.ptr 0 0),(1,.ptr 1 0),(2,.ptr 2 0)],[],H9⟩) Zn0 rfl ⟨⟨[(0,.ptr 0 0),(1,.ptr 1 0),(2,.ptr 2 0)],[],H7⟩,?_,⟨[(0,.ptr 0 0),(1,.ptr 1 0),(2,.ptr 2 0)],[],H8⟩,?_,_,?_,rfl⟩ rfl,raw3 kr kr kr (Fp.get hF9 2 rfl) (Fp.get hF9 1 rfl) (Fp.get hF9 0 rfl) rfl rfl rfl,Zey 8 _⟩)))
 ·exact Zbg (P:=Try.prog) (H:=H6) (v:=.p (.sl 1 true [])) (cs:=[.p (.sl 1 true [])]) (p:=.ptr 0 0) kr kr kr kr kr hw7
 ·exact Zbg (P:=Try.prog) (H:=H7) (v:=.p (.sl 2 true [])) (cs:=[.p (.sl 2 true [])]) (p:=.ptr 1 0) kr kr kr kr kr hw8
 exact Zbg (P:=Try.prog) (H:=H8) (v:=iv 8) (cs:=[iv 8]) (p:=.ptr 2 0) kr kr kr kr kr hw9
theorem ZcA (N:Nat)(a0_:Z1)(a1_:Int)(a2_:(List Int))(r:Bool)(h:ZdY N a0_ a1_ a2_=some r):Zbk Try.prog 14 [.agg (Z0 a0_),iv a1_,Z5 false a2_] (bv r):=by
 unfold ZdY at h
 have hH  := hp0
 refine ZaK ZtO rfl rfl (Zaj _ _ _ ?_) rfl
 refine sq (rg Z2.f (tq (sq ?_)))
 obtain ⟨r1,hr1,h⟩:=bs h
 refine rg (Z2.v 2 (ZaH (hc:=Zcz N a0_ a1_ r1 hr1)) Z2.f) (tq (sq ?_))
 obtain ⟨j7,hj,h⟩:=bs h
 refine rgR (λs=>s=⟨[(6,bv j7)],[],[]⟩) ?_ ?_
 ·clear h
  rcases ZaP hj with ⟨hc2,hj⟩|⟨hc6,hj⟩
  ·refine (EP.u 1 (Zaa (c:=(r1.2.2==0)) (h:=hc2)) (EP.u 2 (Z9 (ys:=[Zag false r1.2.1]) (h:=Zaf Zao)) ?_))
   rcases ZaP hj with ⟨hc3,hj⟩|⟨hc5,hj⟩
   ·refine (EP.u 0 (Zaa (c:=(((List.length r1.2.1:Nat):Int)==0)) (h:=hc3)) ?_)
    obtain ⟨r4,hr4,hj⟩:=bs hj
    obtain rfl:=Zap hj
    exact (EP.v 4 (ZaH (hc:=ZdD N r1.1 a2_ r4 hr4)) (EP.f kr))
   obtain rfl:=Zap hj
   exact (EP.u 0 (Zaa (c:=(((List.length r1.2.1:Nat):Int)==0)) (h:=hc5)) (EP.f kr))
  obtain rfl:=Zap hj
  exact (EP.u 1 (Zaa (c:=(r1.2.2==0)) (h:=hc6)) (EP.f kr))
 clear hj
 rintro s hR
 obtain rfl:=hR
 refine tq (rt ?_)
 cases h
 exact Zat kr
theorem Zb4 (N:Nat)(a0_:Z1)(a1_:Int)(a2_:Int)(r:Bool)(h:Zdb N a0_ a1_ a2_=some r):Zbk Try.prog 15 [.agg (Z0 a0_),iv a1_,iv a2_] (bv r):=by
 unfold Zdb at h
 have hH  := hp0
 refine ZaK ZtN rfl rfl (Zaj _ _ _ ?_) rfl
 refine sq (rg Z2.f (tq (sq ?_)))
 obtain ⟨r1,hr1,h⟩:=bs h
 refine rg (Z2.v 2 (ZaH (hc:=Zcz N a0_ a1_ r1 hr1)) Z2.f) (tq (sq (rgX ⟨[(6,bv ((r1.2.2==a2_)&&((((List.length r1.1:Nat):Int)==0)&&((decide (((List.length r1.2.1:Nat):Int)>0))==(r1.2.2==4)))))],[],[]⟩ ?_ ?_)))
 ·rcases Bool.eq_false_or_eq_true (r1.2.2==a2_) with hc2|hc5
  ·refine (EP.u 2 (Zaa (c:=(r1.2.2==a2_)) (h:=hc2)) (EP.u 2 (Z9 (ys:=[Z5 false r1.1]) (h:=Zaf eI64)) ?_))
   rcases Bool.eq_false_or_eq_true (((List.length r1.1:Nat):Int)==0) with hc3|hc4
   ·exact (EP.u 0 (Zaa (c:=(((List.length r1.1:Nat):Int)==0)) (h:=hc3)) (EP.u 3 (Z9 (ys:=[Zag false r1.2.1]) (h:=Zaf Zao)) (EP.f (by simp only [hc2,hc3];kernel_rfl))))
   exact (EP.u 0 (Zaa (c:=(((List.length r1.1:Nat):Int)==0)) (h:=hc4)) (EP.f (by simp only [hc2,hc4];kernel_rfl)))
  exact (EP.u 2 (Zaa (c:=(r1.2.2==a2_)) (h:=hc5)) (EP.f (by simp only [hc5];kernel_rfl)))
 refine tq (rt ?_)
 cases h
 exact Zat kr
theorem Zjj (N:Nat)(a0_:Z1)(a1_:(List Int))(r:Bool×Int)(h:Zej N a0_ a1_=some r):Zbk Try.prog 18 [.agg (Z0 a0_),Z5 false a1_] (.tup [bv r.1,iv r.2]):=by
 unfold Zej at h
 have hH  := hp0
 refine ZaK ZtK rfl rfl (Zaj _ _ _ ?_) rfl
 refine sq (rg Z2.f (tq (sq (sq ?_))))
 obtain ⟨r1,hr1,h⟩:=bs h
 refine rg (Z2.v 1 (ZaH (hc:=ZdT N a0_ r1 hr1)) Z2.f) (tq (sq (rg Z2.f (tq (it h (λhc2 h=>?_) (λhc2 h=>?_))))))
 ·refine sq (rg Z2.f (tq (rt (tr ?_))))
  cases h
  exact Zat kr
 refine sk (tq (kq (sq (sq (rg (Z2.u 1 (Z9 (ys:=[Z5 false a1_]) (h:=Zaf eI64)) (Z2.u 2 (Z9 (ys:=[Z5 false a0_.Periods]) (h:=Zaf eI64)) Z2.f)) (tq (it h (λhc3 h=>?_) (λhc3 h=>?_))))))))
 ·refine sq (rg Z2.f (tq (rt (tr ?_))))
  cases h
  exact Zat kr
 refine sk (tq (kq (sq (sq (rg (Z2.u 1 (Z9 (ys:=[Z5 false a1_]) (h:=Zaf eI64)) Z2.f) (tq (bk ?_)))))))
 obtain ⟨al,ab,h⟩:=bs h
 refine Zbf ((Za0 (λ(x:Int) s=>s=⟨[(1,Z5 false a1_),(2,.loc 2 0),(24,Z5 false a1_),(25,iv ((List.length a1_:Nat):Int)),(26,iv x)],[(2,(Z0 a0_))],[]⟩) (λx:Int=>Zcd N a0_ a1_ x) (λ(p:(Unit)⊕(Bool×Int)) e s=>match p with|(.inl p)=>e=.exit 0/\(s=⟨[(1,Z5 false a1_),(2,.loc 2 0)],[(2,(Z0 a0_))],[]⟩)|(.inr p)=>e=.ret/\∃ xs,resL s i18.res=some xs/\Zbu xs=.tup [bv p.1,iv p.2]) ?_ N _ al _ ab kr).mono ?_)
 ·clear h ab
  rintro i4 o s h hR
  obtain rfl:=hR
  replace h:Zcd N a0_ a1_ i4=some o:=h
  unfold Zcd at h
  refine sq (rg Z2.f (tq (sq (it h (λao h=>?_) (λao h=>?_)))))
  ·refine sk (tq (kq (sq (bk (sq ?_)))))
   obtain ⟨aj,ac,h⟩:=bs h
   refine rg (Z2.u 1 (Z9 (ys:=[Z5 false a1_,iv i4]) (h:=Z8 eI64 ac)) (Z2.u 0 (Zas (sz:=1) (off:=0) (cs:=[.int .i64 aj]) (r:=iv aj) eI64 ac) Z2.f)) (tq (sq ?_))
   obtain ⟨ap,am,h⟩:=bs h
   refine rg (Z2.v 3 (ZaH (hc:=Zdv N a0_ i4 aj ap am)) Z2.f) (tq (it h (λan h=>?_) (λan h=>?_)))
   ·refine sq (rg Z2.f (tq (rt (br (tr ?_)))))
    cases h
    exact ⟨_,rfl,rfl,Zat kr⟩
   refine sk (bn (tq (kq (rg Z2.f ?_))))
   cases h
   exact ⟨_,rfl,kr⟩
  refine kq (xq (tx ?_))
  cases h
  exact ⟨_,rfl,rfl,kr⟩
 rintro e s hq
 rcases al with ax|aq
 ·dsimp only at h hq
  obtain ⟨rfl,hR⟩:=hq
  obtain rfl:=hR
  refine bx (tq (sq (sq (rg (Z2.u 1 (Z9 (ys:=[Z5 false a1_]) (h:=Zaf eI64)) Z2.f) (tq (bk ?_))))))
  obtain ⟨a9,a4,h⟩:=bs h
  refine Zbf ((Za0 (λ(x:Int) s=>s=⟨[(1,Z5 false a1_),(2,.loc 2 0),(37,Z5 false a1_),(38,iv ((List.length a1_:Nat):Int)),(39,iv x)],[(2,(Z0 a0_))],[]⟩) (λx:Int=>Zcc N a0_ a1_ x) (λ(p:(Unit)⊕(Bool×Int)) e s=>match p with|(.inl p)=>e=.exit 2/\(s=⟨[],[],[]⟩)|(.inr p)=>e=.ret/\∃ xs,resL s i18.res=some xs/\Zbu xs=.tup [bv p.1,iv p.2]) ?_ N _ a9 _ a4 kr).mono ?_)
  ·clear h a4
   rintro a2 o s h hR
   obtain rfl:=hR
   replace h:Zcc N a0_ a1_ a2=some o:=h
   unfold Zcc at h
   refine sq (rg Z2.f (tq (sq (it h (λai h=>?_) (λai h=>?_)))))
   ·refine sk (tq (kq (sq (bk (sq ?_)))))
    obtain ⟨a1,a7,h⟩:=bs h
    refine rg (Z2.u 1 (Z9 (ys:=[Z5 false a1_,iv a2]) (h:=Z8 eI64 a7)) (Z2.u 0 (Zas (sz:=1) (off:=0) (cs:=[.int .i64 a1]) (r:=iv a1) eI64 a7) Z2.f)) (tq (sq ?_))
    obtain ⟨a0,ae,h⟩:=bs h
    refine rg (Z2.u 3 (Z9 (ys:=[Z5 false a1_,iv (w64 (a2+1))]) (h:=Ziq eI64 ae)) (Z2.u 0 (Z9 (ys:=[Z5 false a0]) (h:=Zaf eI64)) Z2.f)) (tq (bk ?_))
    obtain ⟨aa,a5,h⟩:=bs h
    refine Zbf ((Za0 (λ(x:Int) s=>s=⟨[(1,Z5 false a1_),(2,.loc 2 0),(9,iv a2),(10,iv a1),(37,Z5 false a1_),(38,iv ((List.length a1_:Nat):Int)),(39,iv a2),(47,Z5 false a0),(48,iv ((List.length a0:Nat):Int)),(49,iv x)],[(2,(Z0 a0_))],[]⟩) (λx:Int=>Zcb N a0_ a2 a1 a0 x) (λ(p:(Unit)⊕(Bool×Int)) e s=>match p with|(.inl p)=>e=.exit 4/\(s=⟨[(1,Z5 false a1_),(2,.loc 2 0),(37,Z5 false a1_),(38,iv ((List.length a1_:Nat):Int)),(39,iv a2)],[(2,(Z0 a0_))],[]⟩)|(.inr p)=>e=.ret/\∃ xs,resL s i18.res=some xs/\Zbu xs=.tup [bv p.1,iv p.2]) ?_ N _ aa _ a5 kr).mono ?_)
    ·clear h a5
     rintro a3 o s h hR
     obtain rfl:=hR
     replace h:Zcb N a0_ a2 a1 a0 a3=some o:=h
     unfold Zcb at h
     refine sq (rg Z2.f (tq (sq (it h (λag h=>?_) (λag h=>?_)))))
     ·refine sk (tq (kq (sq (bk (sq ?_)))))
      obtain ⟨a8,a6,h⟩:=bs h
      refine rg (Z2.u 1 (Z9 (ys:=[Z5 false a0,iv a3]) (h:=Z8 eI64 a6)) (Z2.u 0 (Zas (sz:=1) (off:=0) (cs:=[.int .i64 a8]) (r:=iv a8) eI64 a6) Z2.f)) (tq (sq ?_))
      obtain ⟨ak,ad,h⟩:=bs h
      refine rg (Z2.v 5 (ZaH (hc:=Zd9 N a0_ a3 a8 a2 a1 ak ad)) Z2.f) (tq (it h (λaf h=>?_) (λaf h=>?_)))
      ·refine sq (rg Z2.f (tq (rt (br (tr ?_)))))
       cases h
       exact ⟨_,rfl,rfl,Zat kr⟩
      refine sk (bn (tq (kq (rg Z2.f ?_))))
      cases h
      exact ⟨_,rfl,kr⟩
     refine kq (xq (tx ?_))
     cases h
     exact ⟨_,rfl,rfl,kr⟩
    rintro e s hq
    rcases aa with aw|av
    ·dsimp only at h hq
     obtain ⟨rfl,hR⟩:=hq
     obtain rfl:=hR
     refine bx (bn (tq (rg Z2.f ?_)))
     cases h
     exact ⟨_,rfl,kr⟩
    dsimp only at h hq
    obtain ⟨rfl,hq⟩:=hq
    refine br (br (tr ?_))
    cases h
    exact ⟨_,rfl,rfl,hq⟩
   refine kq (xq (tx ?_))
   cases h
   exact ⟨_,rfl,rfl,kr⟩
  rintro e s hq
  rcases a9 with au|ar
  ·dsimp only at h hq
   obtain ⟨rfl,hR⟩:=hq
   obtain rfl:=hR
   refine bx (tq (sq (rg Z2.f (tq (rt ?_)))))
   cases h
   exact Zat kr
  dsimp only at h hq
  obtain ⟨rfl,hq⟩:=hq
  refine br (tr ?_)
  cases h
  exact hq
 dsimp only at h hq
 obtain ⟨rfl,hq⟩:=hq
 refine br (tr ?_)
 cases h
 exact hq
theorem ZhM (N:Nat)(r:Bool)(h:Zda N=some r):Zbk Try.prog 13 [] (bv r):=by
 unfold Zda at h
 have hH  := hp0
 refine ZaK ZtP rfl rfl (Zaj _ _ _ ?_) rfl
 refine sq (rg Z2.f (tq (sq ?_)))
 obtain ⟨r1,hr1,h⟩:=bs h
 obtain ⟨r2,hr2,h⟩:=bs h
 refine rg (Z2.v 0 (ZaH (hc:=ZeW N 2 1 1 r1 hr1)) (Z2.v 0 (ZaH (hc:=ZeW N 2 2 1 r2 hr2)) Z2.f)) (tq (sq ?_))
 obtain ⟨r3,hr3,h⟩:=bs h
 refine rg (Z2.v 1 (ZaH (hc:=Zcz N r2 2 r3 hr3)) Z2.f) (tq (sq (rg Z2.f (tq (sq ?_)))))
 obtain ⟨af,hj,h⟩:=bs h
 refine rgR (λs=>s=⟨[(0,bv af)],[],[]⟩) ?_ ?_
 ·clear h
  obtain ⟨r4,hr4,hj⟩:=bs hj
  rcases ZaP hj with ⟨hc5,hj⟩|⟨a3,hj⟩
  ·refine (EP.h 2 (Zcx kr (ZcA N r1 9 ([0,2,3]) r4 hr4) hc5) ?_)
   obtain ⟨r6,hr6,hj⟩:=bs hj
   rcases ZaP hj with ⟨hc7,hj⟩|⟨a4,hj⟩
   ·refine (EP.h 2 (Zcx kr (Zb4 N r1 1 8 r6 hr6) hc7) ?_)
    obtain ⟨r8,hr8,hj⟩:=bs hj
    rcases ZaP hj with ⟨hc9,hj⟩|⟨a5,hj⟩
    ·refine (EP.h 4 (Zcx kr (ZcA N r1 2 ([0,2,3]) r8 hr8) hc9) ?_)
     rcases ZaP hj with ⟨ab,hj⟩|⟨a6,hj⟩
     ·refine (EP.u 3 (Zaa (c:=(r3.2.2==4)) (h:=ab)) ?_)
      obtain ⟨ad,a1,hj⟩:=bs hj
      rcases ZaP hj with ⟨aa,hj⟩|⟨a7,hj⟩
      ·refine (EP.h 4 (Zcx kr (Zfk N r3.2.1 ([(Z3.mk 0 ([(Zan.mk 0 1 (-1) 1),(Zan.mk 1 4 (-2) 0)])),(Z3.mk 1 ([(Zan.mk 0 2 0 0),(Zan.mk 2 3 (-1) 2),(Zan.mk 3 4 0 0)])),(Z3.mk 2 ([(Zan.mk 0 2 0 0),(Zan.mk 2 4 1 0)]))]) ad a1) aa) ?_)
       obtain ⟨ac,a0,hj⟩:=bs hj
       rcases ZaP hj with ⟨a9,hj⟩|⟨a8,hj⟩
       ·refine (EP.h 3 (Zcx kr (Zb4 N r2 1 8 ac a0) a9) ?_)
        obtain ⟨ae,a2,hj⟩:=bs hj
        obtain rfl:=Zap hj
        exact (EP.v 3 (ZaH (hc:=Zb4 N r2 2000 2 ae a2)) (EP.f kr))
       obtain rfl:=Zap hj
       exact (EP.h 3 (Zcx kr (Zb4 N r2 1 8 ac a0) a8) (EP.f kr))
      obtain rfl:=Zap hj
      exact (EP.h 4 (Zcx kr (Zfk N r3.2.1 ([(Z3.mk 0 ([(Zan.mk 0 1 (-1) 1),(Zan.mk 1 4 (-2) 0)])),(Z3.mk 1 ([(Zan.mk 0 2 0 0),(Zan.mk 2 3 (-1) 2),(Zan.mk 3 4 0 0)])),(Z3.mk 2 ([(Zan.mk 0 2 0 0),(Zan.mk 2 4 1 0)]))]) ad a1) a7) (EP.f kr))
     obtain rfl:=Zap hj
     exact (EP.u 3 (Zaa (c:=(r3.2.2==4)) (h:=a6)) (EP.f kr))
    obtain rfl:=Zap hj
    exact (EP.h 4 (Zcx kr (ZcA N r1 2 ([0,2,3]) r8 hr8) a5) (EP.f kr))
   obtain rfl:=Zap hj
   exact (EP.h 2 (Zcx kr (Zb4 N r1 1 8 r6 hr6) a4) (EP.f kr))
  obtain rfl:=Zap hj
  exact (EP.h 2 (Zcx kr (ZcA N r1 9 ([0,2,3]) r4 hr4) a3) (EP.f kr))
 clear hj
 rintro s hR
 obtain rfl:=hR
 refine tq (rt ?_)
 cases h
 exact Zat kr
theorem Zgq (N:Nat)(a0_:Z1)(a1_:(List Int))(H:List HO)(hH:HP H [])(r:(List Int))(h:ZcV N a0_ a1_=some r):∃ (or_0_0_:AV) (H':List HO),ZbE Try.prog 17 [.agg (Z0 a0_),ZbK false a1_] H (or_0_0_) H'/\Fp H H' [] [.arr or_0_0_ 1 false (List.map eI64 r)]:=by
 suffices hs:∃ r' H',ZbE Try.prog 17 [.agg (Z0 a0_),ZbK false a1_] H r' H'/\∃ (or_0_0_:AV),r'=or_0_0_/\Fp H H' [] [.arr or_0_0_ 1 false (List.map eI64 r)] by
  obtain ⟨_,H',h1,or_0_0_,he,h2⟩:=hs
  exact ⟨or_0_0_,H',he ▸ h1,h2⟩
 unfold ZcV at h
 replace hH:=Fp.refl hH
 refine Zks ZtL [] (λr' H'=>∃ (or_0_0_:AV),r'=or_0_0_/\Fp H H' [] [.arr or_0_0_ 1 false (List.map eI64 r)]) (λr' H' q=>by obtain ⟨or_0_0_,e,hp⟩:=q;subst e;have hfor_0_0_:=Zcq (Fp.get hp 0 rfl);show Zak _=true;cases hfor_0_0_<;>rfl) rfl kr (sq (rg Z2.f (tq (sq (rg Z2.f (tq (sq (sq (rg Z2.f (tq (bk ?_)))))))))))
 obtain ⟨ad,a5,h⟩:=bs h
 refine Zbf ((Za0 (λ(x:Int×(List Int)) s=>∃ (a1:AV) (H2:List HO),s=⟨[(1,ZbK false a1_),(2,.loc 2 0),(5,a1),(6,iv x.1)],[(2,(Z0 a0_))],H2⟩/\Fp H H2 [] [.arr a1 1 false (List.map eI64 x.2)]) (λx:Int×(List Int)=>Zb6 N a0_ a1_ x.1 x.2) (λ(p:(List Int)) e s=>e=.exit 0/\(∃ (a3:AV) (ac:List HO),s=⟨[(5,a3)],[],ac⟩/\Fp H ac [] [.arr a3 1 false (List.map eI64 p)])) ?_ N _ ad _ a5 ⟨(.p (.sl 1 true [])),H,kr,(Fp.pick (Fp.nilArr hH 1 false) [0] rfl)⟩).mono ?_)
 ·clear h a5
  rintro ⟨i3,l4⟩ o s h hR
  obtain ⟨a1,H2,rfl,hH⟩:=hR
  replace hH:Fp _ _ _ [.arr a1 1 false (List.map eI64 l4)]:=hH
  have hfa1:=Zcq (Fp.get hH 0 rfl)
  replace h:Zb6 N a0_ a1_ i3 l4=some o:=h
  unfold Zb6 at h
  refine sq (sq (rgS ⟨[(1,ZbK false a1_),(2,.loc 2 0),(5,a1),(6,iv i3),(12,bv (decide (i3<((List.length a0_.Periods:Nat):Int))))],[(2,(Z0 a0_))],H2⟩ (Z2.u 3 (Z9 (ys:=[Z5 false a0_.Periods]) (h:=Zaf eI64)) Z2.f) (by cases hfa1<;>kernel_rfl) (tq (it h (λam h=>?_) (λam h=>?_)))))
  ·refine sk (tq (kq (sq (bk (sq (rgS ⟨[(1,ZbK false a1_),(2,.loc 2 0),(5,a1),(6,iv i3),(7,iv 0)],[(2,(Z0 a0_))],H2⟩ Z2.f (by cases hfa1<;>kernel_rfl) (tq ?_)))))))
   obtain ⟨ae,a6,h⟩:=bs h
   refine Zfc [1,2,5,6,7] (λs=>s=⟨[(1,ZbK false a1_),(2,.loc 2 0),(5,a1),(6,iv i3),(7,iv ae)],[(2,(Z0 a0_))],H2⟩) ?_ ?_
   ·clear h
    have h:=a6
    refine sq (rgS ⟨[(1,ZbK false a1_),(2,.loc 2 0),(5,a1),(6,iv i3),(7,iv 0),(18,bv (decide (i3<((List.length a1_:Nat):Int))))],[(2,(Z0 a0_))],H2⟩ (Z2.u 2 (Z9 (ys:=[ZbK false a1_]) (h:=Zaf (eI .u8))) Z2.f) (by cases hfa1<;>kernel_rfl) (tq (it h (λai h=>?_) (λai h=>?_))))
    ·obtain ⟨aa,a8,h⟩:=bs h
     obtain ⟨a9,a7,h⟩:=bs h
     obtain ⟨ak,af,h⟩:=bs h
     refine rqS ⟨[(1,ZbK false a1_),(2,.loc 2 0),(5,a1),(6,iv i3),(7,iv ak)],[(2,(Z0 a0_))],H2⟩ (Z2.u 2 (Z9 (ys:=[ZbK false a1_,iv i3]) (h:=Z8 (eI .u8) a8)) (Z2.u 0 (Za5 (Zas (sz:=1) (off:=0) (cs:=[.int .u8 aa]) (r:=.p (.int .u8 aa)) (eI .u8) a8)) (Z2.u 4 (Z9 (ys:=[Z5 false a0_.Periods,iv i3]) (h:=Z8 eI64 a7)) (Z2.u 0 (Za5 (Zas (sz:=1) (off:=0) (cs:=[.int .i64 a9]) (r:=iv a9) eI64 a7)) (Z2.u 0 (Z9 (ys:=[iv (w64 (aa)),iv a9]) (h:=Zbx af)) Z2.f))))) (by cases hfa1<;>kernel_rfl) ?_
     cases h
     exact ⟨rfl,(by show _=_;cases hfa1<;>kernel_rfl)⟩
    refine sk ?_
    cases h
    exact ⟨rfl,(by show _=_;cases hfa1<;>kernel_rfl)⟩
   clear a6
   rintro s hR
   obtain rfl:=hR
   obtain ⟨al,ag,h⟩:=bs h
   obtain ⟨a4,ab,aj,hH⟩:=Fp.app (k:=0) (a:=a1) (sz:=1) (frz:=false) eI64 hH rfl ag
   replace hH:Fp _ _ _ [.arr a4 1 false (List.map eI64 al)]:=hH
   have a0:=Zcq (Fp.get hH 0 rfl)
   refine rgS ⟨[(1,ZbK false a1_),(2,.loc 2 0),(5,a4),(6,iv i3)],[(2,(Z0 a0_))],ab⟩ (Z2.h 3 (ZhQ (H:=H2) (a:=a1) (b:=Z5 true [ae]) (by cases hfa1<;>kernel_rfl) (by cases hfa1<;>kernel_rfl) (by cases hfa1<;>kernel_rfl) (by cases hfa1<;>kernel_rfl) aj) Z2.f) (by cases hfa1<;>cases a0<;>kernel_rfl) (bn (tq (kq (rgS ⟨[(1,ZbK false a1_),(2,.loc 2 0),(5,a4),(6,iv (w64 (i3+1)))],[(2,(Z0 a0_))],ab⟩ Z2.f (by cases a0<;>kernel_rfl) ?_))))
   cases h
   exact ⟨_,rfl,⟨a4,ab,(by show _=_;cases a0<;>kernel_rfl),(Fp.pick hH [0] rfl)⟩⟩
  refine kq (xq (tx ?_))
  cases h
  exact ⟨_,rfl,rfl,⟨a1,H2,(by show _=_;cases hfa1<;>kernel_rfl),(Fp.pick hH [0] rfl)⟩⟩
 rintro e s hq
 obtain ⟨rfl,hR⟩:=hq
 obtain ⟨a3,ac,rfl,hH⟩:=hR
 replace hH:Fp _ _ _ [.arr a3 1 false (List.map eI64 ad)]:=hH
 have a2:=Zcq (Fp.get hH 0 rfl)
 refine bx (tq (sq (rgS ⟨[(4,a3)],[],ac⟩ Z2.f (by cases a2<;>kernel_rfl) (tq (rt ?_)))))
 cases h
 exact ⟨[a3],(by cases a2<;>kernel_rfl),a3,(by cases a2<;>kernel_rfl),Fp.pk hH [0] rfl⟩
end Go.Sh

