/- Part of the proof. -/
import Derived.Test.YthhhjjjbpcaadaaSolveTellsOk1
set_option linter.all false
namespace Go.Sh
open Go Go.Eng Go.Proofs
set_option maxRecDepth 100000
set_option maxHeartbeats 4000000
attribute [local irreducible] vc ev ZcU opsD opsF Zf8 upd updH updO
abbrev ZaK (p:Z6) (fuel:Int) (a b:AV) (m:Nat):List AV:=[Zak false p.Periods,Zaj false p.Uses,iv fuel,a,b,.map m]
abbrev smp (m:Nat) (known:slvK):ZaL:=mpT m 3 (encE Zcl bv known)
theorem ZgH (N:Nat)(p:Z6)(known:slvK)(i x j y:Int)(r:Bool×slvK)(id m:Nat)(fuel:Int)(a b:AV)(H:List HO)(hH:HP H [.cel id (ZaK p fuel a b m),smp m known])(h:Zeb N p known i x j y=some r) :
  ∃ H',ZbQ Try.prog 45 [.ptr id 0,iv i,iv x,iv j,iv y] H (bv r.1) H'/\Fp H H' [.cel id (ZaK p fuel a b m),smp m known] [.cel id (ZaK p fuel a b m),smp m r.2]:=by
 unfold Zeb at h
 replace hH:=Fp.refl hH
 refine Zdj ZwB (λH'=>Fp H H' [.cel id (ZaK p fuel a b m),smp m known] [.cel id (ZaK p fuel a b m),smp m r.2]) rfl rfl rfl ?_
 have hlc:=Fp.get hH 0 rfl
 refine sq (rg Z7.f (tq (sq ?_)))
 obtain ⟨e1,he1,h⟩:=bs h
 refine rgS ⟨[(0,.ptr id 0),(1,iv i),(2,iv x),(3,iv j),(4,iv y),(11,iv e1)],[],H⟩ (Z7.u 4 (ZaH (H:=H) (id:=id) (off:=0) (cs:=ZaK p fuel a b m) (c:=[Zak false p.Periods]) (r:=Zak false p.Periods) (hl:=hlc)) (Z7.u 1 (Zaf (ys:=[Zak false p.Periods,iv i]) (h:=Zai eI64 he1)) (Z7.u 0 (Zay (sz:=1) (off:=0) (cs:=[.int .i64 e1]) (r:=iv e1) eI64 he1) Z7.f))) kr (tq (sq ?_))
 obtain ⟨m1,hm1,h⟩:=bs h
 obtain ⟨m2,hm2,h⟩:=bs h
 refine rgS ⟨[(0,.ptr id 0),(12,.loc 12 0)],[(12,[iv i,iv m2,iv j])],H⟩ (Z7.u 5 (Zaf (ys:=[iv (w64 (x-y)),iv e1]) (h:=ZbK hm1)) (Z7.u 3 (Zaf (ys:=[iv (w64 (m1+e1)),iv e1]) (h:=ZbK hm2)) Z7.f)) kr (tq (sq ?_))
 have hlm:=Fp.get hH 1 rfl
 refine rqS ⟨[(0,.ptr id 0),(12,.loc 12 0),(13,bv (ZiF known (ZaW.mk i m2 j) false)),(14,bv (mhas known (ZaW.mk i m2 j)))],[(12,[iv i,iv m2,iv j])],H⟩ (Z7.u 3 (Zbp (ZaH (H:=H) (id:=id) (off:=5) (cs:=ZaK p fuel a b m) (c:=[.map m]) (r:=.map m) (hl:=hlc)))
  (Z7.u 1 (Zkf (H:=H) (id:=m) (kn:=3) (ke:=Zcl) (ve:=bv) (l:=known) (x:=(ZaW.mk i m2 j)) (z:=false) (r:=.tup [bv (ZiF known (ZaW.mk i m2 j) false),bv (mhas known (ZaW.mk i m2 j))]) kr kr hlm kr kr (λ_=>rfl)) Z7.f)) kr ?_
 refine tq (Zen [13] (λs=>∃ H1,s=⟨[(13,bv r.1)],[],H1⟩/\Fp H H1 [.cel id (ZaK p fuel a b m),smp m known] [.cel id (ZaK p fuel a b m),smp m r.2]) ?_ ?_)
 ·refine sq (rgS ⟨[(0,.ptr id 0),(12,.loc 12 0),(13,bv (ZiF known (ZaW.mk i m2 j) false)),(45,bv (!(mhas known (ZaW.mk i m2 j))))],[(12,[iv i,iv m2,iv j])],H⟩ Z7.f kr (tq (it h (λhc h=>?_) (λhc h=>?_))))
  ·obtain ⟨r1,hr1,h⟩:=bs h
   cases h
   refine sq (rqS ⟨[(0,.ptr id 0),(12,.loc 12 0),(13,bv r1.1)],[(12,[iv i,iv m2,iv j])],H⟩ (Z7.u 3 (Zbp (ZaH (H:=H) (id:=id) (off:=0) (cs:=ZaK p fuel a b m) (c:=Z5 p) (r:=.agg (Z5 p)) (hl:=hlc))) (Z7.v 6 (ZaM (hc:=ZeH N p i m2 j 0 r1 hr1)) Z7.f)) kr (tq ?_))
   obtain ⟨H2,hH2,hF2⟩:=Fp.setMp (k:=1) hH rfl (encE Zcl bv (Zeu known (ZaW.mk i m2 j) r1.1))
   refine rqS ⟨[(13,bv r1.1)],[],H2⟩ (Z7.u 3 (Zbp (ZaH (H:=H) (id:=id) (off:=5) (cs:=ZaK p fuel a b m) (c:=[.map m]) (r:=.map m) (hl:=hlc)))
    (Z7.o 2 (Znm (H:=H) (id:=m) (kn:=3) (ke:=Zcl) (ve:=bv) (l:=known) (x:=(ZaW.mk i m2 j)) (v:=r1.1) (y:=bv r1.1) kr kr hlm kr kr hH2) Z7.f)) kr ?_
   exact ⟨rfl,H2,kr,hF2⟩
  cases h
  exact sk (⟨rfl,H,kr,hH⟩)
 rintro s ⟨H1,rfl,hF1⟩
 exact sq (rgS ⟨[(10,bv r.1)],[],H1⟩ Z7.f kr (tq (rt (⟨[bv r.1],kr,rfl,hF1⟩))))
def dpC (c:Z8):Int×List (List PC):=(c.Stream,c.Arms.map ZaB)
theorem ZkW {H:List HO}{a:AV}{sz:Nat}{u:Bool}{cs:List PC}{f:List Z8}(h:Lies H (.deep a sz u cs (f.map dpC))):ZaE .len [a]=some (iv ((List.length f:Nat):Int)):=by
 have:=Zo0 h
 rwa [ZF] at this
theorem Zk7 {α:Type}{bytes:Nat}{l m r:List α}(h:appI bytes l m=some r):r=l++m/\(l.length+m.length)*bytes<=140737488355328/\l.length+m.length<=140737488355328:=by
 unfold appI at h
 split at h
 ·rename_i hc
  cases h
  exact ⟨rfl,hc.1,hc.2⟩
 cases h
theorem ZjU {α β:Type}(g:α->β){l:List α}{i:Int}{e:α}(h:idx l i=some e):idx (l.map g) i=some (g e):=by
 unfold idx at h ⊢
 split at h
 ·rename_i h0
  rw [Z3 h0,Zy,h]
  rfl
 cases h
theorem hp1 {H:List HO}{i:ZaL}(h:Lies H i):HP H [i]:=HP.cons (HP.any H) h (λ_ _ j hj=>by cases hj)
theorem Zjw (N:Nat)(p:Z6)(given:List Int)(known:slvK)(i x:Int)(r:Int×slvK)(id m:Nat)(fuel:Int)(a b:AV)(H:List HO)(hH:HP H [.cel id (ZaK p fuel a b m),.arr a 1 false (given.map eI64),smp m known])(h:Zea N p given known i x=some r) :
  ∃ H',ZbQ Try.prog 32 [.ptr id 0,iv i,iv x] H (iv r.1) H'/\Fp H H' [.cel id (ZaK p fuel a b m),.arr a 1 false (given.map eI64),smp m known] [.cel id (ZaK p fuel a b m),.arr a 1 false (given.map eI64),smp m r.2]:=by
 unfold Zea at h
 replace hH:=Fp.refl hH
 have hfa:=ZbH (Fp.get hH 1 rfl)
 refine Zdj ZwK (λH'=>Fp H H' [.cel id (ZaK p fuel a b m),.arr a 1 false (given.map eI64),smp m known] [.cel id (ZaK p fuel a b m),.arr a 1 false (given.map eI64),smp m r.2]) rfl rfl rfl (sq (rgS ⟨[(0,.ptr id 0),(1,iv i),(2,iv x)],[],H⟩ Z7.f kr (tq (sq (sq (rgS ⟨[(0,.ptr id 0),(1,iv i),(2,iv x),(8,iv i),(9,iv 0)],[],H⟩ Z7.f kr (tq (bk ?_))))))))
 obtain ⟨o1,ho1,h⟩:=bs h
 refine Zbc ((ZaV (λ(y:Int×slvK) s=>∃ H2,s=⟨[(0,.ptr id 0),(1,iv i),(2,iv x),(8,iv i),(9,iv y.1)],[],H2⟩/\Fp H H2 [.cel id (ZaK p fuel a b m),.arr a 1 false (given.map eI64),smp m known] [.cel id (ZaK p fuel a b m),.arr a 1 false (given.map eI64),smp m y.2])
  (λy:Int×slvK=>Zcc N p given i x y.1 y.2)
  (λ(q:slvK⊕(Int×slvK)) e s=>match q with
   | .inl k=>e=.exit 0/\∃ H2,s=⟨[(0,.ptr id 0),(1,iv i),(2,iv x)],[],H2⟩/\Fp H H2 [.cel id (ZaK p fuel a b m),.arr a 1 false (given.map eI64),smp m known] [.cel id (ZaK p fuel a b m),.arr a 1 false (given.map eI64),smp m k]
   | .inr q=>e=.ret/\∃ H2,s=⟨[(6,iv q.1)],[],H2⟩/\Fp H H2 [.cel id (ZaK p fuel a b m),.arr a 1 false (given.map eI64),smp m known] [.cel id (ZaK p fuel a b m),.arr a 1 false (given.map eI64),smp m q.2]) ?_ N _ o1 _ ho1 ⟨H,by show _=_;kernel_rfl,hH⟩).mono ?_)
 ·clear h ho1 hH
  rintro ⟨j,k1⟩ o s h hR
  obtain ⟨H1,rfl,hF1⟩:=hR
  replace h:Zcc N p given i x j k1=some o:=h
  unfold Zcc at h
  refine sq (rgS ⟨[(0,.ptr id 0),(1,iv i),(2,iv x),(8,iv i),(9,iv j),(10,bv (decide (j<i)))],[],H1⟩ Z7.f kr (tq (sq (it h (λhc h=>?_) (λhc h=>?_)))))
  ·refine sk (tq (kq (sq (bk (sq (rgS ⟨[(0,.ptr id 0),(1,iv i),(2,iv x),(7,iv j),(8,iv i),(9,iv j)],[],H1⟩ Z7.f kr (tq (sq ?_))))))))
   obtain ⟨y,hy,h⟩:=bs h
   obtain ⟨r1,hr1,h⟩:=bs h
   obtain ⟨id2,ver2,_,hid2f,hid2,hid2a,hid2v⟩:=Fp.elem (k:=1) (a:=a) (sz:=1) (frz:=false) eI64 hF1 rfl hy
   have hlc:=Fp.get hF1 0 rfl
   obtain ⟨H2,hc2,hF2⟩:=ZgH N p k1 i x j y r1 id m fuel a b H1 (Fp.pk hF1 [0,2] rfl).now hr1
   replace hF2:=Fp.callee (rest:=[.arr a 1 false (given.map eI64)]) (Fp.pk hF1 [0,2,1] rfl) hF2
   replace hF2:=Fp.pk (H':=H2) (L:=[.cel id (ZaK p fuel a b m),.arr a 1 false (given.map eI64),smp m r1.2]) hF2 [0,2,1] rfl
   refine rgS ⟨[(0,.ptr id 0),(1,iv i),(2,iv x),(7,iv j),(8,iv i),(9,iv j),(23,bv r1.1)],[],H2⟩ (Z7.u 7 (ZaH (H:=H1) (id:=id) (off:=3) (cs:=ZaK p fuel a b m) (c:=[a]) (r:=a) kr kr hlc kr (by cases hfa<;>kernel_rfl) kr)
    (Z7.u (hm:=by cases hfa<;>kernel_rfl) 1 (Zaf (ys:=[a,iv j]) (by cases hfa<;>kernel_rfl) (hid2v .i64))
    (Z7.u (hm:=by cases hfa<;>kernel_rfl) 0 (ZfX (H:=H1) (off:=0) (cs:=[.int .i64 y]) (r:=iv y) eI64 hy hid2 (by cases hfa<;>kernel_rfl) (by cases hfa<;>kernel_rfl) kr kr)
    (Z7.v (hm:=by cases hfa<;>kernel_rfl) 0 (Zc3 (H:=H1) (H1:=H1) (ys:=[.ptr id 0,iv i,iv x,iv j,iv y]) (args:=[.ptr id 0,iv i,iv x,iv j,iv y]) (by cases hfa<;>kernel_rfl) (by cases hfa<;>kernel_rfl) kr hc2) (Z7.f (h:=by cases hfa<;>kernel_rfl)))))) (by cases hfa<;>kernel_rfl) ?_
   refine tq (it h (λhc3 h=>?_) (λhc3 h=>?_))
   ·cases h
    exact sq (rgS ⟨[(6,iv j)],[],H2⟩ Z7.f kr (tq (rt (br (tr (⟨_,rfl,rfl,H2,rfl,hF2⟩))))))
   refine sk (bn (tq (kq (rgS ⟨[(0,.ptr id 0),(1,iv i),(2,iv x),(8,iv i),(9,iv (w64 (j+1)))],[],H2⟩ Z7.f kr ?_))))
   cases h
   exact ⟨_,rfl,H2,rfl,hF2⟩
  refine kq (xq (tx ?_))
  cases h
  exact ⟨_,rfl,rfl,H1,kr,hF1⟩
 rintro e s hq
 rcases o1 with k|q
 ·dsimp only at h hq
  obtain ⟨rfl,H1,rfl,hF1⟩:=hq
  refine bx (tq (sq ?_))
  obtain ⟨r1,hr1,h⟩:=bs h
  obtain ⟨H2,hc2,hF2⟩:=ZgH N p k i x i x r1 id m fuel a b H1 (Fp.pk hF1 [0,2] rfl).now hr1
  replace hF2:=Fp.callee (rest:=[.arr a 1 false (given.map eI64)]) (Fp.pk hF1 [0,2,1] rfl) hF2
  replace hF2:=Fp.pk (H':=H2) (L:=[.cel id (ZaK p fuel a b m),.arr a 1 false (given.map eI64),smp m r1.2]) hF2 [0,2,1] rfl
  refine sq (rgS ⟨[(1,iv i),(31,bv r1.1)],[],H2⟩ (Z7.v 5 (Zc3 (H:=H1) (H1:=H1) (ys:=[.ptr id 0,iv i,iv x,iv i,iv x]) (args:=[.ptr id 0,iv i,iv x,iv i,iv x]) kr kr kr hc2) Z7.f) kr (tq (it h (λhc3 h=>?_) (λhc3 h=>?_))))
  ·cases h
   exact sq (rgS ⟨[(6,iv i)],[],H2⟩ Z7.f kr (tq (rt (tr (⟨[iv i],kr,rfl,hF2⟩)))))
  cases h
  exact sk (tq (kq (sq (rgS ⟨[(6,iv (-1))],[],H2⟩ Z7.f kr (tq (rt (⟨[iv (-1)],kr,rfl,hF2⟩)))))))
 dsimp only at h hq
 obtain ⟨rfl,H1,rfl,hF1⟩:=hq
 refine br (tr ?_)
 have hqr:=Zar h
 subst hqr
 exact ⟨[iv q.1],kr,rfl,hF1⟩
theorem ZiN (f:List Z8)(c:Int)(z:Zam)(r:List Z8)(p:Z6)(id m:Nat)(fuel:Int)(a b:AV)(cs:List PC)(H:List HO)(hH:HP H [.cel id (ZaK p fuel a b m),.deep b 4 true cs (f.map dpC)])(h:Zeq f c z=some r) :
  ∃ cs' H',ZbQ Try.prog 33 [.ptr id 0,iv c,.agg (ZaQ z)] H (.tup []) H'/\Fp H H' [.cel id (ZaK p fuel a b m),.deep b 4 true cs (f.map dpC)] [.cel id (ZaK p fuel a b m),.deep b 4 true cs' (r.map dpC)]:=by
 suffices hs:∃ H',ZbQ Try.prog 33 [.ptr id 0,iv c,.agg (ZaQ z)] H (.tup []) H'/\∃ cs',Fp H H' [.cel id (ZaK p fuel a b m),.deep b 4 true cs (f.map dpC)] [.cel id (ZaK p fuel a b m),.deep b 4 true cs' (r.map dpC)] by
  obtain ⟨H',h1,cs',h2⟩:=hs
  exact ⟨cs',H',h1,h2⟩
 unfold Zeq at h
 replace hH:=Fp.refl hH
 have hlc:=Fp.get hH 0 rfl
 have hfb:=ZkX (Fp.get hH 1 rfl)
 refine Zdj ZwJ (λH'=>∃ cs',Fp H H' [.cel id (ZaK p fuel a b m),.deep b 4 true cs (f.map dpC)] [.cel id (ZaK p fuel a b m),.deep b 4 true cs' (r.map dpC)]) rfl rfl rfl ?_
 obtain ⟨fc,hfc,h⟩:=bs h
 obtain ⟨la,hla,h⟩:=bs h
 obtain ⟨id4,ver4,cc,bb,hid4a,hcc,hbb,hid4v,hfbb,hlbb,hr0,hr1,hr2⟩:=Zih (Fp.get hH 1 rfl) (ZjU dpC hfc)
 refine sq (rgS ⟨[(0,.ptr id 0),(1,iv c),(5,.loc 5 0)],[(5,ZaQ z)],H⟩ Z7.f kr (tq (sq ?_)))
 refine rgS ⟨[(0,.ptr id 0),(1,iv c),(5,.loc 5 0),(6,bb)],[(5,ZaQ z)],H⟩ (Z7.u 3 (ZaH (H:=H) (id:=id) (off:=4) (cs:=ZaK p fuel a b m) (c:=[b]) (r:=b) kr kr hlc kr (by cases hfb<;>kernel_rfl) kr)
  (Z7.u (hm:=by cases hfb<;>kernel_rfl) 1 (Zaf (ys:=[b,iv c]) (by cases hfb<;>kernel_rfl) (hid4v .i64)) (Z7.u (hm:=by cases hfb<;>kernel_rfl) 1 (ZoC (H:=H) (r:=bb) (p:=.optr 2 id4 ver4 (0+c.toNat) 1) (by cases hfb<;>kernel_rfl) (by cases hfb<;>kernel_rfl) hr1 (by cases hfbb<;>kernel_rfl) (by cases hfbb<;>kernel_rfl)) (Z7.f (h:=by cases hfb<;>kernel_rfl))))) (by cases hfb<;>cases hfbb<;>kernel_rfl) ?_
 refine tq (sq ?_)
 have hpb:HP H [.arr bb 4 false (fc.Arms.map ZaB)]:=hp1 hlbb
 refine sq (rgS ⟨[(0,.ptr id 0),(1,iv c),(5,.loc 5 0),(6,bb),(7,iv ((List.length fc.Arms:Nat):Int))],[(5,ZaQ z)],H⟩ (Z7.u (hm:=by cases hfbb<;>kernel_rfl) 1 (Zaf (ys:=[bb]) (by cases hfbb<;>kernel_rfl) (HP.len (k:=0) (frz:=false) ZaB hpb rfl)) (Z7.f (h:=by cases hfbb<;>kernel_rfl))) (by cases hfbb<;>kernel_rfl) (tq (sq (rqX (hs:=(by cases hfbb<;>kernel_rfl)) ⟨[(0,.ptr id 0),(1,iv c),(5,.loc 5 0),(6,bb),(7,iv ((List.length fc.Arms:Nat):Int)),(35,bv la)],[(5,ZaQ z)],H⟩ ?_ ?_))))
 ·clear h
  unfold ZdW at hla
  rcases ZaJ hla with ⟨hc,hla⟩|⟨hc,hla⟩
  ·refine EP.u (hm:=by cases hfbb<;>kernel_rfl) 1 (Zad (c:=(decide (((List.length fc.Arms:Nat):Int)>0))) (by cases hfbb<;>kernel_rfl) hc) ?_
   rcases ZaJ hla with ⟨hc',hla⟩|⟨hc',hla⟩
   ·refine EP.u (hm:=by cases hfbb<;>kernel_rfl) 3 (Zad (c:=(decide (z.By≥0))) (by cases hfbb<;>kernel_rfl) hc') ?_
    obtain ⟨e5,he5,hla⟩:=bs hla
    obtain rfl:=Zar hla
    obtain ⟨id5,ver5,_,hid5f,hid5,hid5a,hid5v⟩:=HP.elem (k:=0) (frz:=false) ZaB hpb rfl he5
    exact EP.u (hm:=by cases hfbb<;>kernel_rfl) 5 (Zaf (ys:=[bb,iv (w64 (((List.length fc.Arms:Nat):Int)-1))]) (by cases hfbb<;>kernel_rfl) (hid5v .i64)) (EP.u (hm:=by cases hfbb<;>kernel_rfl) 1 (Zbp (ZfX (H:=H) (off:=2) (cs:=[.int .i64 e5.By]) (r:=iv e5.By) ZaB he5 hid5 (by cases hfbb<;>kernel_rfl) (by cases hfbb<;>kernel_rfl) kr kr) (by cases hfbb<;>kernel_rfl)) (EP.f (h:=by cases hfbb<;>kernel_rfl) (by cases hfbb<;>kernel_rfl)))
   obtain rfl:=Zar hla
   exact EP.u (hm:=by cases hfbb<;>kernel_rfl) 3 (Zad (c:=(decide (z.By≥0))) (by cases hfbb<;>kernel_rfl) hc') (EP.f (h:=by cases hfbb<;>kernel_rfl) (by cases hfbb<;>kernel_rfl))
  obtain rfl:=Zar hla
  exact EP.u (hm:=by cases hfbb<;>kernel_rfl) 1 (Zad (c:=(decide (((List.length fc.Arms:Nat):Int)>0))) (by cases hfbb<;>kernel_rfl) hc) (EP.f (h:=by cases hfbb<;>kernel_rfl) (by cases hfbb<;>kernel_rfl))
 refine tq (it h (λhc6 h=>?_) (λhc6 h=>?_) (hx:=by cases hfbb<;>kernel_rfl))
 ·obtain ⟨e7,he7,h⟩:=bs h
  obtain ⟨id7,ver7,H7,hid7a,hid7v,hw7,hF7⟩:=Fp.deepRow (k:=1) (vs:=[iv z.To]) (off:=1) (e':=ZaB { e7 with To:=z.To }) hH rfl (ZjU dpC hfc) hcc hbb (ZjU ZaB he7) rfl rfl
  cases h
  replace hF7:Fp H H7 [.cel id (ZaK p fuel a b m),.deep b 4 true cs (f.map dpC)] [.cel id (ZaK p fuel a b m),.deep b 4 true cs ((f.set c.toNat ⟨fc.Stream,fc.Arms.set (w64 (((List.length fc.Arms:Nat):Int)-1)).toNat { e7 with To:=z.To }⟩).map dpC)]:=by
   rw [List.map_set]
   simp only [dpC,List.map_set]
   exact hF7
  exact sq (rgS ⟨[],[],H7⟩ (Z7.u (hm:=by cases hfbb<;>kernel_rfl) 5 (Zaf (ys:=[bb,iv (w64 (((List.length fc.Arms:Nat):Int)-1))]) (by cases hfbb<;>kernel_rfl) (hid7v .i64)) (Z7.o (hm:=by cases hfbb<;>kernel_rfl) 1 (Zbi (H:=H) (v:=iv z.To) (cs:=[iv z.To]) (p:=.optr 4 id7 ver7 (0+(w64 (((List.length fc.Arms:Nat):Int)-1)).toNat) 1) rfl (by cases hfbb<;>kernel_rfl) (by cases hfbb<;>kernel_rfl) (by cases hfbb<;>kernel_rfl) rfl hw7) (Z7.f (h:=by cases hfbb<;>kernel_rfl)))) (by cases hfbb<;>kernel_rfl) (tq (rt (tr (⟨[],kr,rfl,cs,hF7⟩)))))
 obtain ⟨l9,hl9,h⟩:=bs h
 cases h
 obtain ⟨rfl,hb1,hb2⟩:=Zk7 hl9
 refine sk (tq (kq ?_))
 obtain ⟨q9,v9,H9,a5,a4,a6,hap9,a1,a2,a3⟩:=Fp.deepIn (k:=1) (bytes:=32) (m:=[ZaB z]) hH rfl (ZjU dpC hfc) hcc hbb (by simp) (by simpa [dpC] using hb1) (by simpa [dpC] using hb2)
 have a0:=hid4a.symm.trans a1
 cases a0
 subst hid4a
 clear hfb
 refine rqS (hs:=(by cases hfbb<;>kernel_rfl)) ⟨[],[],a6⟩
  (Z7.u (hm:=by cases hfbb<;>kernel_rfl) 3 (ZlV (H:=H) (id:=id) (off:=4) (cs:=ZaK p fuel a (.osl 2 id4 ver4 0 (f.map dpC).length) m) (c:=[.osl 2 id4 ver4 0 (f.map dpC).length]) (r:=.osl 2 id4 ver4 0 (f.map dpC).length) (zs:=[]) (vs:=[]) (by cases hfbb<;>kernel_rfl) (by cases hfbb<;>kernel_rfl) hlc kr kr kr rfl rfl)
  (Z7.h (hm:=by cases hfbb<;>kernel_rfl) 4 (ZgE (H:=H) (a:=bb) (b:=Zau true [z]) (by cases hfbb<;>kernel_rfl) (by cases hfbb<;>kernel_rfl) (by cases hfbb<;>kernel_rfl) kr hap9)
  (Z7.u (hm:=by cases hfbb<;>kernel_rfl) 0 (Zaf (ys:=[.osl 2 id4 ver4 0 (f.map dpC).length,iv c]) (by cases hfbb<;>kernel_rfl) (hid4v .i64))
  (Z7.o (hm:=by cases hfbb<;>kernel_rfl) 1 (ZlU (Zbi (H:=H9) (v:=.osl 4 q9 v9 0 ((dpC fc).2++[ZaB z]).length) (p:=.optr 2 id4 ver4 (0+c.toNat) 1) rfl (by cases hfbb<;>kernel_rfl) (by cases hfbb<;>kernel_rfl) (by cases hfbb<;>kernel_rfl) rfl a2) (by cases hfbb<;>kernel_rfl))
  (Z7.f (h:=by cases hfbb<;>kernel_rfl)))))) (by cases hfbb<;>kernel_rfl) ?_
 refine ⟨[],kr,rfl,(cs.set c.toNat (.ow 4 q9 v9 ((dpC fc).2++[ZaB z]).length)),?_⟩
 rw [List.map_set]
 have e:dpC ⟨fc.Stream,fc.Arms++[z]⟩=((dpC fc).1,(dpC fc).2++[ZaB z]):=by simp [dpC]
 rw [e]
 exact a3
abbrev Za1 (p:Z6) (fuel:Int) (id m:Nat) (a b:AV) (cs:List PC) (st:ZbB):List ZaL:=[.cel id (ZaK p fuel a b m),.arr a 1 false (st.2.1.map eI64),.deep b 4 true cs (st.1.map dpC),smp m st.2.2]
abbrev Zmi (P:Program) (p:Z6) (fuel:Int) (rec_:ZbB->Int->Option (Option (Bool×ZbB))):Prop :=
 ∀ (st:ZbB) (i:Int) (r:Option (Bool×ZbB)) (id m:Nat) (a b:AV) (cs:List PC) (H:List HO),HP H (Za1 p fuel id m a b cs st)->rec_ st i=some r →
  (∃ (t:Bool) (s':ZbB) (a' b':AV) (cs':List PC) (H':List HO),r=some (t,s')/\ZbQ P 23 [.ptr id 0,iv i] H (bv t) H'/\Fp H H' (Za1 p fuel id m a b cs st) (Za1 p fuel id m a' b' cs' s')) ∨
  ∃ H',r=none/\ZlM P 23 [.ptr id 0,iv i] H 79 H'/\Fp H H' (Za1 p fuel id m a b cs st) []
theorem Zi1 {H H1:List HO}{f0:List ZaL}{p:Z6}{fuel:Int}{id m:Nat}{a b:AV}{cs:List PC}{st:ZbB}{i c most x by_ nx:Int}{f:List Z8}{Q:Exit->St->Prop}
  (hF:Fp H H1 f0 (Za1 p fuel id m a b cs st)) (hadd:Zeq st.1 c ⟨x,w64 (x+1),by_,nx⟩=some f)
  (hQ:∀ H2 cs',Fp H H2 f0 (Za1 p fuel id m a b cs' (f,st.2))->Q .normal ⟨[(0,.ptr id 0),(1,iv i),(5,iv c),(6,iv most),(44,iv most),(45,iv x)],[],H2⟩) :
  vc Try.prog i23.nt (Ro Zpf [0,1,5,6,44,45]) Q ⟨[(0,.ptr id 0),(1,iv i),(5,iv c),(6,iv most),(7,iv x),(8,iv by_),(9,iv nx),(44,iv most),(45,iv x)],[],H1⟩:=by
 obtain ⟨cs',H2,hc2,hF2⟩:=ZiN st.1 c ⟨x,w64 (x+1),by_,nx⟩ f p id m fuel a b cs H1 (Fp.pk hF [0,2] rfl).now hadd
 replace hF2:=Fp.callee (rest:=[.arr a 1 false (st.2.1.map eI64),smp m st.2.2]) (Fp.pk hF [0,2,1,3] rfl) hF2
 replace hF2:=Fp.pk (H':=H2) (L:=Za1 p fuel id m a b cs' (f,st.2)) hF2 [0,2,1,3] rfl
 refine rgS ⟨[(0,.ptr id 0),(1,iv i),(5,iv c),(6,iv most),(44,iv most),(45,iv x)],[],H2⟩
  (Z7.v 8 (Zc3 (H:=H1) (H1:=H1) (ys:=[.ptr id 0,iv c,.agg (ZaQ ⟨x,w64 (x+1),by_,nx⟩)]) (args:=[.ptr id 0,iv c,.agg (ZaQ ⟨x,w64 (x+1),by_,nx⟩)]) kr kr kr hc2) Z7.f) kr ?_
 exact hQ H2 cs' hF2
abbrev s15 (id:Nat) (i c most x nx:Int) (H:List HO):St:=⟨[(0,.ptr id 0),(1,iv i),(5,iv c),(6,iv most),(7,iv x),(8,iv (-1)),(9,iv nx),(44,iv most),(45,iv x)],[],H⟩
theorem ZmU {H1:List HO}{p:Z6}{fuel:Int}{id m:Nat}{a b:AV}{i c most x nx:Int}{Q:Exit->St->Prop}(hlc:Lies H1 (.cel id (ZaK p fuel a b m)))(hc:(i==w64 (((List.length p.Periods:Nat):Int)-1))=true)
  (hQ:Q .normal ⟨[(0,.ptr id 0),(1,iv i),(5,iv c),(6,iv most),(7,iv x),(8,iv (-1)),(9,iv nx),(44,iv most),(45,iv x),(83,bv true)],[],H1⟩):vc Try.prog i23.nt (.box (Ro ZkD [0,1,5,6,7,8,9,44,45,83])) Q (s15 id i c most x nx H1):=
 ZpI (rgS ⟨[(0,.ptr id 0),(1,iv i),(5,iv c),(6,iv most),(7,iv x),(8,iv (-1)),(9,iv nx),(44,iv most),(45,iv x),(83,bv true)],[],H1⟩
  (Z7.u 5 (ZaH (H:=H1) (id:=id) (off:=0) (cs:=ZaK p fuel a b m) (c:=[Zak false p.Periods]) (r:=Zak false p.Periods) (hl:=hlc))
  (Z7.u 0 (Zaf (ys:=[Zak false p.Periods]) (h:=Zao eI64)) (Z7.u 1 (Zad (c:=(i==w64 (((List.length p.Periods:Nat):Int)-1))) (h:=hc)) Z7.f))) kr hQ)
theorem Zn6 {H1 H2:List HO}{p:Z6}{fuel:Int}{id m:Nat}{a b:AV}{i c most x nx:Int}{t:Bool}{Q:Exit->St->Prop}(hlc:Lies H1 (.cel id (ZaK p fuel a b m)))(hc:(i==w64 (((List.length p.Periods:Nat):Int)-1))=false)
  (hcall:ZbQ Try.prog 23 [.ptr id 0,iv (w64 (i+1))] H1 (bv t) H2)
  (hQ:Q .normal ⟨[(0,.ptr id 0),(1,iv i),(5,iv c),(6,iv most),(7,iv x),(8,iv (-1)),(9,iv nx),(44,iv most),(45,iv x),(83,bv t)],[],H2⟩):vc Try.prog i23.nt (.box (Ro ZkD [0,1,5,6,7,8,9,44,45,83])) Q (s15 id i c most x nx H1):=
 ZpI (rgS ⟨[(0,.ptr id 0),(1,iv i),(5,iv c),(6,iv most),(7,iv x),(8,iv (-1)),(9,iv nx),(44,iv most),(45,iv x),(83,bv t)],[],H2⟩
  (Z7.u 5 (ZaH (H:=H1) (id:=id) (off:=0) (cs:=ZaK p fuel a b m) (c:=[Zak false p.Periods]) (r:=Zak false p.Periods) (hl:=hlc))
  (Z7.u 0 (Zaf (ys:=[Zak false p.Periods]) (h:=Zao eI64)) (Z7.u 1 (Zad (c:=(i==w64 (((List.length p.Periods:Nat):Int)-1))) (h:=hc))
  (Z7.v 4 (Zc3 (H:=H1) (H1:=H1) (ys:=[.ptr id 0,iv (w64 (i+1))]) (args:=[.ptr id 0,iv (w64 (i+1))]) kr kr kr hcall) Z7.f)))) kr hQ)
theorem Zn7 {H1 H2:List HO}{p:Z6}{fuel:Int}{id m:Nat}{a b:AV}{i c most x nx:Int}{Q:Exit->St->Prop}(hlc:Lies H1 (.cel id (ZaK p fuel a b m)))(hc:(i==w64 (((List.length p.Periods:Nat):Int)-1))=false)
  (hcall:ZlM Try.prog 23 [.ptr id 0,iv (w64 (i+1))] H1 79 H2)
  (hQ:∀ s:St,s.H=H2->Q (.panic (pvl 79)) s):vc Try.prog i23.nt (.box (Ro ZkD [0,1,5,6,7,8,9,44,45,83])) Q (s15 id i c most x nx H1):=
 Zpi 13 _ rfl (AK.z (Z7.u (ops:=ZkD.take 13) 5 (ZaH (H:=H1) (id:=id) (off:=0) (cs:=ZaK p fuel a b m) (c:=[Zak false p.Periods]) (r:=Zak false p.Periods) (hl:=hlc))
  (Z7.u 0 (Zaf (ys:=[Zak false p.Periods]) (h:=Zao eI64)) (Z7.u 1 (Zad (c:=(i==w64 (((List.length p.Periods:Nat):Int)-1))) (h:=hc)) Z7.f))))
  ⟨(by show get _ _=_;kernel_rfl),_,_,_,[.ptr id 0,iv (w64 (i+1))],H1,rfl,Pass.frz kr,hcall⟩ [] (hQ _ kr)
theorem ZhA (N:Nat)(rec_:ZbB->Int->Option (Option (Bool×ZbB)))(p:Z6)(fuel:Int)(hrec_:Zmi Try.prog p fuel rec_)(st0:ZbB)(id m:Nat)(a0 b0:AV)(cs0:List PC)(H:List HO)(i c most x:Int)(st:ZbB)(o:(Int×ZbB)⊕(ZbB⊕Option ZbB))(a b:AV)(cs:List PC)(H1:List HO)
  (hF1:Fp H H1 (Za1 p fuel id m a0 b0 cs0 st0) (Za1 p fuel id m a b cs st)) (h:ZcB N rec_ p i c most x st=some o) :
  vc Try.prog i23.nt Zrd (Zht (λs=>∃ y:Int×ZbB,o=.inl y/\∃ a b cs H2,s=⟨[(0,.ptr id 0),(1,iv i),(5,iv c),(6,iv most),(44,iv most),(45,iv y.1)],[],H2⟩/\Fp H H2 (Za1 p fuel id m a0 b0 cs0 st0) (Za1 p fuel id m a b cs y.2))
   (λe s=>∃ r:ZbB⊕Option ZbB,o=.inr r/\match r with
   | .inl s2=>e=.exit 0/\∃ a b cs H2,s=⟨[(0,.ptr id 0),(1,iv i),(5,iv c),(6,iv most)],[],H2⟩/\Fp H H2 (Za1 p fuel id m a0 b0 cs0 st0) (Za1 p fuel id m a b cs s2)
   | .inr q=>match q with
    | none=>e=.panic (pvl 79)/\Fp H s.H (Za1 p fuel id m a0 b0 cs0 st0) []
    | some s2=>e=.ret/\∃ a b cs H2,s=⟨[(4,bv true)],[],H2⟩/\Fp H H2 (Za1 p fuel id m a0 b0 cs0 st0) (Za1 p fuel id m a b cs s2)))
   ⟨[(0,.ptr id 0),(1,iv i),(5,iv c),(6,iv most),(44,iv most),(45,iv x)],[],H1⟩:=by
 obtain ⟨pf,gv,kn⟩:=st
 unfold ZcB at h
 dsimp only at h
 have hlc:=Fp.get hF1 0 rfl
 have hfa:=ZbH (Fp.get hF1 1 rfl)
 have hfb:=ZkX (Fp.get hF1 2 rfl)
 refine sq (rgS ⟨[(0,.ptr id 0),(1,iv i),(5,iv c),(6,iv most),(44,iv most),(45,iv x),(46,bv (decide (x<most)))],[],H1⟩ Z7.f kr (tq (sq (it h (λhc h=>?_) (λhc h=>?_)))))
 ·refine sk (tq (kq (sq (bk (sq (rgS ⟨[(0,.ptr id 0),(1,iv i),(5,iv c),(6,iv most),(7,iv x),(44,iv most),(45,iv x)],[],H1⟩ Z7.f kr (tq (sq ?_))))))))
  obtain ⟨by_,hby,h⟩:=bs h
  obtain ⟨H2,hc2,hF2⟩:=Zjw N p gv kn i x by_ id m fuel a b H1 (Fp.pk hF1 [0,1,3] rfl).now hby
  replace hF2:=Fp.callee (rest:=[.deep b 4 true cs (pf.map dpC)]) (Fp.pk hF1 [0,1,3,2] rfl) hF2
  replace hF2:=Fp.pk (H':=H2) (L:=Za1 p fuel id m a b cs (pf,gv,by_.2)) hF2 [0,1,3,2] rfl
  refine rgS ⟨[(0,.ptr id 0),(1,iv i),(5,iv c),(6,iv most),(7,iv x),(8,iv by_.1),(9,iv 0),(44,iv most),(45,iv x)],[],H2⟩ (Z7.v 3 (Zc3 (H:=H1) (H1:=H1) (ys:=[.ptr id 0,iv i,iv x]) (args:=[.ptr id 0,iv i,iv x]) kr kr kr hc2) Z7.f) kr (tq (sq ?_))
  obtain ⟨q,hq,h⟩:=bs h
  refine sq (rgS ⟨[(0,.ptr id 0),(1,iv i),(5,iv c),(6,iv most),(7,iv x),(8,iv by_.1),(9,iv 0),(44,iv most),(45,iv x),(53,bv (by_.1 == -1))],[],H2⟩ Z7.f kr (tq (it hq (λhc3 hq=>?_) (λhc3 hq=>?_))))
  ·have hby1:by_.1 = -1:=by simpa using hc3
   rw [hby1] at h ⊢
   obtain ⟨g,hg,hq⟩:=bs hq
   have hlc2:=Fp.get hF2 0 rfl
   obtain ⟨a3,H3,ha3,hF3⟩:=Fp.app (k:=1) (a:=a) (sz:=1) (frz:=false) eI64 hF2 rfl hg
   obtain ⟨H4,hw4,hF4⟩:=Fp.setCell (k:=0) (off:=3) (vs:=[a3]) (cs':=ZaK p fuel a3 b m) hF3 rfl kr
   replace hF4:Fp H H4 (Za1 p fuel id m a0 b0 cs0 st0) (Za1 p fuel id m a3 b cs (pf,g,by_.2)):=hF4
   have hfa3:=ZbH (Fp.get hF4 1 rfl)
   refine sq (rgS ⟨[(0,.ptr id 0),(1,iv i),(5,iv c),(6,iv most),(7,iv x),(8,iv (-1)),(44,iv most),(45,iv x)],[],H4⟩ (Z7.u 4 (ZaH (H:=H2) (id:=id) (off:=3) (cs:=ZaK p fuel a b m) (c:=[a]) (r:=a) kr kr hlc2 kr (by cases hfa<;>kernel_rfl) kr)
    (Z7.h (hm:=by cases hfa<;>kernel_rfl) 2 (ZgE (H:=H2) (a:=a) (b:=Zak true [x]) (by cases hfa<;>kernel_rfl) (by cases hfa<;>kernel_rfl) (by cases hfa<;>kernel_rfl) kr ha3)
    (Z7.o (hm:=by cases hfa<;>cases hfa3<;>kernel_rfl) 2 (Zbi (H:=H3) (v:=a3) (cs:=[a3]) (p:=.ptr id 3) (by cases hfa3<;>kernel_rfl) (by cases hfa<;>kernel_rfl) (by cases hfa<;>kernel_rfl) (by cases hfa<;>kernel_rfl) (by cases hfa3<;>kernel_rfl) hw4)
    (Z7.f (h:=by cases hfa<;>cases hfa3<;>kernel_rfl))))) (by cases hfa<;>cases hfa3<;>kernel_rfl) ?_)
   refine tq (sq ?_)
   have hlc4:=Fp.get hF4 0 rfl
   refine rgS (s15 id i c most x ((List.length pf:Nat):Int) H4) (Z7.u 3 (ZaH (H:=H4) (id:=id) (off:=4) (cs:=ZaK p fuel a3 b m) (c:=[b]) (r:=b) kr kr hlc4 kr (by cases hfb<;>kernel_rfl) kr)
    (Z7.u (hm:=by cases hfb<;>kernel_rfl) 0 (Zaf (ys:=[b]) (by cases hfb<;>kernel_rfl) (ZkW (Fp.get hF4 2 rfl))) (Z7.f (h:=by cases hfb<;>kernel_rfl)))) (by cases hfb<;>kernel_rfl) ?_
   refine tq (sq (sq ?_))
   rcases ZaJ hq with ⟨hc5,hq⟩|⟨hc5,hq⟩
   ·obtain rfl:=Zar hq
    dsimp only at h
    cases h
    exact ZmU hlc4 hc5 (tq (Znf kr (sq (rgS ⟨[(4,bv true)],[],H4⟩ Z7.f kr (tq (rt (tr (tr (br (tr (⟨_,rfl,rfl,a3,b,cs,H4,rfl,hF4⟩)))))))))))
   obtain ⟨q5,hq5,hq⟩:=bs hq
   rcases hrec_ (pf,g,by_.2) (w64 (i+1)) q5 id m a3 b cs H4 hF4.now hq5 with ⟨t,s5,a5,b5,cs5,H5,rfl,hc6,hF5⟩|⟨H5,rfl,hc6,hF5⟩
   ·dsimp only at hq
    replace hF5:Fp H H5 (Za1 p fuel id m a0 b0 cs0 st0) (Za1 p fuel id m a5 b5 cs5 s5):=Fp.trans hF4 hF5
    refine Zn6 hlc4 hc5 hc6 (tq ?_)
    cases t with
    | true =>
     simp only [Z4] at hq
     obtain rfl:=Zar hq
     dsimp only at h
     cases h
     exact Znf kr (sq (rgS ⟨[(4,bv true)],[],H5⟩ Z7.f kr (tq (rt (tr (tr (br (tr (⟨_,rfl,rfl,a5,b5,cs5,H5,rfl,hF5⟩)))))))))
    | false =>
     simp only [Zg,Z1] at hq
     obtain ⟨g6,hg6,hq⟩:=bs hq
     obtain rfl:=Zar hq
     dsimp only at h
     obtain ⟨f7,hf7,h⟩:=bs h
     refine Zow kr (sk (tq (kq ?_)))
     have hlc5:=Fp.get hF5 0 rfl
     obtain ⟨id6,ver6,a6,H6,ha5,hid6,hm6,hH6,ha6,hF6⟩:=Fp.pop (k:=1) eI64 hF5 rfl hg6
     obtain ⟨H7,hw7,hF7⟩:=Fp.setCell (k:=0) (off:=3) (vs:=[a6]) (cs':=ZaK p fuel a6 b5 m) hF6 rfl kr
     replace hF7:Fp H H7 (Za1 p fuel id m a0 b0 cs0 st0) (Za1 p fuel id m a6 b5 cs5 (s5.1,g6,s5.2.2)):=hF7
     clear hF6
     subst ha5 ha6
     refine rgS ⟨[(0,.ptr id 0),(1,iv i),(5,iv c),(6,iv most),(7,iv x),(8,iv (-1)),(9,iv ((List.length pf:Nat):Int)),(44,iv most),(45,iv x)],[],H7⟩ (Z7.u 4 (ZaH (H:=H5) (id:=id) (off:=3) (cs:=ZaK p fuel (.osl 1 id6 ver6 0 (s5.2.1.map eI64).length) b5 m) (c:=[.osl 1 id6 ver6 0 (s5.2.1.map eI64).length]) (r:=.osl 1 id6 ver6 0 (s5.2.1.map eI64).length) (hl:=hlc5))
      (Z7.h 1 (Znk (H:=H5) kr kr kr rfl hid6 hm6 hH6 rfl)
      (Z7.o 2 (Zbi (H:=H6) (v:=.osl 1 id6 (ver6+1) 0 i.toNat) (cs:=[.osl 1 id6 (ver6+1) 0 i.toNat]) (p:=.ptr id 3) kr kr kr kr kr hw7)
      Z7.f))) kr ?_
     refine tq (kq (Eq.mp (congrArg _ (show ⟨[(0,.ptr id 0),(1,iv i),(5,iv c),(6,iv most),(7,iv x),(8,iv (-1)),(9,iv ((List.length pf:Nat):Int)),(44,iv most),(45,iv x)],[],H7⟩=_ by kernel_rfl)) (Zi1 hF7 hf7 λH8 cs8 hF8=>(bn (tq (kq (rgS ⟨[(0,.ptr id 0),(1,iv i),(5,iv c),(6,iv most),(44,iv most),(45,iv (w64 (x+1)))],[],H8⟩ Z7.f kr ?_)))))))
     cases h
     exact ⟨_,rfl,_,b5,cs8,H8,rfl,hF8⟩
   dsimp only at hq
   obtain rfl:=Zar hq
   dsimp only at h
   cases h
   refine Zn7 hlc4 hc5 hc6 λs hs=>?_
   refine tp (tp (tp (bp (tp ?_))))
   subst hs
   exact ⟨_,rfl,rfl,Fp.trans hF4 hF5⟩
  obtain rfl:=Zar hq
  dsimp only at h
  obtain ⟨f7,hf7,h⟩:=bs h
  refine sk (tq (kq (Eq.mp (congrArg _ (show ⟨[(0,.ptr id 0),(1,iv i),(5,iv c),(6,iv most),(7,iv x),(8,iv by_.1),(9,iv 0),(44,iv most),(45,iv x)],[],H2⟩=_ by kernel_rfl)) (Zi1 hF2 hf7 λH8 cs8 hF8=>(bn (tq (kq (rgS ⟨[(0,.ptr id 0),(1,iv i),(5,iv c),(6,iv most),(44,iv most),(45,iv (w64 (x+1)))],[],H8⟩ Z7.f kr ?_))))))))
  cases h
  exact ⟨_,rfl,a,b,cs8,H8,rfl,hF8⟩
 refine kq (xq (tx ?_))
 cases h
 exact ⟨_,rfl,rfl,a,b,cs,H1,kr,hF1⟩
theorem Zir (N:Nat)(rec_:ZbB->Int->Option (Option (Bool×ZbB)))(p:Z6)(fuel:Int)(hrec_:Zmi Try.prog p fuel rec_):Zmi Try.prog p fuel (ZcW N rec_ p fuel):=by
 intro st i r id m a b cs H hH h
 refine (Zoe ZwQ (args:=[.ptr id 0,iv i]) (H:=H) 79 (λrv H'=>∃ (t:Bool) (s':ZbB),r=some (t,s')/\rv=bv t/\∃ a' b' cs',Fp H H' (Za1 p fuel id m a b cs st) (Za1 p fuel id m a' b' cs' s')) (λH'=>r=none/\Fp H H' (Za1 p fuel id m a b cs st) [])
  (λrv H' q=>by obtain ⟨t,s',_,e,_⟩:=q;subst e;rfl) rfl rfl ?_).imp (λ⟨rv,H',h1,t,s',e1,e2,a',b',cs',h2⟩=>⟨t,s',a',b',cs',H',e1,e2 ▸ h1,h2⟩) (λ⟨H',h1,e,h2⟩=>⟨H',e,h1,h2⟩)
 obtain ⟨pf,gv,kn⟩:=st
 unfold ZcW at h
 dsimp only at h
 replace hH:=Fp.refl hH
 have hlc:=Fp.get hH 0 rfl
 have hfa:=ZbH (Fp.get hH 1 rfl)
 have hfb:=ZkX (Fp.get hH 2 rfl)
 refine sq (rgS ⟨[(0,.ptr id 0),(1,iv i)],[],H⟩ Z7.f kr (tq (sq ?_)))
 refine rgS ⟨[(0,.ptr id 0),(1,iv i),(5,iv ((List.length pf:Nat):Int))],[],H⟩ (Z7.u 3 (ZaH (H:=H) (id:=id) (off:=4) (cs:=ZaK p fuel a b m) (c:=[b]) (r:=b) kr kr hlc kr (by cases hfb<;>kernel_rfl) kr)
  (Z7.u (hm:=by cases hfb<;>kernel_rfl) 0 (Zaf (ys:=[b]) (by cases hfb<;>kernel_rfl) (ZkW (Fp.get hH 2 rfl))) (Z7.f (h:=by cases hfb<;>kernel_rfl)))) (by cases hfb<;>kernel_rfl) ?_
 refine tq (sq (sq (rgS ⟨[(0,.ptr id 0),(1,iv i),(5,iv ((List.length pf:Nat):Int)),(20,bv (decide (((List.length pf:Nat):Int)>fuel)))],[],H⟩ (Z7.u 4 (ZaH (H:=H) (id:=id) (off:=2) (cs:=ZaK p fuel a b m) (c:=[iv fuel]) (r:=iv fuel) (hl:=hlc)) Z7.f) kr (tq (it h (λhc h=>?_) (λhc h=>?_))))))
 ·cases h
  exact Zwo (tp (⟨rfl,rfl,Fp.pk hH [] rfl⟩))
 refine sk (tq (kq (sq ?_)))
 obtain ⟨f1,hf1,h⟩:=bs h
 obtain ⟨rfl,hb1,hb2⟩:=Zk7 hf1
 obtain ⟨c1,b1,H1,hrw,hap,hF1⟩:=Fp.deepApp (k:=3) (j:=0) (bytes:=32) (Fp.nilArr hH 4 false) rfl rfl (by decide) i (by simpa using hb1) (by simpa using hb2)
 obtain ⟨H2,hw2,hF2⟩:=Fp.setCell (k:=1) (off:=4) (vs:=[b1]) (cs':=ZaK p fuel a b1 m) hF1 rfl kr
 replace hF2:Fp H H2 (Za1 p fuel id m a b cs (pf,gv,kn)) (Za1 p fuel id m a b1 (cs++[c1]) (pf++[Z8.mk i []],gv,kn)):=by
  have:=Fp.pick hF2 [1,2,3,4] rfl
  unfold Za1
  rw [List.map_append]
  exact this
 have hfb1:=ZkX (Fp.get hF2 2 rfl)
 refine rgS ⟨[(0,.ptr id 0),(1,iv i),(5,iv ((List.length pf:Nat):Int))],[],H2⟩ (Z7.u 4 (ZaH (H:=H) (id:=id) (off:=4) (cs:=ZaK p fuel a b m) (c:=[b]) (r:=b) kr kr hlc kr (by cases hfb<;>kernel_rfl) kr)
  (Z7.h (hm:=by cases hfb<;>kernel_rfl) 2 (Zpn (H:=H) (ys:=[.agg [iv i,.p (.sl 4 true [])]]) (by cases hfb<;>kernel_rfl) (by cases hfb<;>kernel_rfl) hrw rfl rfl)
  (Z7.h (hm:=by cases hfb<;>kernel_rfl) 0 (ZgE (H:=H++[.arr 2 0 false [[.int .i64 i,c1]]]) (a:=b) (b:=.osl 2 H.length 0 0 1) (by cases hfb<;>kernel_rfl) (by cases hfb<;>kernel_rfl) (by cases hfb<;>kernel_rfl) (ZnM _ _) hap)
  (Z7.o (hm:=by cases hfb<;>cases hfb1<;>kernel_rfl) 2 (Zbi (H:=H1) (v:=b1) (cs:=[b1]) (p:=.ptr id 4) (by cases hfb1<;>kernel_rfl) (by cases hfb<;>kernel_rfl) (by cases hfb<;>kernel_rfl) (by cases hfb<;>kernel_rfl) (by cases hfb1<;>kernel_rfl) hw2)
  (Z7.f (h:=by cases hfb<;>cases hfb1<;>kernel_rfl)))))) (by cases hfb<;>cases hfb1<;>kernel_rfl) ?_
 refine tq (sq ?_)
 clear hrw hap hf1 hb1 hb2 hF1 hw2
 have hlc2:=Fp.get hF2 0 rfl
 obtain ⟨per,hper,h⟩:=bs h
 refine rgS ⟨[(0,.ptr id 0),(1,iv i),(5,iv ((List.length pf:Nat):Int)),(6,iv per)],[],H2⟩ (Z7.u 4 (ZaH (H:=H2) (id:=id) (off:=0) (cs:=ZaK p fuel a b1 m) (c:=[Zak false p.Periods]) (r:=Zak false p.Periods) (hl:=hlc2))
  (Z7.u 1 (Zaf (ys:=[Zak false p.Periods,iv i]) (h:=Zai eI64 hper)) (Z7.u 0 (Zay (sz:=1) (off:=0) (cs:=[.int .i64 per]) (r:=iv per) eI64 hper) Z7.f))) kr ?_
 refine tq ?_
 obtain ⟨most,hmost,h⟩:=bs h
 refine Zen [0,1,5,6] (λs=>s=⟨[(0,.ptr id 0),(1,iv i),(5,iv ((List.length pf:Nat):Int)),(6,iv most)],[],H2⟩) ?_ ?_
 ·clear h
  refine sq (rgS ⟨[(0,.ptr id 0),(1,iv i),(5,iv ((List.length pf:Nat):Int)),(6,iv per),(43,bv (i==0))],[],H2⟩ Z7.f kr (tq (it hmost (λhc hb=>?_) (λhc hb=>?_))))
  ·obtain rfl:=Zar hb
   exact rgS ⟨[(0,.ptr id 0),(1,iv i),(5,iv ((List.length pf:Nat):Int)),(6,iv 1)],[],H2⟩ Z7.f kr (⟨rfl,kr⟩)
  obtain rfl:=Zar hb
  exact sk (⟨rfl,kr⟩)
 rintro s hR
 obtain rfl:=hR
 refine sq (sq (rgS ⟨[(0,.ptr id 0),(1,iv i),(5,iv ((List.length pf:Nat):Int)),(6,iv most),(44,iv most),(45,iv 0)],[],H2⟩ Z7.f kr (tq (bk ?_))))
 obtain ⟨o1,ho1,h⟩:=bs h
 refine Zbc ((ZaV (λ(y:Int×ZbB) s=>∃ a2 b2 cs2 H3,s=⟨[(0,.ptr id 0),(1,iv i),(5,iv ((List.length pf:Nat):Int)),(6,iv most),(44,iv most),(45,iv y.1)],[],H3⟩/\Fp H H3 (Za1 p fuel id m a b cs (pf,gv,kn)) (Za1 p fuel id m a2 b2 cs2 y.2))
  (λy:Int×ZbB=>ZcB N rec_ p i ((List.length pf:Nat):Int) most y.1 y.2)
  (λ(r:ZbB⊕Option ZbB) e s=>match r with
   | .inl s2=>e=.exit 0/\∃ a2 b2 cs2 H2,s=⟨[(0,.ptr id 0),(1,iv i),(5,iv ((List.length pf:Nat):Int)),(6,iv most)],[],H2⟩/\Fp H H2 (Za1 p fuel id m a b cs (pf,gv,kn)) (Za1 p fuel id m a2 b2 cs2 s2)
   | .inr q=>match q with
    | none=>e=.panic (pvl 79)/\Fp H s.H (Za1 p fuel id m a b cs (pf,gv,kn)) []
    | some s2=>e=.ret/\∃ a2 b2 cs2 H2,s=⟨[(4,bv true)],[],H2⟩/\Fp H H2 (Za1 p fuel id m a b cs (pf,gv,kn)) (Za1 p fuel id m a2 b2 cs2 s2))
  (λy o s ho hR=>by
   obtain ⟨a2,b2,cs2,H3,rfl,hF3⟩:=hR
   exact ZhA N rec_ p fuel hrec_ (pf,gv,kn) id m a b cs H i ((List.length pf:Nat):Int) most y.1 y.2 o a2 b2 cs2 H3 hF3 ho) N _ o1 _ ho1 ⟨a,b1,cs++[c1],H2,by show _=_;kernel_rfl,hF2⟩).mono ?_)
 rintro e s hq
 rcases o1 with s2|q
 ·dsimp only at h hq
  obtain ⟨rfl,a2,b2,cs2,H3,rfl,hF3⟩:=hq
  have hlc3:=Fp.get hF3 0 rfl
  refine bx (tq (Zen [] (λs=>∃ (s4:ZbB) (b4:AV) (cs4:List PC) (H4:List HO),r=some (false,s4)/\s=⟨[],[],H4⟩/\Fp H H4 (Za1 p fuel id m a b cs (pf,gv,kn)) (Za1 p fuel id m a2 b4 cs4 s4)) ?_ ?_))
  ·refine sq (rgS ⟨[(0,.ptr id 0),(1,iv i),(5,iv ((List.length pf:Nat):Int)),(6,iv most),(112,bv (decide (most<per)))],[],H3⟩ (Z7.u 5 (ZaH (H:=H3) (id:=id) (off:=0) (cs:=ZaK p fuel a2 b2 m) (c:=[Zak false p.Periods]) (r:=Zak false p.Periods) (hl:=hlc3))
    (Z7.u 1 (Zaf (ys:=[Zak false p.Periods,iv i]) (h:=Zai eI64 hper)) (Z7.u 0 (Zay (sz:=1) (off:=0) (cs:=[.int .i64 per]) (r:=iv per) eI64 hper) Z7.f))) kr ?_)
   refine tq (it h (λhc h=>?_) (λhc h=>?_))
   ·obtain ⟨f4,hf4,h⟩:=bs h
    obtain ⟨cs4,H4,hc4,hF4⟩:=ZiN s2.1 ((List.length pf:Nat):Int) ⟨most,per,-2,0⟩ f4 p id m fuel a2 b2 cs2 H3 (Fp.pk hF3 [0,2] rfl).now hf4
    replace hF4:=Fp.callee (rest:=[.arr a2 1 false (s2.2.1.map eI64),smp m s2.2.2]) (Fp.pk hF3 [0,2,1,3] rfl) hF4
    replace hF4:=Fp.pk (H':=H4) (L:=Za1 p fuel id m a2 b2 cs4 (f4,s2.2)) hF4 [0,2,1,3] rfl
    refine rgS ⟨[],[],H4⟩ (Z7.u 7 (ZaH (H:=H3) (id:=id) (off:=0) (cs:=ZaK p fuel a2 b2 m) (c:=[Zak false p.Periods]) (r:=Zak false p.Periods) (hl:=hlc3))
     (Z7.u 1 (Zaf (ys:=[Zak false p.Periods,iv i]) (h:=Zai eI64 hper)) (Z7.u 0 (Zay (sz:=1) (off:=0) (cs:=[.int .i64 per]) (r:=iv per) eI64 hper)
     (Z7.v 1 (Zc3 (H:=H3) (H1:=H3) (ys:=[.ptr id 0,iv ((List.length pf:Nat):Int),.agg (ZaQ ⟨most,per,-2,0⟩)]) (args:=[.ptr id 0,iv ((List.length pf:Nat):Int),.agg (ZaQ ⟨most,per,-2,0⟩)]) kr kr kr hc4) Z7.f)))) kr ?_
    cases h
    exact ⟨rfl,_,b2,cs4,H4,rfl,kr,hF4⟩
   cases h
   exact sk (⟨rfl,_,b2,cs2,H3,rfl,kr,hF3⟩)
  rintro s ⟨s4,b4,cs4,H4,rfl,rfl,hF4⟩
  exact sq (rgS ⟨[(4,bv false)],[],H4⟩ Z7.f kr (tq (rt (⟨[bv false],kr,false,s4,rfl,rfl,a2,b4,cs4,hF4⟩))))
 rcases q with _|s2
 ·dsimp only at h hq
  obtain ⟨rfl,hF3⟩:=hq
  cases h
  exact bp (tp (⟨rfl,rfl,hF3⟩))
 dsimp only at h hq
 obtain ⟨rfl,a2,b2,cs2,H3,rfl,hF3⟩:=hq
 cases h
 exact br (tr (⟨[bv true],kr,true,s2,rfl,rfl,a2,b2,cs2,hF3⟩))
theorem ZgF (p:Z6)(fuel:Int):∀ N:Nat,Zmi Try.prog p fuel (ZdI N p fuel)
 | 0=>λ_ _ _ _ _ _ _ _ _ _ h=>by cases h
 | N+1=>Zir N (ZdI N p fuel) p fuel (ZgF p fuel N)
theorem ZpE (l:List Z8):((l.map dpC).map λr=>[PC.int .i64 r.1,.sl 4 false r.2])=l.map Zal:=by
 rw [List.map_map];rfl
abbrev Znq (r:List Int×List Z8×Int) (rv:AV) (H':List HO):Prop :=
 ∃ x y b H2,rv=.tup [x,y,iv r.2.2]/\ZaA x=true/\ZaA y=true/\Zms b H' H2/\Zee H2 x=some (Zak false r.1)/\Zee H2 y=some (Z9 false r.2.1)
theorem Zfc (e:Int)(H:List HO):Znq ([],[],e) (.tup [.p (.sl 1 true []),.p (.sl 2 true []),iv e]) H :=
 ⟨_,_,.any,H,rfl,rfl,rfl,Znu _,rfl,rfl⟩
abbrev sH3:List HO:=[.cells [.p (.sl 1 true [])],.cells [.p (.sl 2 true [])],.cells [iv 0]]
abbrev sH5 (p:Z6) (fuel:Int):List HO:=sH3++[.lp mapL [] (.mp 3 []),.cells (ZaK p fuel (.p (.sl 1 true [])) (.p (.sl 2 true [])) 3)]
abbrev Zpq:List ZaL:=[.cel 2 [iv 0],.cel 1 [.p (.sl 2 true [])],.cel 0 [.p (.sl 1 true [])]]
theorem sF5 (p:Z6)(fuel:Int):Fp [] (sH5 p fuel) [] (Za1 p fuel 4 3 (.p (.sl 1 true [])) (.p (.sl 2 true [])) [] ([],[],[])++Zpq):=by
 have h0:Fp [] [] [] []:=Fp.refl (HP.any [])
 obtain ⟨_,_,rfl,rfl,h1⟩:=Fp.newCell h0 [.p (.sl 1 true [])]
 obtain ⟨_,_,rfl,rfl,h2⟩:=Fp.newCell h1 [.p (.sl 2 true [])]
 obtain ⟨_,_,rfl,rfl,h3⟩:=Fp.newCell h2 [iv 0]
 obtain ⟨_,_,rfl,rfl,h4⟩:=Fp.newMp h3 3
 obtain ⟨_,_,rfl,rfl,h5⟩:=Fp.newCell h4 (ZaK p fuel (.p (.sl 1 true [])) (.p (.sl 2 true [])) 3)
 exact Fp.pk (Fp.deepNil (Fp.nilArr h5 1 false) 4) [2,1,0,3,4,5,6] rfl
theorem raw3 {s:St}{H:List HO}{x y z:AV}(h4:get s.fr 4=.ptr 0 0)(h5:get s.fr 5=.ptr 1 0)(h6:get s.fr 6=.ptr 2 0)(g0:H[0]?=some (.cells [x]))(g1:H[1]?=some (.cells [y]))(g2:H[2]?=some (.cells [z]))
  (hx:Zcu x=true) (hy:Zcu y=true) (hz:Zcu z=true):rawL ⟨s.fr,s.bx,H⟩ d9.res=some [x,y,z]:=by
 show rawL _ [.cell 4 1 false,.cell 5 1 false,.cell 6 1 false]=_
 simp [rawL,rawV,h4,h5,h6,rd,g0,g1,g2,sub,mk]
theorem Zc6 (N:Nat)(a0_:Z6)(a1_:Int)(r:List Int×List Z8×Int)(h:Zb5 N a0_ a1_=some r):Zbs Try.prog 9 [.agg (Z5 a0_),iv a1_] (.tup [Zak false r.1,Z9 false r.2.1,iv r.2.2]):=by
 suffices hs:∃ rv H',ZbQ Try.prog 9 [.agg (Z5 a0_),iv a1_] [] rv H'/\Znq r rv H' by
  obtain ⟨rv,H',h1,x,y,b,H2,rfl,hx,hy,h2,h3,h4⟩:=hs
  exact Zkv h1 rfl rfl h2 rfl (Zoy h3 h4 rfl)
 unfold Zb5 at h
 refine ZlI chk9 79 (Znq r) (λrv H' q=>?_) rfl rfl ?_
 ·obtain ⟨x,y,b,H2,rfl,hx,hy,_⟩:=q
  simp [ZaA,ZaA.noLocL,hx,hy]
 refine pq1 (rgS ⟨[(1,iv a1_),(2,.loc 2 0),(4,.ptr 0 0),(5,.ptr 1 0),(6,.ptr 2 0)],[(2,Z5 a0_)],sH3⟩ Z7.f kr (pn (pq1 (sq ?_))))
 obtain ⟨e1,he1,h⟩:=bs h
 refine rgS ⟨[(1,iv a1_),(2,.loc 2 0),(4,.ptr 0 0),(5,.ptr 1 0),(6,.ptr 2 0),(7,iv e1)],[(2,Z5 a0_)],sH3⟩ (Z7.v 1 (ZaM (hc:=Zdv N a0_ e1 he1)) Z7.f) kr (tq (sq (rgS ⟨[(1,iv a1_),(2,.loc 2 0),(4,.ptr 0 0),(5,.ptr 1 0),(6,.ptr 2 0),(7,iv e1),(12,bv (e1 != 0))],[(2,Z5 a0_)],sH3⟩ Z7.f kr (tq (it h (λhc h=>?_) (λhc h=>?_))))))
 ·cases h
  exact sq (rgS ⟨[(4,.ptr 0 0),(5,.ptr 1 0),(6,.ptr 2 0)],[],[.cells [.p (.sl 1 true [])],.cells [.p (.sl 2 true [])],.cells [iv e1]]⟩ Z7.f kr (tq (rt (pr (⟨[.p (.sl 1 true []),.p (.sl 2 true []),iv e1],by kernel_rfl,Zfc e1 _⟩)))))
 refine sk (pn (pq1 (kq (sq (rgX ⟨[(1,iv a1_),(2,.loc 2 0),(4,.ptr 0 0),(5,.ptr 1 0),(6,.ptr 2 0),(19,bv ((decide (a1_<0))||(decide (a1_>1999))))],[(2,Z5 a0_)],sH3⟩ ?_ ?_)))))
 ·rcases Bool.eq_false_or_eq_true (decide (a1_<0)) with hc|hc
  ·exact (EP.u 1 (Zad (c:=(decide (a1_<0))) (h:=hc)) (EP.f (by simp only [hc];kernel_rfl)))
  exact (EP.u 1 (Zad (c:=(decide (a1_<0))) (h:=hc)) (EP.f (by simp only [hc];kernel_rfl)))
 refine tq (it h (λhc h=>?_) (λhc h=>?_))
 ·cases h
  exact sq (rgS ⟨[(4,.ptr 0 0),(5,.ptr 1 0),(6,.ptr 2 0)],[],[.cells [.p (.sl 1 true [])],.cells [.p (.sl 2 true [])],.cells [iv 2]]⟩ Z7.f kr (tq (rt (pr (⟨[.p (.sl 1 true []),.p (.sl 2 true []),iv 2],by kernel_rfl,Zfc 2 _⟩)))))
 refine sk (pn (pq1 (kq (sq (rgS ⟨[(1,iv a1_),(2,.loc 2 0),(4,.ptr 0 0),(5,.ptr 1 0),(6,.ptr 2 0),(23,bv (((List.length a0_.Periods:Nat):Int)==0))],[(2,Z5 a0_)],sH3⟩ (Z7.u 2 (Zaf (ys:=[Zak false a0_.Periods]) (h:=Zao eI64)) Z7.f) kr (tq (it h (λhc h=>?_) (λhc h=>?_))))))))
 ·cases h
  exact sq (rgS ⟨[(4,.ptr 0 0),(5,.ptr 1 0),(6,.ptr 2 0)],[],[.cells [.p (.sl 1 true [])],.cells [.p (.sl 2 true [])],.cells [iv 0]]⟩ Z7.f kr (tq (rt (pr (⟨[.p (.sl 1 true []),.p (.sl 2 true []),iv 0],by kernel_rfl,Zfc 0 _⟩)))))
 refine sk (pn (pk0 (⟨_,22,[.ptr 0 0,.ptr 1 0,.ptr 2 0],AK.z Z7.f,by kernel_rfl,rfl,?_⟩)))
 have hF5:=sF5 a0_ a1_
 refine sq (rgS ⟨[(4,.ptr 0 0),(5,.ptr 1 0),(6,.ptr 2 0),(8,.ptr 4 0)],[],sH5 a0_ a1_⟩ (Z7.h 2 (st_mkMap' (H:=sH3) (id:=3) (H':=sH3++[.lp mapL [] (.mp 3 [])]) 3 kr rfl rfl) (Z7.h 1 (ZeQ (H:=sH3++[.lp mapL [] (.mp 3 [])]) (id:=4) (H':=sH5 a0_ a1_) (v:=.agg (ZaK a0_ a1_ (.p (.sl 1 true [])) (.p (.sl 2 true [])) 3)) kr kr kr rfl rfl) Z7.f)) kr (tq (sq (sq ?_))))
 obtain ⟨o,ho,h⟩:=bs h
 have hpre:HP (sH5 a0_ a1_) (Za1 a0_ a1_ 4 3 (.p (.sl 1 true [])) (.p (.sl 2 true [])) [] ([],[],[])):=Fp.tail (own:=[]) (Fp.pk hF5 [0,1,2,3] rfl)
 rcases ZgF a0_ a1_ N ([],[],[]) 0 o 4 3 (.p (.sl 1 true [])) (.p (.sl 2 true [])) [] (sH5 a0_ a1_) hpre ho with ⟨t,s5,a5,b5,cs5,H6,rfl,hc6,hF6⟩|⟨H6,rfl,hc6,hF6⟩
 ·dsimp only at h
  replace hF6:Fp [] H6 [] (Za1 a0_ a1_ 4 3 a5 b5 cs5 s5++Zpq):=Fp.callee hF5 hF6
  have hlc:=Fp.get hF6 0 rfl
  refine ZpI (rgS ⟨[(4,.ptr 0 0),(5,.ptr 1 0),(6,.ptr 2 0),(8,.ptr 4 0),(31,bv t)],[],H6⟩ (Z7.v 1 (Zc3 (H:=sH5 a0_ a1_) (H1:=sH5 a0_ a1_) (ys:=[.ptr 4 0,iv 0]) (args:=[.ptr 4 0,iv 0]) kr kr kr hc6) Z7.f) kr (tq (it h (λhc h=>?_) (λhc h=>?_))))
  ·cases h
   have hfa:=ZbH (Fp.get hF6 1 rfl)
   obtain ⟨H7,hw7,hF7⟩:=Fp.setCell (k:=6) (off:=0) (vs:=[a5]) (cs':=[a5]) hF6 rfl kr
   obtain ⟨H8,hw8,hF8⟩:=Fp.setCell (k:=5) (off:=0) (vs:=[.p (.sl 2 true [])]) (cs':=[.p (.sl 2 true [])]) hF7 rfl kr
   obtain ⟨H9,hw9,hF9⟩:=Fp.setCell (k:=4) (off:=0) (vs:=[iv 0]) (cs':=[iv 0]) hF8 rfl kr
   refine sq (rgS ⟨[(4,.ptr 0 0),(5,.ptr 1 0),(6,.ptr 2 0)],[],H9⟩ (Z7.u 3 (ZaH (H:=H6) (id:=4) (off:=3) (cs:=ZaK a0_ a1_ a5 b5 3) (c:=[a5]) (r:=a5) kr kr hlc kr (by cases hfa<;>kernel_rfl) kr)
    (Z7.o (hm:=by cases hfa<;>kernel_rfl) 0 (Zbi (H:=H6) (v:=a5) (cs:=[a5]) (p:=.ptr 0 0) (by cases hfa<;>kernel_rfl) (by cases hfa<;>kernel_rfl) (by cases hfa<;>kernel_rfl) (by cases hfa<;>kernel_rfl) (by cases hfa<;>kernel_rfl) hw7)
    (Z7.o (hm:=by cases hfa<;>kernel_rfl) 0 (Zbi (H:=H7) (v:=.p (.sl 2 true [])) (cs:=[.p (.sl 2 true [])]) (p:=.ptr 1 0) kr (by cases hfa<;>kernel_rfl) (by cases hfa<;>kernel_rfl) (by cases hfa<;>kernel_rfl) kr hw8)
    (Z7.o (hm:=by cases hfa<;>kernel_rfl) 0 (Zbi (H:=H8) (v:=iv 0) (cs:=[iv 0]) (p:=.ptr 2 0) kr (by cases hfa<;>kernel_rfl) (by cases hfa<;>kernel_rfl) (by cases hfa<;>kernel_rfl) kr hw9)
    (Z7.f (h:=by cases hfa<;>kernel_rfl)))))) (by cases hfa<;>kernel_rfl) ?_)
   refine tq (rt (tr ?_))
   have hpa:HP H9 [.arr a5 1 false (s5.2.1.map eI64)]:=hp1 (Fp.get hF9 1 rfl)
   refine ⟨.returning,.returning,H9,[a5,.p (.sl 2 true []),iv 0],.ret,ZhK ZpH rfl,raw3 (s:=⟨[(4,.ptr 0 0),(5,.ptr 1 0),(6,.ptr 2 0)],[],H9⟩) rfl rfl rfl (Fp.get hF9 6 rfl) (Fp.get hF9 5 rfl) (Fp.get hF9 4 rfl) (by cases hfa<;>rfl) rfl rfl,?_⟩
   exact ⟨a5,_,.any,H9,rfl,by cases hfa<;>rfl,rfl,Znu _,(HP.pure (k:=0) eI64 hpa rfl).2,rfl⟩
  cases h
  refine sk (tq (kq (sq ?_)))
  have hfb:=ZkX (Fp.get hF6 2 rfl)
  obtain ⟨H7,hw7,hF7⟩:=Fp.setCell (k:=6) (off:=0) (vs:=[.p (.sl 1 true [])]) (cs':=[.p (.sl 1 true [])]) hF6 rfl kr
  obtain ⟨H8,hw8,hF8⟩:=Fp.setCell (k:=5) (off:=0) (vs:=[b5]) (cs':=[b5]) hF7 rfl kr
  obtain ⟨H9,hw9,hF9⟩:=Fp.setCell (k:=4) (off:=0) (vs:=[iv 4]) (cs':=[iv 4]) hF8 rfl kr
  refine rqS (hs:=kr) ⟨[(4,.ptr 0 0),(5,.ptr 1 0),(6,.ptr 2 0)],[],H9⟩ (Z7.u 3 (ZlV (H:=H6) (id:=4) (off:=4) (cs:=ZaK a0_ a1_ a5 b5 3) (c:=[b5]) (r:=b5) (zs:=[.t 4]) (vs:=[.ptr 0 0]) kr kr hlc kr (by cases hfb<;>kernel_rfl) kr kr rfl)
   (Z7.o (hm:=by cases hfb<;>kernel_rfl) 0 (ZlU (Zbi (H:=H6) (v:=.p (.sl 1 true [])) (cs:=[.p (.sl 1 true [])]) (p:=.ptr 0 0) kr (by cases hfb<;>kernel_rfl) (by cases hfb<;>kernel_rfl) (by cases hfb<;>kernel_rfl) kr hw7) (by cases hfb<;>kernel_rfl))
   (Z7.o (hm:=by cases hfb<;>kernel_rfl) 0 (ZlU (Zbi (H:=H7) (v:=b5) (cs:=[b5]) (p:=.ptr 1 0) (by cases hfb<;>kernel_rfl) (by cases hfb<;>kernel_rfl) (by cases hfb<;>kernel_rfl) (by cases hfb<;>kernel_rfl) (by cases hfb<;>kernel_rfl) hw8) (by cases hfb<;>kernel_rfl))
   (Z7.o (hm:=by cases hfb<;>kernel_rfl) 0 (ZlU (Zbi (H:=H8) (v:=iv 4) (cs:=[iv 4]) (p:=.ptr 2 0) kr (by cases hfb<;>kernel_rfl) (by cases hfb<;>kernel_rfl) (by cases hfb<;>kernel_rfl) kr hw9) (by cases hfb<;>kernel_rfl))
   (Z7.f (h:=by cases hfb<;>kernel_rfl)))))) (by cases hfb<;>kernel_rfl) ?_
  refine tq (rt ?_)
  obtain ⟨a2,a0,a1⟩:=Fp.deepSeal (k:=2) hF9 rfl
  have hpb:HP a2 [.arr b5 2 false (s5.1.map Zal)]:=by
   have:=Fp.get a1 2 rfl
   rw [← ZpE]
   exact hp1 this
  refine ⟨.returning,.returning,H9,[.p (.sl 1 true []),b5,iv 4],.ret,ZhK ZpH rfl,raw3 (s:=⟨[(4,.ptr 0 0),(5,.ptr 1 0),(6,.ptr 2 0)],[],H9⟩) rfl rfl rfl (Fp.get hF9 6 rfl) (Fp.get hF9 5 rfl) (Fp.get hF9 4 rfl) rfl (by cases hfb<;>rfl) rfl,?_⟩
  exact ⟨_,b5,b5,a2,rfl,rfl,by cases hfb<;>rfl,a0,rfl,(HP.pure (k:=0) Zal hpb rfl).2⟩
 dsimp only at h
 cases h
 replace hF6:Fp [] H6 [] ([]++Zpq):=Fp.callee hF5 hF6
 obtain ⟨H7,hw7,hF7⟩:=Fp.setCell (k:=2) (off:=0) (vs:=[.p (.sl 1 true [])]) (cs':=[.p (.sl 1 true [])]) hF6 rfl kr
 obtain ⟨H8,hw8,hF8⟩:=Fp.setCell (k:=1) (off:=0) (vs:=[.p (.sl 2 true [])]) (cs':=[.p (.sl 2 true [])]) hF7 rfl kr
 obtain ⟨H9,hw9,hF9⟩:=Fp.setCell (k:=0) (off:=0) (vs:=[iv 8]) (cs':=[iv 8]) hF8 rfl kr
 refine Zpi 1 _ rfl (AK.z Z7.f) ⟨trivial,_,_,_,[.ptr 4 0,iv 0],sH5 a0_ a1_,rfl,Pass.frz kr,hc6⟩ [4,5,6] (tp (tp (⟨_,_,H9,[.p (.sl 1 true []),.p (.sl 2 true []),iv 8],.panic,ZmB (s':=⟨[(0,.ptr 0 0),(1,.ptr 1 0),(2,.ptr 2 0)],[],H9⟩) ZpH rfl ⟨⟨[(0,.ptr 0 0),(1,.ptr 1 0),(2,.ptr 2 0)],[],H7⟩,?_,⟨[(0,.ptr 0 0),(1,.ptr 1 0),(2,.ptr 2 0)],[],H8⟩,?_,_,?_,rfl⟩ rfl,raw3 kr kr kr (Fp.get hF9 2 rfl) (Fp.get hF9 1 rfl) (Fp.get hF9 0 rfl) rfl rfl rfl,Zfc 8 _⟩)))
 ·exact Zbi (P:=Try.prog) (H:=H6) (v:=.p (.sl 1 true [])) (cs:=[.p (.sl 1 true [])]) (p:=.ptr 0 0) kr kr kr kr kr hw7
 ·exact Zbi (P:=Try.prog) (H:=H7) (v:=.p (.sl 2 true [])) (cs:=[.p (.sl 2 true [])]) (p:=.ptr 1 0) kr kr kr kr kr hw8
 exact Zbi (P:=Try.prog) (H:=H8) (v:=iv 8) (cs:=[iv 8]) (p:=.ptr 2 0) kr kr kr kr kr hw9
theorem Zc8 (N:Nat)(a0_:Z6)(a1_:Int)(a2_:(List Int))(r:Bool)(h:Zew N a0_ a1_ a2_=some r):Zbs Try.prog 14 [.agg (Z5 a0_),iv a1_,Zak false a2_] (bv r):=by
 unfold Zew at h
 have hH  := hp0
 refine ZaO ZwX rfl rfl (Zaw _ _ _ ?_) rfl
 refine sq (rg Z7.f (tq (sq ?_)))
 obtain ⟨r1,hr1,h⟩:=bs h
 refine rg (Z7.v 2 (ZaM (hc:=Zc6 N a0_ a1_ r1 hr1)) Z7.f) (tq (sq ?_))
 obtain ⟨j7,hj,h⟩:=bs h
 refine rgR (λs=>s=⟨[(6,bv j7)],[],[]⟩) ?_ ?_
 ·clear h
  rcases ZaJ hj with ⟨hc2,hj⟩|⟨hc6,hj⟩
  ·refine (EP.u 1 (Zad (c:=(r1.2.2==0)) (h:=hc2)) (EP.u 2 (Zaf (ys:=[Z9 false r1.2.1]) (h:=Zao Zal)) ?_))
   rcases ZaJ hj with ⟨hc3,hj⟩|⟨hc5,hj⟩
   ·refine (EP.u 0 (Zad (c:=(((List.length r1.2.1:Nat):Int)==0)) (h:=hc3)) ?_)
    obtain ⟨r4,hr4,hj⟩:=bs hj
    obtain rfl:=Zar hj
    exact (EP.v 4 (ZaM (hc:=Zec N r1.1 a2_ r4 hr4)) (EP.f kr))
   obtain rfl:=Zar hj
   exact (EP.u 0 (Zad (c:=(((List.length r1.2.1:Nat):Int)==0)) (h:=hc5)) (EP.f kr))
  obtain rfl:=Zar hj
  exact (EP.u 1 (Zad (c:=(r1.2.2==0)) (h:=hc6)) (EP.f kr))
 clear hj
 rintro s hR
 obtain rfl:=hR
 refine tq (rt ?_)
 cases h
 exact ZaF kr
theorem Zcw (N:Nat)(a0_:Z6)(a1_:Int)(a2_:Int)(r:Bool)(h:ZdQ N a0_ a1_ a2_=some r):Zbs Try.prog 15 [.agg (Z5 a0_),iv a1_,iv a2_] (bv r):=by
 unfold ZdQ at h
 have hH  := hp0
 refine ZaO ZwW rfl rfl (Zaw _ _ _ ?_) rfl
 refine sq (rg Z7.f (tq (sq ?_)))
 obtain ⟨r1,hr1,h⟩:=bs h
 refine rg (Z7.v 2 (ZaM (hc:=Zc6 N a0_ a1_ r1 hr1)) Z7.f) (tq (sq (rgX ⟨[(6,bv ((r1.2.2==a2_)&&((((List.length r1.1:Nat):Int)==0)&&((decide (((List.length r1.2.1:Nat):Int)>0))==(r1.2.2==4)))))],[],[]⟩ ?_ ?_)))
 ·rcases Bool.eq_false_or_eq_true (r1.2.2==a2_) with hc2|hc5
  ·refine (EP.u 2 (Zad (c:=(r1.2.2==a2_)) (h:=hc2)) (EP.u 2 (Zaf (ys:=[Zak false r1.1]) (h:=Zao eI64)) ?_))
   rcases Bool.eq_false_or_eq_true (((List.length r1.1:Nat):Int)==0) with hc3|hc4
   ·exact (EP.u 0 (Zad (c:=(((List.length r1.1:Nat):Int)==0)) (h:=hc3)) (EP.u 3 (Zaf (ys:=[Z9 false r1.2.1]) (h:=Zao Zal)) (EP.f (by simp only [hc2,hc3];kernel_rfl))))
   exact (EP.u 0 (Zad (c:=(((List.length r1.1:Nat):Int)==0)) (h:=hc4)) (EP.f (by simp only [hc2,hc4];kernel_rfl)))
  exact (EP.u 2 (Zad (c:=(r1.2.2==a2_)) (h:=hc5)) (EP.f (by simp only [hc5];kernel_rfl)))
 refine tq (rt ?_)
 cases h
 exact ZaF kr
theorem ZgN (N:Nat)(a0_:Z6)(a1_:(List Int))(r:Bool×Int)(h:Zef N a0_ a1_=some r):Zbs Try.prog 18 [.agg (Z5 a0_),Zak false a1_] (.tup [bv r.1,iv r.2]):=by
 unfold Zef at h
 have hH  := hp0
 refine ZaO ZwT rfl rfl (Zaw _ _ _ ?_) rfl
 refine sq (rg Z7.f (tq (sq (sq ?_))))
 obtain ⟨r1,hr1,h⟩:=bs h
 refine rg (Z7.v 1 (ZaM (hc:=Zdv N a0_ r1 hr1)) Z7.f) (tq (sq (rg Z7.f (tq (it h (λhc2 h=>?_) (λhc2 h=>?_))))))
 ·refine sq (rg Z7.f (tq (rt (tr ?_))))
  cases h
  exact ZaF kr
 refine sk (tq (kq (sq (sq (rg (Z7.u 1 (Zaf (ys:=[Zak false a1_]) (h:=Zao eI64)) (Z7.u 2 (Zaf (ys:=[Zak false a0_.Periods]) (h:=Zao eI64)) Z7.f)) (tq (it h (λhc3 h=>?_) (λhc3 h=>?_))))))))
 ·refine sq (rg Z7.f (tq (rt (tr ?_))))
  cases h
  exact ZaF kr
 refine sk (tq (kq (sq (sq (rg (Z7.u 1 (Zaf (ys:=[Zak false a1_]) (h:=Zao eI64)) Z7.f) (tq (bk ?_)))))))
 obtain ⟨al,ab,h⟩:=bs h
 refine Zbc ((ZaV (λ(x:Int) s=>s=⟨[(1,Zak false a1_),(2,.loc 2 0),(24,Zak false a1_),(25,iv ((List.length a1_:Nat):Int)),(26,iv x)],[(2,(Z5 a0_))],[]⟩) (λx:Int=>ZcE N a0_ a1_ x) (λ(p:(Unit)⊕(Bool×Int)) e s=>match p with|(.inl p)=>e=.exit 0/\(s=⟨[(1,Zak false a1_),(2,.loc 2 0)],[(2,(Z5 a0_))],[]⟩)|(.inr p)=>e=.ret/\∃ xs,resL s i18.res=some xs/\ZbL xs=.tup [bv p.1,iv p.2]) ?_ N _ al _ ab kr).mono ?_)
 ·clear h ab
  rintro i4 o s h hR
  obtain rfl:=hR
  replace h:ZcE N a0_ a1_ i4=some o:=h
  unfold ZcE at h
  refine sq (rg Z7.f (tq (sq (it h (λao h=>?_) (λao h=>?_)))))
  ·refine sk (tq (kq (sq (bk (sq ?_)))))
   obtain ⟨aj,ac,h⟩:=bs h
   refine rg (Z7.u 1 (Zaf (ys:=[Zak false a1_,iv i4]) (h:=Zai eI64 ac)) (Z7.u 0 (Zay (sz:=1) (off:=0) (cs:=[.int .i64 aj]) (r:=iv aj) eI64 ac) Z7.f)) (tq (sq ?_))
   obtain ⟨ap,am,h⟩:=bs h
   refine rg (Z7.v 3 (ZaM (hc:=Zd6 N a0_ i4 aj ap am)) Z7.f) (tq (it h (λan h=>?_) (λan h=>?_)))
   ·refine sq (rg Z7.f (tq (rt (br (tr ?_)))))
    cases h
    exact ⟨_,rfl,rfl,ZaF kr⟩
   refine sk (bn (tq (kq (rg Z7.f ?_))))
   cases h
   exact ⟨_,rfl,kr⟩
  refine kq (xq (tx ?_))
  cases h
  exact ⟨_,rfl,rfl,kr⟩
 rintro e s hq
 rcases al with ax|aq
 ·dsimp only at h hq
  obtain ⟨rfl,hR⟩:=hq
  obtain rfl:=hR
  refine bx (tq (sq (sq (rg (Z7.u 1 (Zaf (ys:=[Zak false a1_]) (h:=Zao eI64)) Z7.f) (tq (bk ?_))))))
  obtain ⟨a9,a4,h⟩:=bs h
  refine Zbc ((ZaV (λ(x:Int) s=>s=⟨[(1,Zak false a1_),(2,.loc 2 0),(37,Zak false a1_),(38,iv ((List.length a1_:Nat):Int)),(39,iv x)],[(2,(Z5 a0_))],[]⟩) (λx:Int=>ZcD N a0_ a1_ x) (λ(p:(Unit)⊕(Bool×Int)) e s=>match p with|(.inl p)=>e=.exit 2/\(s=⟨[],[],[]⟩)|(.inr p)=>e=.ret/\∃ xs,resL s i18.res=some xs/\ZbL xs=.tup [bv p.1,iv p.2]) ?_ N _ a9 _ a4 kr).mono ?_)
  ·clear h a4
   rintro a2 o s h hR
   obtain rfl:=hR
   replace h:ZcD N a0_ a1_ a2=some o:=h
   unfold ZcD at h
   refine sq (rg Z7.f (tq (sq (it h (λai h=>?_) (λai h=>?_)))))
   ·refine sk (tq (kq (sq (bk (sq ?_)))))
    obtain ⟨a1,a7,h⟩:=bs h
    refine rg (Z7.u 1 (Zaf (ys:=[Zak false a1_,iv a2]) (h:=Zai eI64 a7)) (Z7.u 0 (Zay (sz:=1) (off:=0) (cs:=[.int .i64 a1]) (r:=iv a1) eI64 a7) Z7.f)) (tq (sq ?_))
    obtain ⟨a0,ae,h⟩:=bs h
    refine rg (Z7.u 3 (Zaf (ys:=[Zak false a1_,iv (w64 (a2+1))]) (h:=Zjm eI64 ae)) (Z7.u 0 (Zaf (ys:=[Zak false a0]) (h:=Zao eI64)) Z7.f)) (tq (bk ?_))
    obtain ⟨aa,a5,h⟩:=bs h
    refine Zbc ((ZaV (λ(x:Int) s=>s=⟨[(1,Zak false a1_),(2,.loc 2 0),(9,iv a2),(10,iv a1),(37,Zak false a1_),(38,iv ((List.length a1_:Nat):Int)),(39,iv a2),(47,Zak false a0),(48,iv ((List.length a0:Nat):Int)),(49,iv x)],[(2,(Z5 a0_))],[]⟩) (λx:Int=>ZcC N a0_ a2 a1 a0 x) (λ(p:(Unit)⊕(Bool×Int)) e s=>match p with|(.inl p)=>e=.exit 4/\(s=⟨[(1,Zak false a1_),(2,.loc 2 0),(37,Zak false a1_),(38,iv ((List.length a1_:Nat):Int)),(39,iv a2)],[(2,(Z5 a0_))],[]⟩)|(.inr p)=>e=.ret/\∃ xs,resL s i18.res=some xs/\ZbL xs=.tup [bv p.1,iv p.2]) ?_ N _ aa _ a5 kr).mono ?_)
    ·clear h a5
     rintro a3 o s h hR
     obtain rfl:=hR
     replace h:ZcC N a0_ a2 a1 a0 a3=some o:=h
     unfold ZcC at h
     refine sq (rg Z7.f (tq (sq (it h (λag h=>?_) (λag h=>?_)))))
     ·refine sk (tq (kq (sq (bk (sq ?_)))))
      obtain ⟨a8,a6,h⟩:=bs h
      refine rg (Z7.u 1 (Zaf (ys:=[Zak false a0,iv a3]) (h:=Zai eI64 a6)) (Z7.u 0 (Zay (sz:=1) (off:=0) (cs:=[.int .i64 a8]) (r:=iv a8) eI64 a6) Z7.f)) (tq (sq ?_))
      obtain ⟨ak,ad,h⟩:=bs h
      refine rg (Z7.v 5 (ZaM (hc:=ZeG N a0_ a3 a8 a2 a1 ak ad)) Z7.f) (tq (it h (λaf h=>?_) (λaf h=>?_)))
      ·refine sq (rg Z7.f (tq (rt (br (tr ?_)))))
       cases h
       exact ⟨_,rfl,rfl,ZaF kr⟩
      refine sk (bn (tq (kq (rg Z7.f ?_))))
      cases h
      exact ⟨_,rfl,kr⟩
     refine kq (xq (tx ?_))
     cases h
     exact ⟨_,rfl,rfl,kr⟩
    rintro e s hq
    rcases aa with aw|av
    ·dsimp only at h hq
     obtain ⟨rfl,hR⟩:=hq
     obtain rfl:=hR
     refine bx (bn (tq (rg Z7.f ?_)))
     cases h
     exact ⟨_,rfl,kr⟩
    dsimp only at h hq
    obtain ⟨rfl,hq⟩:=hq
    refine br (br (tr ?_))
    cases h
    exact ⟨_,rfl,rfl,hq⟩
   refine kq (xq (tx ?_))
   cases h
   exact ⟨_,rfl,rfl,kr⟩
  rintro e s hq
  rcases a9 with au|ar
  ·dsimp only at h hq
   obtain ⟨rfl,hR⟩:=hq
   obtain rfl:=hR
   refine bx (tq (sq (rg Z7.f (tq (rt ?_)))))
   cases h
   exact ZaF kr
  dsimp only at h hq
  obtain ⟨rfl,hq⟩:=hq
  refine br (tr ?_)
  cases h
  exact hq
 dsimp only at h hq
 obtain ⟨rfl,hq⟩:=hq
 refine br (tr ?_)
 cases h
 exact hq
theorem Ziw (N:Nat)(a0_:Z6)(a1_:(List Z8))(r:Bool)(h:ZdM N a0_ a1_=some r):Zbs Try.prog 30 [.agg (Z5 a0_),Z9 false a1_] (bv r):=by
 unfold ZdM at h
 have hH  := hp0
 refine ZaO ZwM rfl rfl (Zaw _ _ _ ?_) rfl
 refine sq (rg Z7.f (tq (sq ?_)))
 obtain ⟨r1,hr1,h⟩:=bs h
 obtain ⟨id3,id4,idm5,H2,hvr1,hpr1⟩:=Zf4 N a0_ [] r1 hr1
 replace hH:HP _ [.cel id3 (Z5 r1.1),.cel id4 [.map idm5],mpT idm5 3 (encE Zaa bv r1.2)]:=HP.callee (fp:=[]) (rest:=[]) hH hpr1
 refine rg (Z7.v 1 (Zc3 (H:=[]) (ys:=[.agg (Z5 a0_)]) kr kr kr hvr1) Z7.f) (tq (sq ?_))
 obtain ⟨id6,H7,hid6,hH7,hH⟩:=HP.newCell hH [ZbZ true []]
 replace hH:HP _ [.cel id6 [ZbZ true []],.cel id3 (Z5 r1.1),.cel id4 [.map idm5],mpT idm5 3 (encE Zaa bv r1.2)]:=hH
 refine rg (Z7.h 0 (Zlg (H:=H2) kr hid6 hH7) Z7.f) (tq (sq (rg Z7.f (tq (sq (rg Z7.f (tq (sq (sq (rg Z7.f (tq (bk ?_))))))))))))
 obtain ⟨cf,cc,h⟩:=bs h
 refine Zbc ((ZaV (λ(x:Int×Zac) s=>s=⟨[(1,Z9 false a1_),(5,.fn 51 [] [.ptr id3 0,.ptr id4 0]),(6,.ptr id6 0),(7,.fn 42 [] [.ptr id6 0]),(8,.loc 8 0),(18,iv x.1)],[(8,(Zaz x.2))],H7⟩) (λx:Int×Zac=>Zcp N x.1 x.2) (λ(p:Zac) e s=>e=.exit 0/\(s=⟨[(1,Z9 false a1_),(5,.fn 51 [] [.ptr id3 0,.ptr id4 0]),(6,.ptr id6 0),(7,.fn 42 [] [.ptr id6 0]),(8,.loc 8 0)],[(8,(Zaz p))],H7⟩)) ?_ N _ cf _ cc kr).mono ?_)
 ·clear h cc
  rintro ⟨i8,l9⟩ o s h hR
  obtain rfl:=hR
  replace h:Zcp N i8 l9=some o:=h
  unfold Zcp at h
  refine sq (rg Z7.f (tq (sq (it h (λcR h=>?_) (λcR h=>?_)))))
  ·refine sk (tq (kq (sq (bk (sq (rg Z7.f (tq ?_)))))))
   obtain ⟨df,cd,h⟩:=bs h
   refine rg (Z7.u 1 (Zaf (ys:=[.loc 8 0,iv i8]) (h:=Zc9 (l:=l9.l) cd rfl)) (Z7.o 0 (ZiL (t:=8) (off:=0) (cs:=(Zaz l9)) (l:=l9.l) (λx=>iv x) [] [] (y:=(-1)) (cs':=(Zaz (Zac.set l9 i8 (-1)))) cd kr kr kr rfl rfl (Zog (Zac.c_set l9 i8 (-1)) (by show (Zaz (Zac.set l9 i8 (-1)))=[]++(Zaz (Zac.set l9 i8 (-1))++[]);rfl))) Z7.f)) (bn (tq (rg Z7.f ?_)))
   cases h
   exact ⟨_,rfl,kr⟩
  refine kq (xq (tx ?_))
  cases h
  exact ⟨_,rfl,rfl,kr⟩
 rintro e s hq
 obtain ⟨rfl,hR⟩:=hq
 obtain rfl:=hR
 refine bx (tq (sq ?_))
 obtain ⟨c5,cl,h⟩:=bs h
 have bm:∀ (aG:Int) (aE:Zac) (s:(List Zag)) (r:(((List Zag)))) (H:List HO) (its:List ZaL),(λ(s:(List Zag)) (its:List ZaL)=>∃ (a7:AV),its=[.arr a7 13 false (List.map Zab s),.cel id6 [a7],.cel id3 (Z5 r1.1),.cel id4 [.map idm5],mpT idm5 3 (encE Zaa bv r1.2)]) s its->HP H its->(λ(s:(List Zag)) (aG:Int) (aE:Zac)=>Zcr N s aG aE) s aG aE=some r->∃ H' its',ZiI Try.prog (.fn 42 [] [.ptr id6 0]) [iv aG,.agg (Zaz aE)] H (.tup []) H'/\(λ(s:(List Zag)) (its:List ZaL)=>∃ (a7:AV),its=[.arr a7 13 false (List.map Zab s),.cel id6 [a7],.cel id3 (Z5 r1.1),.cel id4 [.map idm5],mpT idm5 3 (encE Zaa bv r1.2)]) r its'/\Fp H H' its its':=by
  clear h
  intro aG aE s q aR its hT hH h
  obtain ⟨bi,rfl⟩:∃ v,v=s:=⟨s,rfl⟩
  obtain ⟨a7,rfl⟩:=hT
  replace h:Zcr N bi aG aE=some q:=h
  unfold Zcr at h
  replace hH:Fp _ _ _ [.arr a7 13 false (List.map Zab bi),.cel id6 [a7],.cel id3 (Z5 r1.1),.cel id4 [.map idm5],mpT idm5 3 (encE Zaa bv r1.2)]:=Fp.refl hH
  have ae:=ZbH (Fp.get hH 0 rfl)
  suffices hs:∃ H',ZbQ Try.prog 42 [iv aG,.agg (Zaz aE),.ptr id6 0] aR (.tup []) H'/\∃ its',(λ(s:(List Zag)) (its:List ZaL)=>∃ (a7:AV),its=[.arr a7 13 false (List.map Zab s),.cel id6 [a7],.cel id3 (Z5 r1.1),.cel id4 [.map idm5],mpT idm5 3 (encE Zaa bv r1.2)]) q its'/\Fp aR H' [.arr a7 13 false (List.map Zab bi),.cel id6 [a7],.cel id3 (Z5 r1.1),.cel id4 [.map idm5],mpT idm5 3 (encE Zaa bv r1.2)] its' by
   obtain ⟨H',h1,its',h2,h3⟩:=hs
   exact ⟨H',its',ZiI.of kr h1,h2,h3⟩
  refine Zdj Zrk (λH'=>∃ its',(λ(s:(List Zag)) (its:List ZaL)=>∃ (a7:AV),its=[.arr a7 13 false (List.map Zab s),.cel id6 [a7],.cel id3 (Z5 r1.1),.cel id4 [.map idm5],mpT idm5 3 (encE Zaa bv r1.2)]) q its'/\Fp aR H' [.arr a7 13 false (List.map Zab bi),.cel id6 [a7],.cel id3 (Z5 r1.1),.cel id4 [.map idm5],mpT idm5 3 (encE Zaa bv r1.2)] its') rfl rfl rfl ?_
  show vc _ _ _ _ ⟨[(0,iv aG),(1,.agg (Zaz aE)),(2,.ptr id6 0)],[],aR⟩
  refine sq (rg Z7.f (tq ?_))
  have bT:=Fp.get hH 1 rfl
  obtain ⟨cb,co,h⟩:=bs h
  obtain ⟨ay,d0,cB,hH⟩:=Fp.app (k:=0) (a:=a7) (sz:=13) (frz:=false) Zab hH rfl co
  replace hH:Fp _ _ _ [.arr ay 13 false (List.map Zab cb),.cel id6 [a7],.cel id3 (Z5 r1.1),.cel id4 [.map idm5],mpT idm5 3 (encE Zaa bv r1.2)]:=hH
  have an:=ZbH (Fp.get hH 0 rfl)
  obtain ⟨cZ,cI,hH⟩:=Fp.setCell (k:=1) (off:=0) (cs:=[a7]) (vs:=[ay]) (cs':=[ay]) hH rfl kr
  replace hH:Fp _ _ _ [.arr ay 13 false (List.map Zab cb),.cel id6 [ay],.cel id3 (Z5 r1.1),.cel id4 [.map idm5],mpT idm5 3 (encE Zaa bv r1.2)]:=hH
  refine rgS ⟨[],[],cZ⟩ (Z7.u 0 (ZaH (H:=aR) (id:=id6) (off:=0) (cs:=[a7]) (c:=[a7]) (r:=a7) (by cases ae<;>kernel_rfl) (by cases ae<;>kernel_rfl) bT (by cases ae<;>kernel_rfl) (by cases ae<;>kernel_rfl) (by cases ae<;>kernel_rfl)) (Z7.h 4 (ZgE (H:=aR) (a:=a7) (b:=ZbZ true [(Zag.mk aG aE)]) (by cases ae<;>kernel_rfl) (by cases ae<;>kernel_rfl) (by cases ae<;>kernel_rfl) (by cases ae<;>kernel_rfl) cB) (Z7.o 0 (Zbi (H:=d0) (v:=ay) (cs:=[ay]) (by cases an<;>kernel_rfl) (by cases an<;>kernel_rfl) (by cases an<;>kernel_rfl) (by cases an<;>kernel_rfl) (by cases an<;>kernel_rfl) cI) Z7.f))) (by cases an<;>cases ae<;>kernel_rfl) ?_
  cases h
  exact ⟨[],kr,kr,_,⟨ay,Eq.refl _⟩,(Fp.pk hH [0,1,2,3,4] rfl)⟩
 obtain ⟨cY,cL,bu,bZ,c2⟩:=bm 0 cf [] c5 H7 [.arr (.p (.sl 13 true [])) 13 false (List.map Zab []),.cel id6 [ZbZ true []],.cel id3 (Z5 r1.1),.cel id4 [.map idm5],mpT idm5 3 (encE Zaa bv r1.2)] (by exact ⟨(.p (.sl 13 true [])),Eq.refl _⟩) (HP.now (HP.pick (HP.nilArr hH 13 false) [0,1,2,3,4] rfl)) cl
 obtain ⟨a7,rfl⟩:=bZ
 replace hH:HP _ [.arr a7 13 false (List.map Zab c5),.cel id6 [a7],.cel id3 (Z5 r1.1),.cel id4 [.map idm5],mpT idm5 3 (encE Zaa bv r1.2)]:=HP.callee (fp:=[.arr (.p (.sl 13 true [])) 13 false (List.map Zab []),.cel id6 [ZbZ true []],.cel id3 (Z5 r1.1),.cel id4 [.map idm5],mpT idm5 3 (encE Zaa bv r1.2)]) (rest:=[]) (HP.pick (HP.nilArr hH 13 false) [0,1,2,3,4] rfl) c2
 have ae:=ZbH (HP.get hH 0 rfl)
 refine rg (Z7.v 2 (Zjv (H:=H7) (fv:=.fn 42 [] [.ptr id6 0]) (ys:=[iv 0,.agg (Zaz cf)]) (hc:=bu)) Z7.f) (tq (sq (bk ?_)))
 obtain ⟨c7,aU,h⟩:=bs h
 refine Zbc ((ZaV (λ(x:(List Zag)×(List (Zah×Bool))) s=>∃ (a2:AV) (af:List HO),s=⟨[(1,Z9 false a1_),(5,.fn 51 [] [.ptr id3 0,.ptr id4 0]),(6,.ptr id6 0),(7,.fn 42 [] [.ptr id6 0])],[],af⟩/\HP af [.arr a2 13 false (List.map Zab x.1),.cel id3 (Z5 r1.1),.cel id4 [.map idm5],.cel id6 [a2],mpT idm5 3 (encE Zaa bv x.2)]) (λx:(List Zag)×(List (Zah×Bool))=>ZbG N a1_ r1 x.1 x.2) (λ(p:(Unit)⊕(Bool)) e s=>match p with|(.inl p)=>e=.exit 2/\(∃ (bf:List HO),s=⟨[],[],bf⟩/\HP bf [])|(.inr p)=>e=.ret/\∃ xs,resL s i30.res=some xs/\ZbL xs=bv p) ?_ N _ c7 _ aU ⟨a7,cY,kr,(HP.pick hH [0,2,3,1,4] rfl)⟩).mono ?_)
 ·clear h aU
  rintro ⟨az,aK⟩ o s h hR
  obtain ⟨a2,af,rfl,hH⟩:=hR
  replace hH:HP _ [.arr a2 13 false (List.map Zab az),.cel id3 (Z5 r1.1),.cel id4 [.map idm5],.cel id6 [a2],mpT idm5 3 (encE Zaa bv aK)]:=hH
  have a0:=ZbH (HP.get hH 0 rfl)
  replace h:ZbG N a1_ r1 az aK=some o:=h
  unfold ZbG at h
  refine sq (sq ?_)
  have bR:=HP.get hH 3 rfl
  have bA:=HP.len (k:=0) (a:=a2) (sz:=13) (frz:=false) (l:=az) Zab hH rfl
  refine rgS ⟨[(1,Z9 false a1_),(5,.fn 51 [] [.ptr id3 0,.ptr id4 0]),(6,.ptr id6 0),(7,.fn 42 [] [.ptr id6 0]),(29,bv (decide (((List.length az:Nat):Int)>0)))],[],af⟩ (Z7.u 0 (ZaH (H:=af) (id:=id6) (off:=0) (cs:=[a2]) (c:=[a2]) (r:=a2) (by cases a0<;>kernel_rfl) (by cases a0<;>kernel_rfl) bR (by cases a0<;>kernel_rfl) (by cases a0<;>kernel_rfl) (by cases a0<;>kernel_rfl)) (Z7.u 0 (Zaf (ys:=[a2]) (by cases a0<;>kernel_rfl) bA) Z7.f)) (by cases a0<;>kernel_rfl) (tq (it h (λcy h=>?_) (λcy h=>?_)))
  ·refine sk (tq (kq (bk (sq ?_))))
   have bQ:=HP.get hH 3 rfl
   have bM:=HP.get hH 3 rfl
   have bz:=HP.len (k:=0) (a:=a2) (sz:=13) (frz:=false) (l:=az) Zab hH rfl
   obtain ⟨a4,bc,h⟩:=bs h
   obtain ⟨d8,d2,_,cM,bV,cQ,aZ⟩:=HP.elem (k:=0) (a:=a2) (sz:=13) (frz:=false) Zab hH rfl bc
   refine rgS ⟨[(1,Z9 false a1_),(5,.fn 51 [] [.ptr id3 0,.ptr id4 0]),(6,.ptr id6 0),(7,.fn 42 [] [.ptr id6 0]),(10,.loc 10 0)],[(10,(ZcI a4))],af⟩ (Z7.u 0 (ZaH (H:=af) (id:=id6) (off:=0) (cs:=[a2]) (c:=[a2]) (r:=a2) (by cases a0<;>kernel_rfl) (by cases a0<;>kernel_rfl) bQ (by cases a0<;>kernel_rfl) (by cases a0<;>kernel_rfl) (by cases a0<;>kernel_rfl)) (Z7.u 0 (ZaH (H:=af) (id:=id6) (off:=0) (cs:=[a2]) (c:=[a2]) (r:=a2) (by cases a0<;>kernel_rfl) (by cases a0<;>kernel_rfl) bM (by cases a0<;>kernel_rfl) (by cases a0<;>kernel_rfl) (by cases a0<;>kernel_rfl)) (Z7.u 0 (Zaf (ys:=[a2]) (by cases a0<;>kernel_rfl) bz) (Z7.u 1 (Zaf (ys:=[a2,iv (w64 (((List.length az:Nat):Int)-1))]) (by cases a0<;>kernel_rfl) (aZ .i64)) (Z7.u 0 (ZfX (H:=af) (off:=0) (cs:=([.int .i64 a4.choice]++Zif a4.given)) (r:=.agg (ZcI a4)) Zab bc bV) (Z7.f (h:=(by cases a0<;>kernel_rfl)))))))) (by cases a0<;>kernel_rfl) (tq (sq ?_))
   have bL:=HP.get hH 3 rfl
   have bK:=HP.get hH 3 rfl
   have bw:=HP.len (k:=0) (a:=a2) (sz:=13) (frz:=false) (l:=az) Zab hH rfl
   obtain ⟨ca,cn,h⟩:=bs h
   obtain ⟨d7,d1,ax,cX,aY,bU,aX,cG,cA,hH⟩:=HP.pop (k:=0) Zab hH rfl cn
   replace hH:HP _ [.arr ax 13 false (List.map Zab ca),.cel id3 (Z5 r1.1),.cel id4 [.map idm5],.cel id6 [a2],mpT idm5 3 (encE Zaa bv aK)]:=hH
   have am:=ZbH (HP.get hH 0 rfl)
   obtain ⟨ce,cE,hH⟩:=HP.setCell (k:=3) (off:=0) (cs:=[a2]) (vs:=[ax]) (cs':=[ax]) hH rfl kr
   replace hH:HP _ [.arr ax 13 false (List.map Zab ca),.cel id3 (Z5 r1.1),.cel id4 [.map idm5],.cel id6 [ax],mpT idm5 3 (encE Zaa bv aK)]:=hH
   refine rgS ⟨[(1,Z9 false a1_),(5,.fn 51 [] [.ptr id3 0,.ptr id4 0]),(6,.ptr id6 0),(7,.fn 42 [] [.ptr id6 0]),(10,.loc 10 0)],[(10,(ZcI a4))],ce⟩ (Z7.u 0 (ZaH (H:=af) (id:=id6) (off:=0) (cs:=[a2]) (c:=[a2]) (r:=a2) (by cases a0<;>kernel_rfl) (by cases a0<;>kernel_rfl) bL (by cases a0<;>kernel_rfl) (by cases a0<;>kernel_rfl) (by cases a0<;>kernel_rfl)) (Z7.u 0 (ZaH (H:=af) (id:=id6) (off:=0) (cs:=[a2]) (c:=[a2]) (r:=a2) (by cases a0<;>kernel_rfl) (by cases a0<;>kernel_rfl) bK (by cases a0<;>kernel_rfl) (by cases a0<;>kernel_rfl) (by cases a0<;>kernel_rfl)) (Z7.u 0 (Zaf (ys:=[a2]) (by cases a0<;>kernel_rfl) bw) (Z7.h 1 (Znk (H:=af) (av:=a2) (by cases a0<;>kernel_rfl) (by cases a0<;>kernel_rfl) (by cases a0<;>kernel_rfl) aY bU aX cG cA) (Z7.o 0 (Zbi (H:=cX) (v:=ax) (cs:=[ax]) (by cases am<;>kernel_rfl) (by cases am<;>kernel_rfl) (by cases am<;>kernel_rfl) (by cases am<;>kernel_rfl) (by cases am<;>kernel_rfl) cE) Z7.f))))) (by cases a0<;>cases am<;>kernel_rfl) (tq (sq ?_))
   obtain ⟨ad,bb,h⟩:=bs h
   refine rg (Z7.u 3 (Zaf (ys:=[Z9 false a1_,iv a4.choice]) (h:=Zai Zal bb)) (Z7.u 1 (Zay (sz:=2) (off:=0) (cs:=[.int .i64 ad.Stream]) (r:=iv ad.Stream) Zal bb) Z7.f)) (tq (sq (sq ?_)))
   obtain ⟨de,ba,h⟩:=bs h
   refine rg (Z7.u 2 (Zaf (ys:=[.loc 10 1,iv ad.Stream]) (h:=Zc9 (l:=a4.given.l) ba rfl)) (Z7.o 0 (Zhx (t:=10) (off:=1) (cs:=(ZcI a4)) (l:=a4.given.l) (λx=>iv x) [iv a4.choice] [] ba kr kr rfl rfl) Z7.f)) (tq (it h (λcw h=>?_) (λcw h=>?_)))
   ·refine sq (rg Z7.f ?_)
    replace hH:HP _ []:=HP.pick hH [] rfl
    refine tq (rt (tr (br ?_)))
    cases h
    exact ⟨_,rfl,rfl,ZaF kr⟩
   refine sk (tq (kq (sq ?_)))
   obtain ⟨ao,b9,h⟩:=bs h
   refine rg (Z7.u 3 (Zaf (ys:=[Z9 false a1_,iv a4.choice]) (h:=Zai Zal b9)) (Z7.u 1 (Zay (sz:=2) (off:=1) (cs:=[.sl 4 false (List.map ZaB ao.Arms)]) (r:=Zau false ao.Arms) Zal b9) (Z7.u 0 (Zaf (ys:=[Zau false ao.Arms]) (h:=Zao ZaB)) Z7.f))) (tq (bk ?_))
   obtain ⟨c8,aV,h⟩:=bs h
   refine Zbc ((ZaV (λ(x:Int×(List Zag)×(List (Zah×Bool))) s=>∃ (ac:AV) (ar:List HO),s=⟨[(1,Z9 false a1_),(5,.fn 51 [] [.ptr id3 0,.ptr id4 0]),(6,.ptr id6 0),(7,.fn 42 [] [.ptr id6 0]),(10,.loc 10 0),(11,iv ad.Stream),(57,Zau false ao.Arms),(58,iv ((List.length ao.Arms:Nat):Int)),(59,iv x.1)],[(10,(ZcI a4))],ar⟩/\HP ar [.arr ac 13 false (List.map Zab x.2.1),.cel id3 (Z5 r1.1),.cel id4 [.map idm5],.cel id6 [ac],mpT idm5 3 (encE Zaa bv x.2.2)]) (λx:Int×(List Zag)×(List (Zah×Bool))=>ZbF N r1 a4 ad ao x.1 x.2.1 x.2.2) (λ(p:((List Zag)×(List (Zah×Bool)))⊕(Bool)) e s=>match p with|(.inl p)=>e=.exit 4/\(∃ (aC:AV) (aQ:List HO),s=⟨[(1,Z9 false a1_),(5,.fn 51 [] [.ptr id3 0,.ptr id4 0]),(6,.ptr id6 0),(7,.fn 42 [] [.ptr id6 0])],[],aQ⟩/\HP aQ [.arr aC 13 false (List.map Zab p.1),.cel id3 (Z5 r1.1),.cel id4 [.map idm5],.cel id6 [aC],mpT idm5 3 (encE Zaa bv p.2)])|(.inr p)=>e=.ret/\∃ xs,resL s i30.res=some xs/\ZbL xs=bv p) ?_ N _ c8 _ aV ⟨ax,ce,kr,(HP.pick hH [0,1,2,3,4] rfl)⟩).mono ?_)
   ·clear h aV
    rintro ⟨aT,a5,ab⟩ o s h hR
    obtain ⟨ac,ar,rfl,hH⟩:=hR
    replace hH:HP _ [.arr ac 13 false (List.map Zab a5),.cel id3 (Z5 r1.1),.cel id4 [.map idm5],.cel id6 [ac],mpT idm5 3 (encE Zaa bv ab)]:=hH
    have d6:=ZbH (HP.get hH 0 rfl)
    replace h:ZbF N r1 a4 ad ao aT a5 ab=some o:=h
    unfold ZbF at h
    refine sq (rg Z7.f (tq (sq (it h (λcv h=>?_) (λcv h=>?_)))))
    ·refine sk (tq (kq (sq (bk (sq ?_)))))
     obtain ⟨a9,b2,h⟩:=bs h
     refine rg (Z7.u 0 (Zaf (ys:=[Zau false ao.Arms,iv aT]) (h:=Zai ZaB b2)) (Z7.u 0 (Zay (sz:=4) (off:=0) (cs:=[.int .i64 a9.From,.int .i64 a9.To,.int .i64 a9.By,.int .i64 a9.Next]) (r:=.agg (ZaQ a9)) ZaB b2) Z7.f)) (tq (bk (sq (rg Z7.f (tq (it h (λcu h=>?_) (λcu h=>?_)))))))
     ·refine sq (rg Z7.f (tq (sq ?_)))
      obtain ⟨dd,b1,h⟩:=bs h
      refine rg (Z7.u 3 (Zaf (ys:=[.loc 14 0,iv ad.Stream]) (h:=Zc9 (l:=a4.given.l) b1 rfl)) (Z7.o 0 (ZiL (t:=14) (off:=0) (cs:=(Zaz a4.given)) (l:=a4.given.l) (λx=>iv x) [] [] (y:=a9.From) (cs':=(Zaz (Zac.set a4.given ad.Stream a9.From))) b1 kr kr kr rfl rfl (Zog (Zac.c_set a4.given ad.Stream a9.From) (by show (Zaz (Zac.set a4.given ad.Stream a9.From))=[]++(Zaz (Zac.set a4.given ad.Stream a9.From)++[]);rfl))) Z7.f)) (tq ?_)
      obtain ⟨c4,ck,h⟩:=bs h
      have bl:∀ (aq:Int) (ap:Zac) (s:(List Zag)) (r:(((List Zag)))) (H:List HO) (its:List ZaL),(λ(s:(List Zag)) (its:List ZaL)=>∃ (a3:AV),its=[.arr a3 13 false (List.map Zab s),.cel id3 (Z5 r1.1),.cel id4 [.map idm5],.cel id6 [a3],mpT idm5 3 (encE Zaa bv ab)]) s its->HP H its->(λ(s:(List Zag)) (aq:Int) (ap:Zac)=>Zcq N s aq ap) s aq ap=some r->∃ H' its',ZiI Try.prog (.fn 42 [] [.ptr id6 0]) [iv aq,.agg (Zaz ap)] H (.tup []) H'/\(λ(s:(List Zag)) (its:List ZaL)=>∃ (a3:AV),its=[.arr a3 13 false (List.map Zab s),.cel id3 (Z5 r1.1),.cel id4 [.map idm5],.cel id6 [a3],mpT idm5 3 (encE Zaa bv ab)]) r its'/\Fp H H' its its':=by
       clear h
       intro aq ap s q aD its hT hH h
       obtain ⟨aJ,rfl⟩:∃ v,v=s:=⟨s,rfl⟩
       obtain ⟨a3,rfl⟩:=hT
       replace h:Zcq N aJ aq ap=some q:=h
       unfold Zcq at h
       replace hH:Fp _ _ _ [.arr a3 13 false (List.map Zab aJ),.cel id3 (Z5 r1.1),.cel id4 [.map idm5],.cel id6 [a3],mpT idm5 3 (encE Zaa bv ab)]:=Fp.refl hH
       have a6:=ZbH (Fp.get hH 0 rfl)
       suffices hs:∃ H',ZbQ Try.prog 42 [iv aq,.agg (Zaz ap),.ptr id6 0] aD (.tup []) H'/\∃ its',(λ(s:(List Zag)) (its:List ZaL)=>∃ (a3:AV),its=[.arr a3 13 false (List.map Zab s),.cel id3 (Z5 r1.1),.cel id4 [.map idm5],.cel id6 [a3],mpT idm5 3 (encE Zaa bv ab)]) q its'/\Fp aD H' [.arr a3 13 false (List.map Zab aJ),.cel id3 (Z5 r1.1),.cel id4 [.map idm5],.cel id6 [a3],mpT idm5 3 (encE Zaa bv ab)] its' by
        obtain ⟨H',h1,its',h2,h3⟩:=hs
        exact ⟨H',its',ZiI.of kr h1,h2,h3⟩
       refine Zdj Zrk (λH'=>∃ its',(λ(s:(List Zag)) (its:List ZaL)=>∃ (a3:AV),its=[.arr a3 13 false (List.map Zab s),.cel id3 (Z5 r1.1),.cel id4 [.map idm5],.cel id6 [a3],mpT idm5 3 (encE Zaa bv ab)]) q its'/\Fp aD H' [.arr a3 13 false (List.map Zab aJ),.cel id3 (Z5 r1.1),.cel id4 [.map idm5],.cel id6 [a3],mpT idm5 3 (encE Zaa bv ab)] its') rfl rfl rfl ?_
       show vc _ _ _ _ ⟨[(0,iv aq),(1,.agg (Zaz ap)),(2,.ptr id6 0)],[],aD⟩
       refine sq (rg Z7.f (tq ?_))
       have bJ:=Fp.get hH 3 rfl
       obtain ⟨c9,cm,h⟩:=bs h
       obtain ⟨aw,cW,cz,hH⟩:=Fp.app (k:=0) (a:=a3) (sz:=13) (frz:=false) Zab hH rfl cm
       replace hH:Fp _ _ _ [.arr aw 13 false (List.map Zab c9),.cel id3 (Z5 r1.1),.cel id4 [.map idm5],.cel id6 [a3],mpT idm5 3 (encE Zaa bv ab)]:=hH
       have al:=ZbH (Fp.get hH 0 rfl)
       obtain ⟨cV,cD,hH⟩:=Fp.setCell (k:=3) (off:=0) (cs:=[a3]) (vs:=[aw]) (cs':=[aw]) hH rfl kr
       replace hH:Fp _ _ _ [.arr aw 13 false (List.map Zab c9),.cel id3 (Z5 r1.1),.cel id4 [.map idm5],.cel id6 [aw],mpT idm5 3 (encE Zaa bv ab)]:=hH
       refine rgS ⟨[],[],cV⟩ (Z7.u 0 (ZaH (H:=aD) (id:=id6) (off:=0) (cs:=[a3]) (c:=[a3]) (r:=a3) (by cases a6<;>kernel_rfl) (by cases a6<;>kernel_rfl) bJ (by cases a6<;>kernel_rfl) (by cases a6<;>kernel_rfl) (by cases a6<;>kernel_rfl)) (Z7.h 4 (ZgE (H:=aD) (a:=a3) (b:=ZbZ true [(Zag.mk aq ap)]) (by cases a6<;>kernel_rfl) (by cases a6<;>kernel_rfl) (by cases a6<;>kernel_rfl) (by cases a6<;>kernel_rfl) cz) (Z7.o 0 (Zbi (H:=cW) (v:=aw) (cs:=[aw]) (by cases al<;>kernel_rfl) (by cases al<;>kernel_rfl) (by cases al<;>kernel_rfl) (by cases al<;>kernel_rfl) (by cases al<;>kernel_rfl) cD) Z7.f))) (by cases a6<;>cases al<;>kernel_rfl) ?_
       cases h
       exact ⟨[],kr,kr,_,⟨aw,Eq.refl _⟩,(Fp.pk hH [0,1,2,3,4] rfl)⟩
      obtain ⟨cU,cK,bt,bY,c1⟩:=bl a9.Next (Zac.set a4.given ad.Stream a9.From) a5 c4 ar [.arr ac 13 false (List.map Zab a5),.cel id3 (Z5 r1.1),.cel id4 [.map idm5],.cel id6 [ac],mpT idm5 3 (encE Zaa bv ab)] (by exact ⟨ac,Eq.refl _⟩) (HP.now (HP.pick hH [0,1,2,3,4] rfl)) ck
      obtain ⟨a3,rfl⟩:=bY
      replace hH:HP _ [.arr a3 13 false (List.map Zab c4),.cel id3 (Z5 r1.1),.cel id4 [.map idm5],.cel id6 [a3],mpT idm5 3 (encE Zaa bv ab)]:=HP.callee (fp:=[.arr ac 13 false (List.map Zab a5),.cel id3 (Z5 r1.1),.cel id4 [.map idm5],.cel id6 [ac],mpT idm5 3 (encE Zaa bv ab)]) (rest:=[]) (HP.pick hH [0,1,2,3,4] rfl) c1
      have a6:=ZbH (HP.get hH 0 rfl)
      refine rg (Z7.v 4 (Zjv (H:=ar) (fv:=.fn 42 [] [.ptr id6 0]) (ys:=[iv a9.Next,.agg (Zaz (Zac.set a4.given ad.Stream a9.From))]) (hc:=bt)) Z7.f) (bn (bn (tq (kq (rg Z7.f ?_)))))
      cases h
      exact ⟨_,rfl,⟨a3,cU,kr,(HP.pick hH [0,1,2,3,4] rfl)⟩⟩
     refine sq ?_
     obtain ⟨aS,hj,h⟩:=bs h
     refine rgR (λs=>∃ (aA:AV) (aM:List HO),s=⟨[(1,Z9 false a1_),(5,.fn 51 [] [.ptr id3 0,.ptr id4 0]),(6,.ptr id6 0),(7,.fn 42 [] [.ptr id6 0]),(10,.loc 10 0),(11,iv ad.Stream),(57,Zau false ao.Arms),(58,iv ((List.length ao.Arms:Nat):Int)),(59,iv aT),(78,bv aS.1)],[(10,(ZcI a4))],aM⟩/\HP aM [.arr aA 13 false (List.map Zab a5),.cel id3 (Z5 r1.1),.cel id4 [.map idm5],.cel id6 [aA],mpT idm5 3 (encE Zaa bv aS.2)]) ?_ ?_
     ·clear h
      rcases ZaJ hj with ⟨ct,hj⟩|⟨cq,hj⟩
      ·refine (EP.u 2 (Zad (c:=(decide (a9.By≥0))) (h:=ct)) ?_)
       obtain ⟨c3,cg,hj⟩:=bs hj
       have bj:∀ (a8:Int) (aj:Int) (aa:Int) (ai:Int) (s:(List (Zah×Bool))) (r:(((List (Zah×Bool)))×Bool)) (H:List HO) (its:List ZaL),(λ(s:(List (Zah×Bool))) (its:List ZaL)=>∃ (a1:AV),its=[.arr a1 13 false (List.map Zab a5),.cel id3 (Z5 r1.1),.cel id4 [.map idm5],.cel id6 [a1],mpT idm5 3 (encE Zaa bv s)]) s its->HP H its->(λ(s:(List (Zah×Bool))) (a8:Int) (aj:Int) (aa:Int) (ai:Int)=>Zbh N r1 s a8 aj aa ai) s a8 aj aa ai=some r->∃ H' its',ZiI Try.prog (.fn 51 [] [.ptr id3 0,.ptr id4 0]) [iv a8,iv aj,iv aa,iv ai] H (bv r.2) H'/\(λ(s:(List (Zah×Bool))) (its:List ZaL)=>∃ (a1:AV),its=[.arr a1 13 false (List.map Zab a5),.cel id3 (Z5 r1.1),.cel id4 [.map idm5],.cel id6 [a1],mpT idm5 3 (encE Zaa bv s)]) r.1 its'/\Fp H H' its its':=by
        clear h
        intro a8 aj aa ai s q ag its hT hH h
        obtain ⟨ak,rfl⟩:∃ v,v=s:=⟨s,rfl⟩
        obtain ⟨a1,rfl⟩:=hT
        replace h:Zbh N r1 ak a8 aj aa ai=some q:=h
        unfold Zbh at h
        replace hH:Fp _ _ _ [.arr a1 13 false (List.map Zab a5),.cel id3 (Z5 r1.1),.cel id4 [.map idm5],.cel id6 [a1],mpT idm5 3 (encE Zaa bv ak)]:=Fp.refl hH
        have bW:=ZbH (Fp.get hH 0 rfl)
        suffices hs:∃ H',ZbQ Try.prog 51 [iv a8,iv aj,iv aa,iv ai,.ptr id3 0,.ptr id4 0] ag (bv q.2) H'/\∃ its',(λ(s:(List (Zah×Bool))) (its:List ZaL)=>∃ (a1:AV),its=[.arr a1 13 false (List.map Zab a5),.cel id3 (Z5 r1.1),.cel id4 [.map idm5],.cel id6 [a1],mpT idm5 3 (encE Zaa bv s)]) q.1 its'/\Fp ag H' [.arr a1 13 false (List.map Zab a5),.cel id3 (Z5 r1.1),.cel id4 [.map idm5],.cel id6 [a1],mpT idm5 3 (encE Zaa bv ak)] its' by
         obtain ⟨H',h1,its',h2,h3⟩:=hs
         exact ⟨H',its',ZiI.of kr h1,h2,h3⟩
        refine Zdj Zww (λH'=>∃ its',(λ(s:(List (Zah×Bool))) (its:List ZaL)=>∃ (a1:AV),its=[.arr a1 13 false (List.map Zab a5),.cel id3 (Z5 r1.1),.cel id4 [.map idm5],.cel id6 [a1],mpT idm5 3 (encE Zaa bv s)]) q.1 its'/\Fp ag H' [.arr a1 13 false (List.map Zab a5),.cel id3 (Z5 r1.1),.cel id4 [.map idm5],.cel id6 [a1],mpT idm5 3 (encE Zaa bv ak)] its') rfl rfl rfl ?_
        show vc _ _ _ _ ⟨[(0,iv a8),(1,iv aj),(2,iv aa),(3,iv ai),(4,.ptr id3 0),(5,.ptr id4 0)],[],ag⟩
        refine sq (rg Z7.f (tq (sq ?_)))
        have bI:=Fp.get hH 1 rfl
        obtain ⟨bd,b0,h⟩:=bs h
        obtain ⟨au,cj,h⟩:=bs h
        refine rg (Z7.u 5 (ZaH (H:=ag) (id:=id3) (off:=0) (cs:=(Z5 r1.1)) (c:=[Zak false r1.1.Periods]) (r:=Zak false r1.1.Periods) (hl:=bI)) (Z7.u 1 (Zaf (ys:=[Zak false r1.1.Periods,iv a8]) (h:=Zai eI64 b0)) (Z7.u 0 (Zay (sz:=1) (off:=0) (cs:=[.int .i64 bd]) (r:=iv bd) eI64 b0) (Z7.v 0 (ZaM (hc:=Zks N (w64 (aj-ai)) bd au cj)) Z7.f)))) (tq (sq ?_))
        have bG:=Fp.get hH 2 rfl
        have bC:=Fp.get hH 4 rfl
        refine rg (Z7.u 0 (ZaH (H:=ag) (id:=id4) (off:=0) (cs:=[.map idm5]) (c:=[.map idm5]) (r:=.map idm5) (hl:=bG)) (Z7.u 1 (Zkf (H:=ag) (id:=idm5) (kn:=3) (ke:=Zaa) (ve:=bv) (l:=ak) (x:=(Zah.mk a8 au aa)) (z:=false) (r:=.tup [bv (ZiF ak (Zah.mk a8 au aa) false),bv (mhas ak (Zah.mk a8 au aa))]) kr kr bC kr kr (λ_=>rfl)) Z7.f)) (tq ?_)
        obtain ⟨aL,aW,h⟩:=bs h
        refine Zen [12] (λs=>∃ (aB:AV) (be:List HO),s=⟨[(12,bv aL.1)],[],be⟩/\Fp ag be [.arr a1 13 false (List.map Zab a5),.cel id3 (Z5 r1.1),.cel id4 [.map idm5],.cel id6 [a1],mpT idm5 3 (encE Zaa bv ak)] [.arr aB 13 false (List.map Zab a5),.cel id3 (Z5 r1.1),.cel id4 [.map idm5],.cel id6 [aB],mpT idm5 3 (encE Zaa bv aL.2)]) ?_ ?_
        ·clear h
         have h:=aW
         refine sq (rg Z7.f (tq (it h (λcr h=>?_) (λcr h=>?_))))
         ·refine sq ?_
          have bE:=Fp.get hH 1 rfl
          obtain ⟨aI,ci,h⟩:=bs h
          refine rg (Z7.u 0 (ZaH (H:=ag) (id:=id3) (off:=0) (cs:=(Z5 r1.1)) (c:=(Z5 r1.1)) (r:=.agg (Z5 r1.1)) (hl:=bE)) (Z7.v 6 (ZaM (hc:=ZeH N r1.1 a8 au aa 0 aI ci)) Z7.f)) (tq ?_)
          have bD:=Fp.get hH 2 rfl
          have bB:=Fp.get hH 4 rfl
          obtain ⟨cT,cC,hH⟩:=Fp.setMp (k:=4) hH rfl (encE Zaa bv (Zeu ak (Zah.mk a8 au aa) aI.1))
          replace hH:Fp _ _ _ [.arr a1 13 false (List.map Zab a5),.cel id3 (Z5 r1.1),.cel id4 [.map idm5],.cel id6 [a1],mpT idm5 3 (encE Zaa bv (Zeu ak (Zah.mk a8 au aa) aI.1))]:=hH
          refine rg (Z7.u 0 (ZaH (H:=ag) (id:=id4) (off:=0) (cs:=[.map idm5]) (c:=[.map idm5]) (r:=.map idm5) (hl:=bD)) (Z7.o 2 (Znm (H:=ag) (id:=idm5) (kn:=3) (ke:=Zaa) (ve:=bv) (l:=ak) (x:=(Zah.mk a8 au aa)) (v:=aI.1) (y:=bv aI.1) kr kr bB kr kr cC) Z7.f)) ?_
          cases h
          exact ⟨rfl,⟨a1,cT,kr,(Fp.pick hH [0,1,2,3,4] rfl)⟩⟩
         refine sk ?_
         cases h
         exact ⟨rfl,⟨a1,ag,kr,(Fp.pick hH [0,1,2,3,4] rfl)⟩⟩
        clear aW
        rintro s hR
        obtain ⟨aB,be,rfl,hH⟩:=hR
        replace hH:Fp _ _ _ [.arr aB 13 false (List.map Zab a5),.cel id3 (Z5 r1.1),.cel id4 [.map idm5],.cel id6 [aB],mpT idm5 3 (encE Zaa bv aL.2)]:=hH
        have d4:=ZbH (Fp.get hH 0 rfl)
        refine sq (rg Z7.f (tq (rt ?_)))
        cases h
        exact ⟨[bv aL.1],kr,kr,_,⟨aB,Eq.refl _⟩,(Fp.pk hH [0,1,2,3,4] rfl)⟩
       obtain ⟨cS,cJ,bq,bX,c0⟩:=Zha N (λ(s:(List (Zah×Bool))) (a8:Int) (aj:Int) (aa:Int) (ai:Int)=>Zbh N r1 s a8 aj aa ai) ad.Stream a4.given a9 ab 51 [] [.ptr id3 0,.ptr id4 0] kr (λ(s:(List (Zah×Bool))) (its:List ZaL)=>∃ (a1:AV),its=[.arr a1 13 false (List.map Zab a5),.cel id3 (Z5 r1.1),.cel id4 [.map idm5],.cel id6 [a1],mpT idm5 3 (encE Zaa bv s)]) bj ar [.arr ac 13 false (List.map Zab a5),.cel id3 (Z5 r1.1),.cel id4 [.map idm5],.cel id6 [ac],mpT idm5 3 (encE Zaa bv ab)] (by exact ⟨ac,Eq.refl _⟩) (HP.now (HP.pick hH [0,1,2,3,4] rfl)) c3 cg
       obtain ⟨a1,rfl⟩:=bX
       replace hH:HP _ [.arr a1 13 false (List.map Zab a5),.cel id3 (Z5 r1.1),.cel id4 [.map idm5],.cel id6 [a1],mpT idm5 3 (encE Zaa bv c3.1)]:=HP.callee (fp:=[.arr ac 13 false (List.map Zab a5),.cel id3 (Z5 r1.1),.cel id4 [.map idm5],.cel id6 [ac],mpT idm5 3 (encE Zaa bv ab)]) (rest:=[]) (HP.pick hH [0,1,2,3,4] rfl) c0
       have bW:=ZbH (HP.get hH 0 rfl)
       obtain rfl:=Zar hj
       exact (EP.v 6 (Zc3 (H:=ar) (ys:=[.fn 51 [] [.ptr id3 0,.ptr id4 0],iv ad.Stream,.agg (Zaz a4.given),.agg (ZaQ a9)]) kr kr kr bq) (EP.f ⟨a1,cS,kr,(HP.pick hH [0,1,2,3,4] rfl)⟩))
      obtain rfl:=Zar hj
      exact (EP.u 2 (Zad (c:=(decide (a9.By≥0))) (h:=cq)) (EP.f ⟨ac,ar,kr,(HP.pick hH [0,1,2,3,4] rfl)⟩))
     clear hj
     rintro s hR
     obtain ⟨aA,aM,rfl,hH⟩:=hR
     replace hH:HP _ [.arr aA 13 false (List.map Zab a5),.cel id3 (Z5 r1.1),.cel id4 [.map idm5],.cel id6 [aA],mpT idm5 3 (encE Zaa bv aS.2)]:=hH
     have d3:=ZbH (HP.get hH 0 rfl)
     refine tq (it h (λcp h=>?_) (λcp h=>?_))
     ·refine sq (rg Z7.f ?_)
      replace hH:HP _ []:=HP.pick hH [] rfl
      refine tq (rt (br (br (tr ?_))))
      cases h
      exact ⟨_,rfl,rfl,ZaF kr⟩
     refine sk (bn (bn (tq (kq (rg Z7.f ?_)))))
     cases h
     exact ⟨_,rfl,⟨aA,aM,kr,(HP.pick hH [0,1,2,3,4] rfl)⟩⟩
    refine kq (xq (tx ?_))
    cases h
    exact ⟨_,rfl,rfl,⟨ac,ar,kr,(HP.pick hH [0,1,2,3,4] rfl)⟩⟩
   rintro e s hq
   rcases c8 with c6|dc
   ·dsimp only at h hq
    obtain ⟨rfl,hR⟩:=hq
    obtain ⟨aC,aQ,rfl,hH⟩:=hR
    replace hH:HP _ [.arr aC 13 false (List.map Zab c6.1),.cel id3 (Z5 r1.1),.cel id4 [.map idm5],.cel id6 [aC],mpT idm5 3 (encE Zaa bv c6.2)]:=hH
    have d5:=ZbH (HP.get hH 0 rfl)
    refine bx (bn ?_)
    cases h
    exact ⟨_,rfl,⟨aC,aQ,kr,(HP.pick hH [0,1,2,3,4] rfl)⟩⟩
   dsimp only at h hq
   obtain ⟨rfl,hq⟩:=hq
   refine br (br ?_)
   cases h
   exact ⟨_,rfl,rfl,hq⟩
  refine kq ?_
  replace hH:HP _ []:=HP.pick hH [] rfl
  refine xq (tx ?_)
  cases h
  exact ⟨_,rfl,rfl,⟨af,kr,(HP.pick hH [] rfl)⟩⟩
 rintro e s hq
 rcases c7 with db|da
 ·dsimp only at h hq
  obtain ⟨rfl,hR⟩:=hq
  obtain ⟨bf,rfl,hH⟩:=hR
  replace hH:HP _ []:=hH
  refine bx (tq (sq (rg Z7.f (tq (rt ?_)))))
  cases h
  exact ZaF kr
 dsimp only at h hq
 obtain ⟨rfl,hq⟩:=hq
 refine br (tr ?_)
 cases h
 exact hq
theorem ZiG (N:Nat)(r:Bool)(h:ZdP N=some r):Zbs Try.prog 13 [] (bv r):=by
 unfold ZdP at h
 have hH  := hp0
 refine ZaO ZwY rfl rfl (Zaw _ _ _ ?_) rfl
 refine sq (rg Z7.f (tq (sq ?_)))
 obtain ⟨r1,hr1,h⟩:=bs h
 obtain ⟨r2,hr2,h⟩:=bs h
 refine rg (Z7.v 0 (ZaM (hc:=ZfB N 2 1 1 r1 hr1)) (Z7.v 0 (ZaM (hc:=ZfB N 2 2 1 r2 hr2)) Z7.f)) (tq (sq ?_))
 obtain ⟨r3,hr3,h⟩:=bs h
 refine rg (Z7.v 1 (ZaM (hc:=Zc6 N r2 2 r3 hr3)) Z7.f) (tq (sq (rg Z7.f (tq (sq ?_)))))
 obtain ⟨af,hj,h⟩:=bs h
 refine rgR (λs=>s=⟨[(0,bv af)],[],[]⟩) ?_ ?_
 ·clear h
  obtain ⟨r4,hr4,hj⟩:=bs hj
  rcases ZaJ hj with ⟨hc5,hj⟩|⟨a3,hj⟩
  ·refine (EP.h 2 (Zc4 kr (Zc8 N r1 9 ([0,2,3]) r4 hr4) hc5) ?_)
   obtain ⟨r6,hr6,hj⟩:=bs hj
   rcases ZaJ hj with ⟨hc7,hj⟩|⟨a4,hj⟩
   ·refine (EP.h 2 (Zc4 kr (Zcw N r1 1 8 r6 hr6) hc7) ?_)
    obtain ⟨r8,hr8,hj⟩:=bs hj
    rcases ZaJ hj with ⟨hc9,hj⟩|⟨a5,hj⟩
    ·refine (EP.h 4 (Zc4 kr (Zc8 N r1 2 ([0,2,3]) r8 hr8) hc9) ?_)
     rcases ZaJ hj with ⟨ab,hj⟩|⟨a6,hj⟩
     ·refine (EP.u 3 (Zad (c:=(r3.2.2==4)) (h:=ab)) ?_)
      obtain ⟨ad,a1,hj⟩:=bs hj
      rcases ZaJ hj with ⟨aa,hj⟩|⟨a7,hj⟩
      ·refine (EP.h 4 (Zc4 kr (Zf2 N r3.2.1 ([(Z8.mk 0 ([(Zam.mk 0 1 (-1) 1),(Zam.mk 1 4 (-2) 0)])),(Z8.mk 1 ([(Zam.mk 0 2 0 0),(Zam.mk 2 3 (-1) 2),(Zam.mk 3 4 0 0)])),(Z8.mk 2 ([(Zam.mk 0 2 0 0),(Zam.mk 2 4 1 0)]))]) ad a1) aa) ?_)
       obtain ⟨ac,a0,hj⟩:=bs hj
       rcases ZaJ hj with ⟨a9,hj⟩|⟨a8,hj⟩
       ·refine (EP.h 3 (Zc4 kr (Zcw N r2 1 8 ac a0) a9) ?_)
        obtain ⟨ae,a2,hj⟩:=bs hj
        obtain rfl:=Zar hj
        exact (EP.v 3 (ZaM (hc:=Zcw N r2 2000 2 ae a2)) (EP.f kr))
       obtain rfl:=Zar hj
       exact (EP.h 3 (Zc4 kr (Zcw N r2 1 8 ac a0) a8) (EP.f kr))
      obtain rfl:=Zar hj
      exact (EP.h 4 (Zc4 kr (Zf2 N r3.2.1 ([(Z8.mk 0 ([(Zam.mk 0 1 (-1) 1),(Zam.mk 1 4 (-2) 0)])),(Z8.mk 1 ([(Zam.mk 0 2 0 0),(Zam.mk 2 3 (-1) 2),(Zam.mk 3 4 0 0)])),(Z8.mk 2 ([(Zam.mk 0 2 0 0),(Zam.mk 2 4 1 0)]))]) ad a1) a7) (EP.f kr))
     obtain rfl:=Zar hj
     exact (EP.u 3 (Zad (c:=(r3.2.2==4)) (h:=a6)) (EP.f kr))
    obtain rfl:=Zar hj
    exact (EP.h 4 (Zc4 kr (Zc8 N r1 2 ([0,2,3]) r8 hr8) a5) (EP.f kr))
   obtain rfl:=Zar hj
   exact (EP.h 2 (Zc4 kr (Zcw N r1 1 8 r6 hr6) a4) (EP.f kr))
  obtain rfl:=Zar hj
  exact (EP.h 2 (Zc4 kr (Zc8 N r1 9 ([0,2,3]) r4 hr4) a3) (EP.f kr))
 clear hj
 rintro s hR
 obtain rfl:=hR
 refine tq (rt ?_)
 cases h
 exact ZaF kr
theorem ZiA (N:Nat)(a0_:Z6)(a1_:(List Z8))(r:Int)(h:ZcY N a0_ a1_=some r):Zbs Try.prog 20 [.agg (Z5 a0_),Z9 false a1_] (iv r):=by
 unfold ZcY at h
 have hH  := hp0
 refine ZaO ZwS rfl rfl (Zaw _ _ _ ?_) rfl
 refine sq (rg Z7.f (tq (sq (sq ?_))))
 obtain ⟨r1,hr1,h⟩:=bs h
 refine rg (Z7.v 1 (ZaM (hc:=Zdv N a0_ r1 hr1)) Z7.f) (tq (sq (rg Z7.f (tq (it h (λhc2 h=>?_) (λhc2 h=>?_))))))
 ·refine sq (rg Z7.f (tq (rt (tr ?_))))
  cases h
  exact ZaF kr
 refine sk (tq (kq (sq (sq ?_))))
 obtain ⟨r3,hr3,h⟩:=bs h
 refine rg (Z7.v 2 (ZaM (hc:=ZhP N a0_ a1_ r3 hr3)) Z7.f) (tq (it h (λhc4 h=>?_) (λhc4 h=>?_)))
 ·refine sq (rg Z7.f (tq (rt (tr ?_))))
  cases h
  exact ZaF kr
 refine sk (tq (kq (sq (sq ?_))))
 obtain ⟨r5,hr5,h⟩:=bs h
 refine rg (Z7.v 2 (ZaM (hc:=Ziw N a0_ a1_ r5 hr5)) Z7.f) (tq (it h (λhc6 h=>?_) (λhc6 h=>?_)))
 ·refine sq (rg Z7.f (tq (rt (tr ?_))))
  cases h
  exact ZaF kr
 refine sk (tq (kq (sq (rg Z7.f (tq (rt ?_))))))
 cases h
 exact ZaF kr
end Go.Sh

