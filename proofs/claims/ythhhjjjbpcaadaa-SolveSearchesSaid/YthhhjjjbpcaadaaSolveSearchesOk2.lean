/- Part of the proof. -/
import Derived.Test.YthhhjjjbpcaadaaSolveSearchesOk1
set_option linter.all false
namespace Go.Sh
open Go Go.Eng Go.Proofs
set_option maxRecDepth 100000
set_option maxHeartbeats 4000000
attribute [local irreducible] vc ev ZcP opsD opsF ZfO upd updH updO
abbrev ZaD (p:Z3) (fuel:Int) (a b:AV) (m:Nat):List AV:=[Z9 false p.Periods,Z8 false p.Uses,iv fuel,a,b,.map m]
abbrev smp (m:Nat) (known:slvK):ZaS:=mpT m 3 (encE Zcl bv known)
theorem Zgj (N:Nat)(p:Z3)(known:slvK)(i x j y:Int)(r:Bool×slvK)(id m:Nat)(fuel:Int)(a b:AV)(H:List HO)(hH:HP H [.cel id (ZaD p fuel a b m),smp m known])(h:ZdS N p known i x j y=some r) :
  ∃ H',ZbR Try.prog 45 [.ptr id 0,iv i,iv x,iv j,iv y] H (bv r.1) H'/\Fp H H' [.cel id (ZaD p fuel a b m),smp m known] [.cel id (ZaD p fuel a b m),smp m r.2]:=by
 unfold ZdS at h
 replace hH:=Fp.refl hH
 refine ZfU ZuT (λH'=>Fp H H' [.cel id (ZaD p fuel a b m),smp m known] [.cel id (ZaD p fuel a b m),smp m r.2]) rfl rfl rfl ?_
 have hlc:=Fp.get hH 0 rfl
 refine sq (rg Z4.f (tq (sq ?_)))
 obtain ⟨e1,he1,h⟩:=bs h
 refine rgS ⟨[(0,.ptr id 0),(1,iv i),(2,iv x),(3,iv j),(4,iv y),(11,iv e1)],[],H⟩ (Z4.u 4 (ZaP (H:=H) (id:=id) (off:=0) (cs:=ZaD p fuel a b m) (c:=[Z9 false p.Periods]) (r:=Z9 false p.Periods) (hl:=hlc)) (Z4.u 1 (Zad (ys:=[Z9 false p.Periods,iv i]) (h:=Zac eI64 he1)) (Z4.u 0 (Zas (sz:=1) (off:=0) (cs:=[.int .i64 e1]) (r:=iv e1) eI64 he1) Z4.f))) kr (tq (sq ?_))
 obtain ⟨m1,hm1,h⟩:=bs h
 obtain ⟨m2,hm2,h⟩:=bs h
 refine rgS ⟨[(0,.ptr id 0),(12,.loc 12 0)],[(12,[iv i,iv m2,iv j])],H⟩ (Z4.u 5 (Zad (ys:=[iv (w64 (x-y)),iv e1]) (h:=Zbl hm1)) (Z4.u 3 (Zad (ys:=[iv (w64 (m1+e1)),iv e1]) (h:=Zbl hm2)) Z4.f)) kr (tq (sq ?_))
 have hlm:=Fp.get hH 1 rfl
 refine rqS ⟨[(0,.ptr id 0),(12,.loc 12 0),(13,bv (ZkH known (ZaQ.mk i m2 j) false)),(14,bv (mhas known (ZaQ.mk i m2 j)))],[(12,[iv i,iv m2,iv j])],H⟩ (Z4.u 3 (ZaY (ZaP (H:=H) (id:=id) (off:=5) (cs:=ZaD p fuel a b m) (c:=[.map m]) (r:=.map m) (hl:=hlc)))
  (Z4.u 1 (Zmr (H:=H) (id:=m) (kn:=3) (ke:=Zcl) (ve:=bv) (l:=known) (x:=(ZaQ.mk i m2 j)) (z:=false) (r:=.tup [bv (ZkH known (ZaQ.mk i m2 j) false),bv (mhas known (ZaQ.mk i m2 j))]) kr kr hlm kr kr (λ_=>rfl)) Z4.f)) kr ?_
 refine tq (ZgP [13] (λs=>∃ H1,s=⟨[(13,bv r.1)],[],H1⟩/\Fp H H1 [.cel id (ZaD p fuel a b m),smp m known] [.cel id (ZaD p fuel a b m),smp m r.2]) ?_ ?_)
 ·refine sq (rgS ⟨[(0,.ptr id 0),(12,.loc 12 0),(13,bv (ZkH known (ZaQ.mk i m2 j) false)),(45,bv (!(mhas known (ZaQ.mk i m2 j))))],[(12,[iv i,iv m2,iv j])],H⟩ Z4.f kr (tq (it h (λhc h=>?_) (λhc h=>?_))))
  ·obtain ⟨r1,hr1,h⟩:=bs h
   cases h
   refine sq (rqS ⟨[(0,.ptr id 0),(12,.loc 12 0),(13,bv r1.1)],[(12,[iv i,iv m2,iv j])],H⟩ (Z4.u 3 (ZaY (ZaP (H:=H) (id:=id) (off:=0) (cs:=ZaD p fuel a b m) (c:=Z2 p) (r:=.agg (Z2 p)) (hl:=hlc))) (Z4.v 6 (Zav (hc:=ZgM N p i m2 j 0 r1 hr1)) Z4.f)) kr (tq ?_))
   obtain ⟨H2,hH2,hF2⟩:=Fp.setMp (k:=1) hH rfl (encE Zcl bv (ZfL known (ZaQ.mk i m2 j) r1.1))
   refine rqS ⟨[(13,bv r1.1)],[],H2⟩ (Z4.u 3 (ZaY (ZaP (H:=H) (id:=id) (off:=5) (cs:=ZaD p fuel a b m) (c:=[.map m]) (r:=.map m) (hl:=hlc)))
    (Z4.o 2 (Zn8 (H:=H) (id:=m) (kn:=3) (ke:=Zcl) (ve:=bv) (l:=known) (x:=(ZaQ.mk i m2 j)) (v:=r1.1) (y:=bv r1.1) kr kr hlm kr kr hH2) Z4.f)) kr ?_
   exact ⟨rfl,H2,kr,hF2⟩
  cases h
  exact sk (⟨rfl,H,kr,hH⟩)
 rintro s ⟨H1,rfl,hF1⟩
 exact sq (rgS ⟨[(10,bv r.1)],[],H1⟩ Z4.f kr (tq (rt (⟨[bv r.1],kr,rfl,hF1⟩))))
def dpC (c:Z5):Int×List (List PC):=(c.Stream,c.Arms.map Zah)
theorem Zke {H:List HO}{a:AV}{sz:Nat}{u:Bool}{cs:List PC}{f:List Z5}(h:Lies H (.deep a sz u cs (f.map dpC))):ZaA .len [a]=some (iv ((List.length f:Nat):Int)):=by
 have:=ZnP h
 rwa [ZE] at this
theorem Zkk {α:Type}{bytes:Nat}{l m r:List α}(h:appI bytes l m=some r):r=l++m/\(l.length+m.length)*bytes<=140737488355328/\l.length+m.length<=140737488355328:=by
 unfold appI at h
 split at h
 ·rename_i hc
  cases h
  exact ⟨rfl,hc.1,hc.2⟩
 cases h
theorem Zjb {α β:Type}(g:α->β){l:List α}{i:Int}{e:α}(h:idx l i=some e):idx (l.map g) i=some (g e):=by
 unfold idx at h ⊢
 split at h
 ·rename_i h0
  rw [Z0 h0,Zx,h]
  rfl
 cases h
theorem hp1 {H:List HO}{i:ZaS}(h:Lies H i):HP H [i]:=HP.cons (HP.any H) h (λ_ _ j hj=>by cases hj)
theorem ZiR (N:Nat)(p:Z3)(given:List Int)(known:slvK)(i x:Int)(r:Int×slvK)(id m:Nat)(fuel:Int)(a b:AV)(H:List HO)(hH:HP H [.cel id (ZaD p fuel a b m),.arr a 1 false (given.map eI64),smp m known])(h:ZdR N p given known i x=some r) :
  ∃ H',ZbR Try.prog 32 [.ptr id 0,iv i,iv x] H (iv r.1) H'/\Fp H H' [.cel id (ZaD p fuel a b m),.arr a 1 false (given.map eI64),smp m known] [.cel id (ZaD p fuel a b m),.arr a 1 false (given.map eI64),smp m r.2]:=by
 unfold ZdR at h
 replace hH:=Fp.refl hH
 have hfa:=ZbB (Fp.get hH 1 rfl)
 refine ZfU Zu1 (λH'=>Fp H H' [.cel id (ZaD p fuel a b m),.arr a 1 false (given.map eI64),smp m known] [.cel id (ZaD p fuel a b m),.arr a 1 false (given.map eI64),smp m r.2]) rfl rfl rfl (sq (rgS ⟨[(0,.ptr id 0),(1,iv i),(2,iv x)],[],H⟩ Z4.f kr (tq (sq (sq (rgS ⟨[(0,.ptr id 0),(1,iv i),(2,iv x),(8,iv i),(9,iv 0)],[],H⟩ Z4.f kr (tq (bk ?_))))))))
 obtain ⟨o1,ho1,h⟩:=bs h
 refine Zbc ((ZaT (λ(y:Int×slvK) s=>∃ H2,s=⟨[(0,.ptr id 0),(1,iv i),(2,iv x),(8,iv i),(9,iv y.1)],[],H2⟩/\Fp H H2 [.cel id (ZaD p fuel a b m),.arr a 1 false (given.map eI64),smp m known] [.cel id (ZaD p fuel a b m),.arr a 1 false (given.map eI64),smp m y.2])
  (λy:Int×slvK=>Zcd N p given i x y.1 y.2)
  (λ(q:slvK⊕(Int×slvK)) e s=>match q with
   | .inl k=>e=.exit 0/\∃ H2,s=⟨[(0,.ptr id 0),(1,iv i),(2,iv x)],[],H2⟩/\Fp H H2 [.cel id (ZaD p fuel a b m),.arr a 1 false (given.map eI64),smp m known] [.cel id (ZaD p fuel a b m),.arr a 1 false (given.map eI64),smp m k]
   | .inr q=>e=.ret/\∃ H2,s=⟨[(6,iv q.1)],[],H2⟩/\Fp H H2 [.cel id (ZaD p fuel a b m),.arr a 1 false (given.map eI64),smp m known] [.cel id (ZaD p fuel a b m),.arr a 1 false (given.map eI64),smp m q.2]) ?_ N _ o1 _ ho1 ⟨H,by show _=_;kernel_rfl,hH⟩).mono ?_)
 ·clear h ho1 hH
  rintro ⟨j,k1⟩ o s h hR
  obtain ⟨H1,rfl,hF1⟩:=hR
  replace h:Zcd N p given i x j k1=some o:=h
  unfold Zcd at h
  refine sq (rgS ⟨[(0,.ptr id 0),(1,iv i),(2,iv x),(8,iv i),(9,iv j),(10,bv (decide (j<i)))],[],H1⟩ Z4.f kr (tq (sq (it h (λhc h=>?_) (λhc h=>?_)))))
  ·refine sk (tq (kq (sq (bk (sq (rgS ⟨[(0,.ptr id 0),(1,iv i),(2,iv x),(7,iv j),(8,iv i),(9,iv j)],[],H1⟩ Z4.f kr (tq (sq ?_))))))))
   obtain ⟨y,hy,h⟩:=bs h
   obtain ⟨r1,hr1,h⟩:=bs h
   obtain ⟨id2,ver2,_,hid2f,hid2,hid2a,hid2v⟩:=Fp.elem (k:=1) (a:=a) (sz:=1) (frz:=false) eI64 hF1 rfl hy
   have hlc:=Fp.get hF1 0 rfl
   obtain ⟨H2,hc2,hF2⟩:=Zgj N p k1 i x j y r1 id m fuel a b H1 (Fp.pk hF1 [0,2] rfl).now hr1
   replace hF2:=Fp.callee (rest:=[.arr a 1 false (given.map eI64)]) (Fp.pk hF1 [0,2,1] rfl) hF2
   replace hF2:=Fp.pk (H':=H2) (L:=[.cel id (ZaD p fuel a b m),.arr a 1 false (given.map eI64),smp m r1.2]) hF2 [0,2,1] rfl
   refine rgS ⟨[(0,.ptr id 0),(1,iv i),(2,iv x),(7,iv j),(8,iv i),(9,iv j),(23,bv r1.1)],[],H2⟩ (Z4.u 7 (ZaP (H:=H1) (id:=id) (off:=3) (cs:=ZaD p fuel a b m) (c:=[a]) (r:=a) kr kr hlc kr (by cases hfa<;>kernel_rfl) kr)
    (Z4.u (hm:=by cases hfa<;>kernel_rfl) 1 (Zad (ys:=[a,iv j]) (by cases hfa<;>kernel_rfl) (hid2v .i64))
    (Z4.u (hm:=by cases hfa<;>kernel_rfl) 0 (ZgT (H:=H1) (off:=0) (cs:=[.int .i64 y]) (r:=iv y) eI64 hy hid2 (by cases hfa<;>kernel_rfl) (by cases hfa<;>kernel_rfl) kr kr)
    (Z4.v (hm:=by cases hfa<;>kernel_rfl) 0 (ZdC (H:=H1) (H1:=H1) (ys:=[.ptr id 0,iv i,iv x,iv j,iv y]) (args:=[.ptr id 0,iv i,iv x,iv j,iv y]) (by cases hfa<;>kernel_rfl) (by cases hfa<;>kernel_rfl) kr hc2) (Z4.f (h:=by cases hfa<;>kernel_rfl)))))) (by cases hfa<;>kernel_rfl) ?_
   refine tq (it h (λhc3 h=>?_) (λhc3 h=>?_))
   ·cases h
    exact sq (rgS ⟨[(6,iv j)],[],H2⟩ Z4.f kr (tq (rt (br (tr (⟨_,rfl,rfl,H2,rfl,hF2⟩))))))
   refine sk (bn (tq (kq (rgS ⟨[(0,.ptr id 0),(1,iv i),(2,iv x),(8,iv i),(9,iv (w64 (j+1)))],[],H2⟩ Z4.f kr ?_))))
   cases h
   exact ⟨_,rfl,H2,rfl,hF2⟩
  refine kq (xq (tx ?_))
  cases h
  exact ⟨_,rfl,rfl,H1,kr,hF1⟩
 rintro e s hq
 rcases o1 with k|q
 ·dsimp only at h hq
  obtain ⟨rfl,H1,rfl,hF1⟩:=hq
  refine bx (tq (sq ?_))
  obtain ⟨r1,hr1,h⟩:=bs h
  obtain ⟨H2,hc2,hF2⟩:=Zgj N p k i x i x r1 id m fuel a b H1 (Fp.pk hF1 [0,2] rfl).now hr1
  replace hF2:=Fp.callee (rest:=[.arr a 1 false (given.map eI64)]) (Fp.pk hF1 [0,2,1] rfl) hF2
  replace hF2:=Fp.pk (H':=H2) (L:=[.cel id (ZaD p fuel a b m),.arr a 1 false (given.map eI64),smp m r1.2]) hF2 [0,2,1] rfl
  refine sq (rgS ⟨[(1,iv i),(31,bv r1.1)],[],H2⟩ (Z4.v 5 (ZdC (H:=H1) (H1:=H1) (ys:=[.ptr id 0,iv i,iv x,iv i,iv x]) (args:=[.ptr id 0,iv i,iv x,iv i,iv x]) kr kr kr hc2) Z4.f) kr (tq (it h (λhc3 h=>?_) (λhc3 h=>?_))))
  ·cases h
   exact sq (rgS ⟨[(6,iv i)],[],H2⟩ Z4.f kr (tq (rt (tr (⟨[iv i],kr,rfl,hF2⟩)))))
  cases h
  exact sk (tq (kq (sq (rgS ⟨[(6,iv (-1))],[],H2⟩ Z4.f kr (tq (rt (⟨[iv (-1)],kr,rfl,hF2⟩)))))))
 dsimp only at h hq
 obtain ⟨rfl,H1,rfl,hF1⟩:=hq
 refine br (tr ?_)
 have hqr:=Zae h
 subst hqr
 exact ⟨[iv q.1],kr,rfl,hF1⟩
theorem Zif (f:List Z5)(c:Int)(z:Zag)(r:List Z5)(p:Z3)(id m:Nat)(fuel:Int)(a b:AV)(cs:List PC)(H:List HO)(hH:HP H [.cel id (ZaD p fuel a b m),.deep b 4 true cs (f.map dpC)])(h:Zd5 f c z=some r) :
  ∃ cs' H',ZbR Try.prog 33 [.ptr id 0,iv c,.agg (ZbV z)] H (.tup []) H'/\Fp H H' [.cel id (ZaD p fuel a b m),.deep b 4 true cs (f.map dpC)] [.cel id (ZaD p fuel a b m),.deep b 4 true cs' (r.map dpC)]:=by
 suffices hs:∃ H',ZbR Try.prog 33 [.ptr id 0,iv c,.agg (ZbV z)] H (.tup []) H'/\∃ cs',Fp H H' [.cel id (ZaD p fuel a b m),.deep b 4 true cs (f.map dpC)] [.cel id (ZaD p fuel a b m),.deep b 4 true cs' (r.map dpC)] by
  obtain ⟨H',h1,cs',h2⟩:=hs
  exact ⟨cs',H',h1,h2⟩
 unfold Zd5 at h
 replace hH:=Fp.refl hH
 have hlc:=Fp.get hH 0 rfl
 have hfb:=Zkf (Fp.get hH 1 rfl)
 refine ZfU Zu0 (λH'=>∃ cs',Fp H H' [.cel id (ZaD p fuel a b m),.deep b 4 true cs (f.map dpC)] [.cel id (ZaD p fuel a b m),.deep b 4 true cs' (r.map dpC)]) rfl rfl rfl ?_
 obtain ⟨fc,hfc,h⟩:=bs h
 obtain ⟨la,hla,h⟩:=bs h
 obtain ⟨id4,ver4,cc,bb,hid4a,hcc,hbb,hid4v,hfbb,hlbb,hr0,hr1,hr2⟩:=ZhR (Fp.get hH 1 rfl) (Zjb dpC hfc)
 refine sq (rgS ⟨[(0,.ptr id 0),(1,iv c),(5,.loc 5 0)],[(5,ZbV z)],H⟩ Z4.f kr (tq (sq ?_)))
 refine rgS ⟨[(0,.ptr id 0),(1,iv c),(5,.loc 5 0),(6,bb)],[(5,ZbV z)],H⟩ (Z4.u 3 (ZaP (H:=H) (id:=id) (off:=4) (cs:=ZaD p fuel a b m) (c:=[b]) (r:=b) kr kr hlc kr (by cases hfb<;>kernel_rfl) kr)
  (Z4.u (hm:=by cases hfb<;>kernel_rfl) 1 (Zad (ys:=[b,iv c]) (by cases hfb<;>kernel_rfl) (hid4v .i64)) (Z4.u (hm:=by cases hfb<;>kernel_rfl) 1 (Znu (H:=H) (r:=bb) (p:=.optr 2 id4 ver4 (0+c.toNat) 1) (by cases hfb<;>kernel_rfl) (by cases hfb<;>kernel_rfl) hr1 (by cases hfbb<;>kernel_rfl) (by cases hfbb<;>kernel_rfl)) (Z4.f (h:=by cases hfb<;>kernel_rfl))))) (by cases hfb<;>cases hfbb<;>kernel_rfl) ?_
 refine tq (sq ?_)
 have hpb:HP H [.arr bb 4 false (fc.Arms.map Zah)]:=hp1 hlbb
 refine sq (rgS ⟨[(0,.ptr id 0),(1,iv c),(5,.loc 5 0),(6,bb),(7,iv ((List.length fc.Arms:Nat):Int))],[(5,ZbV z)],H⟩ (Z4.u (hm:=by cases hfbb<;>kernel_rfl) 1 (Zad (ys:=[bb]) (by cases hfbb<;>kernel_rfl) (HP.len (k:=0) (frz:=false) Zah hpb rfl)) (Z4.f (h:=by cases hfbb<;>kernel_rfl))) (by cases hfbb<;>kernel_rfl) (tq (sq (rqX (hs:=(by cases hfbb<;>kernel_rfl)) ⟨[(0,.ptr id 0),(1,iv c),(5,.loc 5 0),(6,bb),(7,iv ((List.length fc.Arms:Nat):Int)),(35,bv la)],[(5,ZbV z)],H⟩ ?_ ?_))))
 ·clear h
  unfold ZdD at hla
  rcases Zat hla with ⟨hc,hla⟩|⟨hc,hla⟩
  ·refine EP.u (hm:=by cases hfbb<;>kernel_rfl) 1 (Zaa (c:=(decide (((List.length fc.Arms:Nat):Int)>0))) (by cases hfbb<;>kernel_rfl) hc) ?_
   rcases Zat hla with ⟨hc',hla⟩|⟨hc',hla⟩
   ·refine EP.u (hm:=by cases hfbb<;>kernel_rfl) 3 (Zaa (c:=(decide (z.By≥0))) (by cases hfbb<;>kernel_rfl) hc') ?_
    obtain ⟨e5,he5,hla⟩:=bs hla
    obtain rfl:=Zae hla
    obtain ⟨id5,ver5,_,hid5f,hid5,hid5a,hid5v⟩:=HP.elem (k:=0) (frz:=false) Zah hpb rfl he5
    exact EP.u (hm:=by cases hfbb<;>kernel_rfl) 5 (Zad (ys:=[bb,iv (w64 (((List.length fc.Arms:Nat):Int)-1))]) (by cases hfbb<;>kernel_rfl) (hid5v .i64)) (EP.u (hm:=by cases hfbb<;>kernel_rfl) 1 (ZaY (ZgT (H:=H) (off:=2) (cs:=[.int .i64 e5.By]) (r:=iv e5.By) Zah he5 hid5 (by cases hfbb<;>kernel_rfl) (by cases hfbb<;>kernel_rfl) kr kr) (by cases hfbb<;>kernel_rfl)) (EP.f (h:=by cases hfbb<;>kernel_rfl) (by cases hfbb<;>kernel_rfl)))
   obtain rfl:=Zae hla
   exact EP.u (hm:=by cases hfbb<;>kernel_rfl) 3 (Zaa (c:=(decide (z.By≥0))) (by cases hfbb<;>kernel_rfl) hc') (EP.f (h:=by cases hfbb<;>kernel_rfl) (by cases hfbb<;>kernel_rfl))
  obtain rfl:=Zae hla
  exact EP.u (hm:=by cases hfbb<;>kernel_rfl) 1 (Zaa (c:=(decide (((List.length fc.Arms:Nat):Int)>0))) (by cases hfbb<;>kernel_rfl) hc) (EP.f (h:=by cases hfbb<;>kernel_rfl) (by cases hfbb<;>kernel_rfl))
 refine tq (it h (λhc6 h=>?_) (λhc6 h=>?_) (hx:=by cases hfbb<;>kernel_rfl))
 ·obtain ⟨e7,he7,h⟩:=bs h
  obtain ⟨id7,ver7,H7,hid7a,hid7v,hw7,hF7⟩:=Fp.deepRow (k:=1) (vs:=[iv z.To]) (off:=1) (e':=Zah { e7 with To:=z.To }) hH rfl (Zjb dpC hfc) hcc hbb (Zjb Zah he7) rfl rfl
  cases h
  replace hF7:Fp H H7 [.cel id (ZaD p fuel a b m),.deep b 4 true cs (f.map dpC)] [.cel id (ZaD p fuel a b m),.deep b 4 true cs ((f.set c.toNat ⟨fc.Stream,fc.Arms.set (w64 (((List.length fc.Arms:Nat):Int)-1)).toNat { e7 with To:=z.To }⟩).map dpC)]:=by
   rw [List.map_set]
   simp only [dpC,List.map_set]
   exact hF7
  exact sq (rgS ⟨[],[],H7⟩ (Z4.u (hm:=by cases hfbb<;>kernel_rfl) 5 (Zad (ys:=[bb,iv (w64 (((List.length fc.Arms:Nat):Int)-1))]) (by cases hfbb<;>kernel_rfl) (hid7v .i64)) (Z4.o (hm:=by cases hfbb<;>kernel_rfl) 1 (Zbs (H:=H) (v:=iv z.To) (cs:=[iv z.To]) (p:=.optr 4 id7 ver7 (0+(w64 (((List.length fc.Arms:Nat):Int)-1)).toNat) 1) rfl (by cases hfbb<;>kernel_rfl) (by cases hfbb<;>kernel_rfl) (by cases hfbb<;>kernel_rfl) rfl hw7) (Z4.f (h:=by cases hfbb<;>kernel_rfl)))) (by cases hfbb<;>kernel_rfl) (tq (rt (tr (⟨[],kr,rfl,cs,hF7⟩)))))
 obtain ⟨l9,hl9,h⟩:=bs h
 cases h
 obtain ⟨rfl,hb1,hb2⟩:=Zkk hl9
 refine sk (tq (kq ?_))
 obtain ⟨q9,v9,H9,a5,a4,a6,hap9,a1,a2,a3⟩:=Fp.deepIn (k:=1) (bytes:=32) (m:=[Zah z]) hH rfl (Zjb dpC hfc) hcc hbb (by simp) (by simpa [dpC] using hb1) (by simpa [dpC] using hb2)
 have a0:=hid4a.symm.trans a1
 cases a0
 subst hid4a
 clear hfb
 refine rqS (hs:=(by cases hfbb<;>kernel_rfl)) ⟨[],[],a6⟩
  (Z4.u (hm:=by cases hfbb<;>kernel_rfl) 3 (Zlc (H:=H) (id:=id) (off:=4) (cs:=ZaD p fuel a (.osl 2 id4 ver4 0 (f.map dpC).length) m) (c:=[.osl 2 id4 ver4 0 (f.map dpC).length]) (r:=.osl 2 id4 ver4 0 (f.map dpC).length) (zs:=[]) (vs:=[]) (by cases hfbb<;>kernel_rfl) (by cases hfbb<;>kernel_rfl) hlc kr kr kr rfl rfl)
  (Z4.h (hm:=by cases hfbb<;>kernel_rfl) 4 (Zep (H:=H) (a:=bb) (b:=ZaI true [z]) (by cases hfbb<;>kernel_rfl) (by cases hfbb<;>kernel_rfl) (by cases hfbb<;>kernel_rfl) kr hap9)
  (Z4.u (hm:=by cases hfbb<;>kernel_rfl) 0 (Zad (ys:=[.osl 2 id4 ver4 0 (f.map dpC).length,iv c]) (by cases hfbb<;>kernel_rfl) (hid4v .i64))
  (Z4.o (hm:=by cases hfbb<;>kernel_rfl) 1 (Zlb (Zbs (H:=H9) (v:=.osl 4 q9 v9 0 ((dpC fc).2++[Zah z]).length) (p:=.optr 2 id4 ver4 (0+c.toNat) 1) rfl (by cases hfbb<;>kernel_rfl) (by cases hfbb<;>kernel_rfl) (by cases hfbb<;>kernel_rfl) rfl a2) (by cases hfbb<;>kernel_rfl))
  (Z4.f (h:=by cases hfbb<;>kernel_rfl)))))) (by cases hfbb<;>kernel_rfl) ?_
 refine ⟨[],kr,rfl,(cs.set c.toNat (.ow 4 q9 v9 ((dpC fc).2++[Zah z]).length)),?_⟩
 rw [List.map_set]
 have e:dpC ⟨fc.Stream,fc.Arms++[z]⟩=((dpC fc).1,(dpC fc).2++[Zah z]):=by simp [dpC]
 rw [e]
 exact a3
abbrev ZaX (p:Z3) (fuel:Int) (id m:Nat) (a b:AV) (cs:List PC) (st:Zbt):List ZaS:=[.cel id (ZaD p fuel a b m),.arr a 1 false (st.2.1.map eI64),.deep b 4 true cs (st.1.map dpC),smp m st.2.2]
abbrev Zlw (P:Program) (p:Z3) (fuel:Int) (rec_:Zbt->Int->Option (Option (Bool×Zbt))):Prop :=
 ∀ (st:Zbt) (i:Int) (r:Option (Bool×Zbt)) (id m:Nat) (a b:AV) (cs:List PC) (H:List HO),HP H (ZaX p fuel id m a b cs st)->rec_ st i=some r →
  (∃ (t:Bool) (s':Zbt) (a' b':AV) (cs':List PC) (H':List HO),r=some (t,s')/\ZbR P 23 [.ptr id 0,iv i] H (bv t) H'/\Fp H H' (ZaX p fuel id m a b cs st) (ZaX p fuel id m a' b' cs' s')) ∨
  ∃ H',r=none/\Zk3 P 23 [.ptr id 0,iv i] H 79 H'/\Fp H H' (ZaX p fuel id m a b cs st) []
theorem Ziv {H H1:List HO}{f0:List ZaS}{p:Z3}{fuel:Int}{id m:Nat}{a b:AV}{cs:List PC}{st:Zbt}{i c most x by_ nx:Int}{f:List Z5}{Q:Exit->St->Prop}
  (hF:Fp H H1 f0 (ZaX p fuel id m a b cs st)) (hadd:Zd5 st.1 c ⟨x,w64 (x+1),by_,nx⟩=some f)
  (hQ:∀ H2 cs',Fp H H2 f0 (ZaX p fuel id m a b cs' (f,st.2))->Q .normal ⟨[(0,.ptr id 0),(1,iv i),(5,iv c),(6,iv most),(44,iv most),(45,iv x)],[],H2⟩) :
  vc Try.prog i23.nt (Ro ZnZ [0,1,5,6,44,45]) Q ⟨[(0,.ptr id 0),(1,iv i),(5,iv c),(6,iv most),(7,iv x),(8,iv by_),(9,iv nx),(44,iv most),(45,iv x)],[],H1⟩:=by
 obtain ⟨cs',H2,hc2,hF2⟩:=Zif st.1 c ⟨x,w64 (x+1),by_,nx⟩ f p id m fuel a b cs H1 (Fp.pk hF [0,2] rfl).now hadd
 replace hF2:=Fp.callee (rest:=[.arr a 1 false (st.2.1.map eI64),smp m st.2.2]) (Fp.pk hF [0,2,1,3] rfl) hF2
 replace hF2:=Fp.pk (H':=H2) (L:=ZaX p fuel id m a b cs' (f,st.2)) hF2 [0,2,1,3] rfl
 refine rgS ⟨[(0,.ptr id 0),(1,iv i),(5,iv c),(6,iv most),(44,iv most),(45,iv x)],[],H2⟩
  (Z4.v 8 (ZdC (H:=H1) (H1:=H1) (ys:=[.ptr id 0,iv c,.agg (ZbV ⟨x,w64 (x+1),by_,nx⟩)]) (args:=[.ptr id 0,iv c,.agg (ZbV ⟨x,w64 (x+1),by_,nx⟩)]) kr kr kr hc2) Z4.f) kr ?_
 exact hQ H2 cs' hF2
abbrev s15 (id:Nat) (i c most x nx:Int) (H:List HO):St:=⟨[(0,.ptr id 0),(1,iv i),(5,iv c),(6,iv most),(7,iv x),(8,iv (-1)),(9,iv nx),(44,iv most),(45,iv x)],[],H⟩
theorem Zl6 {H1:List HO}{p:Z3}{fuel:Int}{id m:Nat}{a b:AV}{i c most x nx:Int}{Q:Exit->St->Prop}(hlc:Lies H1 (.cel id (ZaD p fuel a b m)))(hc:(i==w64 (((List.length p.Periods:Nat):Int)-1))=true)
  (hQ:Q .normal ⟨[(0,.ptr id 0),(1,iv i),(5,iv c),(6,iv most),(7,iv x),(8,iv (-1)),(9,iv nx),(44,iv most),(45,iv x),(83,bv true)],[],H1⟩):vc Try.prog i23.nt (.box (Ro Zj1 [0,1,5,6,7,8,9,44,45,83])) Q (s15 id i c most x nx H1):=
 Zot (rgS ⟨[(0,.ptr id 0),(1,iv i),(5,iv c),(6,iv most),(7,iv x),(8,iv (-1)),(9,iv nx),(44,iv most),(45,iv x),(83,bv true)],[],H1⟩
  (Z4.u 5 (ZaP (H:=H1) (id:=id) (off:=0) (cs:=ZaD p fuel a b m) (c:=[Z9 false p.Periods]) (r:=Z9 false p.Periods) (hl:=hlc))
  (Z4.u 0 (Zad (ys:=[Z9 false p.Periods]) (h:=Zal eI64)) (Z4.u 1 (Zaa (c:=(i==w64 (((List.length p.Periods:Nat):Int)-1))) (h:=hc)) Z4.f))) kr hQ)
theorem Zm6 {H1 H2:List HO}{p:Z3}{fuel:Int}{id m:Nat}{a b:AV}{i c most x nx:Int}{t:Bool}{Q:Exit->St->Prop}(hlc:Lies H1 (.cel id (ZaD p fuel a b m)))(hc:(i==w64 (((List.length p.Periods:Nat):Int)-1))=false)
  (hcall:ZbR Try.prog 23 [.ptr id 0,iv (w64 (i+1))] H1 (bv t) H2)
  (hQ:Q .normal ⟨[(0,.ptr id 0),(1,iv i),(5,iv c),(6,iv most),(7,iv x),(8,iv (-1)),(9,iv nx),(44,iv most),(45,iv x),(83,bv t)],[],H2⟩):vc Try.prog i23.nt (.box (Ro Zj1 [0,1,5,6,7,8,9,44,45,83])) Q (s15 id i c most x nx H1):=
 Zot (rgS ⟨[(0,.ptr id 0),(1,iv i),(5,iv c),(6,iv most),(7,iv x),(8,iv (-1)),(9,iv nx),(44,iv most),(45,iv x),(83,bv t)],[],H2⟩
  (Z4.u 5 (ZaP (H:=H1) (id:=id) (off:=0) (cs:=ZaD p fuel a b m) (c:=[Z9 false p.Periods]) (r:=Z9 false p.Periods) (hl:=hlc))
  (Z4.u 0 (Zad (ys:=[Z9 false p.Periods]) (h:=Zal eI64)) (Z4.u 1 (Zaa (c:=(i==w64 (((List.length p.Periods:Nat):Int)-1))) (h:=hc))
  (Z4.v 4 (ZdC (H:=H1) (H1:=H1) (ys:=[.ptr id 0,iv (w64 (i+1))]) (args:=[.ptr id 0,iv (w64 (i+1))]) kr kr kr hcall) Z4.f)))) kr hQ)
theorem Zm7 {H1 H2:List HO}{p:Z3}{fuel:Int}{id m:Nat}{a b:AV}{i c most x nx:Int}{Q:Exit->St->Prop}(hlc:Lies H1 (.cel id (ZaD p fuel a b m)))(hc:(i==w64 (((List.length p.Periods:Nat):Int)-1))=false)
  (hcall:Zk3 Try.prog 23 [.ptr id 0,iv (w64 (i+1))] H1 79 H2)
  (hQ:∀ s:St,s.H=H2->Q (.panic (pvl 79)) s):vc Try.prog i23.nt (.box (Ro Zj1 [0,1,5,6,7,8,9,44,45,83])) Q (s15 id i c most x nx H1):=
 Zn1 13 _ rfl (AK.z (Z4.u (ops:=Zj1.take 13) 5 (ZaP (H:=H1) (id:=id) (off:=0) (cs:=ZaD p fuel a b m) (c:=[Z9 false p.Periods]) (r:=Z9 false p.Periods) (hl:=hlc))
  (Z4.u 0 (Zad (ys:=[Z9 false p.Periods]) (h:=Zal eI64)) (Z4.u 1 (Zaa (c:=(i==w64 (((List.length p.Periods:Nat):Int)-1))) (h:=hc)) Z4.f))))
  ⟨(by show get _ _=_;kernel_rfl),_,_,_,[.ptr id 0,iv (w64 (i+1))],H1,rfl,Pass.frz kr,hcall⟩ [] (hQ _ kr)
theorem Zhc (N:Nat)(rec_:Zbt->Int->Option (Option (Bool×Zbt)))(p:Z3)(fuel:Int)(hrec_:Zlw Try.prog p fuel rec_)(st0:Zbt)(id m:Nat)(a0 b0:AV)(cs0:List PC)(H:List HO)(i c most x:Int)(st:Zbt)(o:(Int×Zbt)⊕(Zbt⊕Option Zbt))(a b:AV)(cs:List PC)(H1:List HO)
  (hF1:Fp H H1 (ZaX p fuel id m a0 b0 cs0 st0) (ZaX p fuel id m a b cs st)) (h:Zcv N rec_ p i c most x st=some o) :
  vc Try.prog i23.nt ZpK (Zfw (λs=>∃ y:Int×Zbt,o=.inl y/\∃ a b cs H2,s=⟨[(0,.ptr id 0),(1,iv i),(5,iv c),(6,iv most),(44,iv most),(45,iv y.1)],[],H2⟩/\Fp H H2 (ZaX p fuel id m a0 b0 cs0 st0) (ZaX p fuel id m a b cs y.2))
   (λe s=>∃ r:Zbt⊕Option Zbt,o=.inr r/\match r with
   | .inl s2=>e=.exit 0/\∃ a b cs H2,s=⟨[(0,.ptr id 0),(1,iv i),(5,iv c),(6,iv most)],[],H2⟩/\Fp H H2 (ZaX p fuel id m a0 b0 cs0 st0) (ZaX p fuel id m a b cs s2)
   | .inr q=>match q with
    | none=>e=.panic (pvl 79)/\Fp H s.H (ZaX p fuel id m a0 b0 cs0 st0) []
    | some s2=>e=.ret/\∃ a b cs H2,s=⟨[(4,bv true)],[],H2⟩/\Fp H H2 (ZaX p fuel id m a0 b0 cs0 st0) (ZaX p fuel id m a b cs s2)))
   ⟨[(0,.ptr id 0),(1,iv i),(5,iv c),(6,iv most),(44,iv most),(45,iv x)],[],H1⟩:=by
 obtain ⟨pf,gv,kn⟩:=st
 unfold Zcv at h
 dsimp only at h
 have hlc:=Fp.get hF1 0 rfl
 have hfa:=ZbB (Fp.get hF1 1 rfl)
 have hfb:=Zkf (Fp.get hF1 2 rfl)
 refine sq (rgS ⟨[(0,.ptr id 0),(1,iv i),(5,iv c),(6,iv most),(44,iv most),(45,iv x),(46,bv (decide (x<most)))],[],H1⟩ Z4.f kr (tq (sq (it h (λhc h=>?_) (λhc h=>?_)))))
 ·refine sk (tq (kq (sq (bk (sq (rgS ⟨[(0,.ptr id 0),(1,iv i),(5,iv c),(6,iv most),(7,iv x),(44,iv most),(45,iv x)],[],H1⟩ Z4.f kr (tq (sq ?_))))))))
  obtain ⟨by_,hby,h⟩:=bs h
  obtain ⟨H2,hc2,hF2⟩:=ZiR N p gv kn i x by_ id m fuel a b H1 (Fp.pk hF1 [0,1,3] rfl).now hby
  replace hF2:=Fp.callee (rest:=[.deep b 4 true cs (pf.map dpC)]) (Fp.pk hF1 [0,1,3,2] rfl) hF2
  replace hF2:=Fp.pk (H':=H2) (L:=ZaX p fuel id m a b cs (pf,gv,by_.2)) hF2 [0,1,3,2] rfl
  refine rgS ⟨[(0,.ptr id 0),(1,iv i),(5,iv c),(6,iv most),(7,iv x),(8,iv by_.1),(9,iv 0),(44,iv most),(45,iv x)],[],H2⟩ (Z4.v 3 (ZdC (H:=H1) (H1:=H1) (ys:=[.ptr id 0,iv i,iv x]) (args:=[.ptr id 0,iv i,iv x]) kr kr kr hc2) Z4.f) kr (tq (sq ?_))
  obtain ⟨q,hq,h⟩:=bs h
  refine sq (rgS ⟨[(0,.ptr id 0),(1,iv i),(5,iv c),(6,iv most),(7,iv x),(8,iv by_.1),(9,iv 0),(44,iv most),(45,iv x),(53,bv (by_.1 == -1))],[],H2⟩ Z4.f kr (tq (it hq (λhc3 hq=>?_) (λhc3 hq=>?_))))
  ·have hby1:by_.1 = -1:=by simpa using hc3
   rw [hby1] at h ⊢
   obtain ⟨g,hg,hq⟩:=bs hq
   have hlc2:=Fp.get hF2 0 rfl
   obtain ⟨a3,H3,ha3,hF3⟩:=Fp.app (k:=1) (a:=a) (sz:=1) (frz:=false) eI64 hF2 rfl hg
   obtain ⟨H4,hw4,hF4⟩:=Fp.setCell (k:=0) (off:=3) (vs:=[a3]) (cs':=ZaD p fuel a3 b m) hF3 rfl kr
   replace hF4:Fp H H4 (ZaX p fuel id m a0 b0 cs0 st0) (ZaX p fuel id m a3 b cs (pf,g,by_.2)):=hF4
   have hfa3:=ZbB (Fp.get hF4 1 rfl)
   refine sq (rgS ⟨[(0,.ptr id 0),(1,iv i),(5,iv c),(6,iv most),(7,iv x),(8,iv (-1)),(44,iv most),(45,iv x)],[],H4⟩ (Z4.u 4 (ZaP (H:=H2) (id:=id) (off:=3) (cs:=ZaD p fuel a b m) (c:=[a]) (r:=a) kr kr hlc2 kr (by cases hfa<;>kernel_rfl) kr)
    (Z4.h (hm:=by cases hfa<;>kernel_rfl) 2 (Zep (H:=H2) (a:=a) (b:=Z9 true [x]) (by cases hfa<;>kernel_rfl) (by cases hfa<;>kernel_rfl) (by cases hfa<;>kernel_rfl) kr ha3)
    (Z4.o (hm:=by cases hfa<;>cases hfa3<;>kernel_rfl) 2 (Zbs (H:=H3) (v:=a3) (cs:=[a3]) (p:=.ptr id 3) (by cases hfa3<;>kernel_rfl) (by cases hfa<;>kernel_rfl) (by cases hfa<;>kernel_rfl) (by cases hfa<;>kernel_rfl) (by cases hfa3<;>kernel_rfl) hw4)
    (Z4.f (h:=by cases hfa<;>cases hfa3<;>kernel_rfl))))) (by cases hfa<;>cases hfa3<;>kernel_rfl) ?_)
   refine tq (sq ?_)
   have hlc4:=Fp.get hF4 0 rfl
   refine rgS (s15 id i c most x ((List.length pf:Nat):Int) H4) (Z4.u 3 (ZaP (H:=H4) (id:=id) (off:=4) (cs:=ZaD p fuel a3 b m) (c:=[b]) (r:=b) kr kr hlc4 kr (by cases hfb<;>kernel_rfl) kr)
    (Z4.u (hm:=by cases hfb<;>kernel_rfl) 0 (Zad (ys:=[b]) (by cases hfb<;>kernel_rfl) (Zke (Fp.get hF4 2 rfl))) (Z4.f (h:=by cases hfb<;>kernel_rfl)))) (by cases hfb<;>kernel_rfl) ?_
   refine tq (sq (sq ?_))
   rcases Zat hq with ⟨hc5,hq⟩|⟨hc5,hq⟩
   ·obtain rfl:=Zae hq
    dsimp only at h
    cases h
    exact Zl6 hlc4 hc5 (tq (ZdN kr (sq (rgS ⟨[(4,bv true)],[],H4⟩ Z4.f kr (tq (rt (tr (tr (br (tr (⟨_,rfl,rfl,a3,b,cs,H4,rfl,hF4⟩)))))))))))
   obtain ⟨q5,hq5,hq⟩:=bs hq
   rcases hrec_ (pf,g,by_.2) (w64 (i+1)) q5 id m a3 b cs H4 hF4.now hq5 with ⟨t,s5,a5,b5,cs5,H5,rfl,hc6,hF5⟩|⟨H5,rfl,hc6,hF5⟩
   ·dsimp only at hq
    replace hF5:Fp H H5 (ZaX p fuel id m a0 b0 cs0 st0) (ZaX p fuel id m a5 b5 cs5 s5):=Fp.trans hF4 hF5
    refine Zm6 hlc4 hc5 hc6 (tq ?_)
    cases t with
    | true =>
     simp only [Z1] at hq
     obtain rfl:=Zae hq
     dsimp only at h
     cases h
     exact ZdN kr (sq (rgS ⟨[(4,bv true)],[],H5⟩ Z4.f kr (tq (rt (tr (tr (br (tr (⟨_,rfl,rfl,a5,b5,cs5,H5,rfl,hF5⟩)))))))))
    | false =>
     simp only [Zf,ZY] at hq
     obtain ⟨g6,hg6,hq⟩:=bs hq
     obtain rfl:=Zae hq
     dsimp only at h
     obtain ⟨f7,hf7,h⟩:=bs h
     refine ZgQ kr (sk (tq (kq ?_)))
     have hlc5:=Fp.get hF5 0 rfl
     obtain ⟨id6,ver6,a6,H6,ha5,hid6,hm6,hH6,ha6,hF6⟩:=Fp.pop (k:=1) eI64 hF5 rfl hg6
     obtain ⟨H7,hw7,hF7⟩:=Fp.setCell (k:=0) (off:=3) (vs:=[a6]) (cs':=ZaD p fuel a6 b5 m) hF6 rfl kr
     replace hF7:Fp H H7 (ZaX p fuel id m a0 b0 cs0 st0) (ZaX p fuel id m a6 b5 cs5 (s5.1,g6,s5.2.2)):=hF7
     clear hF6
     subst ha5 ha6
     refine rgS ⟨[(0,.ptr id 0),(1,iv i),(5,iv c),(6,iv most),(7,iv x),(8,iv (-1)),(9,iv ((List.length pf:Nat):Int)),(44,iv most),(45,iv x)],[],H7⟩ (Z4.u 4 (ZaP (H:=H5) (id:=id) (off:=3) (cs:=ZaD p fuel (.osl 1 id6 ver6 0 (s5.2.1.map eI64).length) b5 m) (c:=[.osl 1 id6 ver6 0 (s5.2.1.map eI64).length]) (r:=.osl 1 id6 ver6 0 (s5.2.1.map eI64).length) (hl:=hlc5))
      (Z4.h 1 (Zn6 (H:=H5) kr kr kr rfl hid6 hm6 hH6 rfl)
      (Z4.o 2 (Zbs (H:=H6) (v:=.osl 1 id6 (ver6+1) 0 i.toNat) (cs:=[.osl 1 id6 (ver6+1) 0 i.toNat]) (p:=.ptr id 3) kr kr kr kr kr hw7)
      Z4.f))) kr ?_
     refine tq (kq (Eq.mp (congrArg _ (show ⟨[(0,.ptr id 0),(1,iv i),(5,iv c),(6,iv most),(7,iv x),(8,iv (-1)),(9,iv ((List.length pf:Nat):Int)),(44,iv most),(45,iv x)],[],H7⟩=_ by kernel_rfl)) (Ziv hF7 hf7 λH8 cs8 hF8=>(bn (tq (kq (rgS ⟨[(0,.ptr id 0),(1,iv i),(5,iv c),(6,iv most),(44,iv most),(45,iv (w64 (x+1)))],[],H8⟩ Z4.f kr ?_)))))))
     cases h
     exact ⟨_,rfl,_,b5,cs8,H8,rfl,hF8⟩
   dsimp only at hq
   obtain rfl:=Zae hq
   dsimp only at h
   cases h
   refine Zm7 hlc4 hc5 hc6 λs hs=>?_
   refine tp (tp (tp (bp (tp ?_))))
   subst hs
   exact ⟨_,rfl,rfl,Fp.trans hF4 hF5⟩
  obtain rfl:=Zae hq
  dsimp only at h
  obtain ⟨f7,hf7,h⟩:=bs h
  refine sk (tq (kq (Eq.mp (congrArg _ (show ⟨[(0,.ptr id 0),(1,iv i),(5,iv c),(6,iv most),(7,iv x),(8,iv by_.1),(9,iv 0),(44,iv most),(45,iv x)],[],H2⟩=_ by kernel_rfl)) (Ziv hF2 hf7 λH8 cs8 hF8=>(bn (tq (kq (rgS ⟨[(0,.ptr id 0),(1,iv i),(5,iv c),(6,iv most),(44,iv most),(45,iv (w64 (x+1)))],[],H8⟩ Z4.f kr ?_))))))))
  cases h
  exact ⟨_,rfl,a,b,cs8,H8,rfl,hF8⟩
 refine kq (xq (tx ?_))
 cases h
 exact ⟨_,rfl,rfl,a,b,cs,H1,kr,hF1⟩
theorem ZhY (N:Nat)(rec_:Zbt->Int->Option (Option (Bool×Zbt)))(p:Z3)(fuel:Int)(hrec_:Zlw Try.prog p fuel rec_):Zlw Try.prog p fuel (ZcQ N rec_ p fuel):=by
 intro st i r id m a b cs H hH h
 refine (Zne Zu7 (args:=[.ptr id 0,iv i]) (H:=H) 79 (λrv H'=>∃ (t:Bool) (s':Zbt),r=some (t,s')/\rv=bv t/\∃ a' b' cs',Fp H H' (ZaX p fuel id m a b cs st) (ZaX p fuel id m a' b' cs' s')) (λH'=>r=none/\Fp H H' (ZaX p fuel id m a b cs st) [])
  (λrv H' q=>by obtain ⟨t,s',_,e,_⟩:=q;subst e;rfl) rfl rfl ?_).imp (λ⟨rv,H',h1,t,s',e1,e2,a',b',cs',h2⟩=>⟨t,s',a',b',cs',H',e1,e2 ▸ h1,h2⟩) (λ⟨H',h1,e,h2⟩=>⟨H',e,h1,h2⟩)
 obtain ⟨pf,gv,kn⟩:=st
 unfold ZcQ at h
 dsimp only at h
 replace hH:=Fp.refl hH
 have hlc:=Fp.get hH 0 rfl
 have hfa:=ZbB (Fp.get hH 1 rfl)
 have hfb:=Zkf (Fp.get hH 2 rfl)
 refine sq (rgS ⟨[(0,.ptr id 0),(1,iv i)],[],H⟩ Z4.f kr (tq (sq ?_)))
 refine rgS ⟨[(0,.ptr id 0),(1,iv i),(5,iv ((List.length pf:Nat):Int))],[],H⟩ (Z4.u 3 (ZaP (H:=H) (id:=id) (off:=4) (cs:=ZaD p fuel a b m) (c:=[b]) (r:=b) kr kr hlc kr (by cases hfb<;>kernel_rfl) kr)
  (Z4.u (hm:=by cases hfb<;>kernel_rfl) 0 (Zad (ys:=[b]) (by cases hfb<;>kernel_rfl) (Zke (Fp.get hH 2 rfl))) (Z4.f (h:=by cases hfb<;>kernel_rfl)))) (by cases hfb<;>kernel_rfl) ?_
 refine tq (sq (sq (rgS ⟨[(0,.ptr id 0),(1,iv i),(5,iv ((List.length pf:Nat):Int)),(20,bv (decide (((List.length pf:Nat):Int)>fuel)))],[],H⟩ (Z4.u 4 (ZaP (H:=H) (id:=id) (off:=2) (cs:=ZaD p fuel a b m) (c:=[iv fuel]) (r:=iv fuel) (hl:=hlc)) Z4.f) kr (tq (it h (λhc h=>?_) (λhc h=>?_))))))
 ·cases h
  exact ZuE (tp (⟨rfl,rfl,Fp.pk hH [] rfl⟩))
 refine sk (tq (kq (sq ?_)))
 obtain ⟨f1,hf1,h⟩:=bs h
 obtain ⟨rfl,hb1,hb2⟩:=Zkk hf1
 obtain ⟨c1,b1,H1,hrw,hap,hF1⟩:=Fp.deepApp (k:=3) (j:=0) (bytes:=32) (Fp.nilArr hH 4 false) rfl rfl (by decide) i (by simpa using hb1) (by simpa using hb2)
 obtain ⟨H2,hw2,hF2⟩:=Fp.setCell (k:=1) (off:=4) (vs:=[b1]) (cs':=ZaD p fuel a b1 m) hF1 rfl kr
 replace hF2:Fp H H2 (ZaX p fuel id m a b cs (pf,gv,kn)) (ZaX p fuel id m a b1 (cs++[c1]) (pf++[Z5.mk i []],gv,kn)):=by
  have:=Fp.pick hF2 [1,2,3,4] rfl
  unfold ZaX
  rw [List.map_append]
  exact this
 have hfb1:=Zkf (Fp.get hF2 2 rfl)
 refine rgS ⟨[(0,.ptr id 0),(1,iv i),(5,iv ((List.length pf:Nat):Int))],[],H2⟩ (Z4.u 4 (ZaP (H:=H) (id:=id) (off:=4) (cs:=ZaD p fuel a b m) (c:=[b]) (r:=b) kr kr hlc kr (by cases hfb<;>kernel_rfl) kr)
  (Z4.h (hm:=by cases hfb<;>kernel_rfl) 2 (Zn9 (H:=H) (ys:=[.agg [iv i,.p (.sl 4 true [])]]) (by cases hfb<;>kernel_rfl) (by cases hfb<;>kernel_rfl) hrw rfl rfl)
  (Z4.h (hm:=by cases hfb<;>kernel_rfl) 0 (Zep (H:=H++[.arr 2 0 false [[.int .i64 i,c1]]]) (a:=b) (b:=.osl 2 H.length 0 0 1) (by cases hfb<;>kernel_rfl) (by cases hfb<;>kernel_rfl) (by cases hfb<;>kernel_rfl) (ZmU _ _) hap)
  (Z4.o (hm:=by cases hfb<;>cases hfb1<;>kernel_rfl) 2 (Zbs (H:=H1) (v:=b1) (cs:=[b1]) (p:=.ptr id 4) (by cases hfb1<;>kernel_rfl) (by cases hfb<;>kernel_rfl) (by cases hfb<;>kernel_rfl) (by cases hfb<;>kernel_rfl) (by cases hfb1<;>kernel_rfl) hw2)
  (Z4.f (h:=by cases hfb<;>cases hfb1<;>kernel_rfl)))))) (by cases hfb<;>cases hfb1<;>kernel_rfl) ?_
 refine tq (sq ?_)
 clear hrw hap hf1 hb1 hb2 hF1 hw2
 have hlc2:=Fp.get hF2 0 rfl
 obtain ⟨per,hper,h⟩:=bs h
 refine rgS ⟨[(0,.ptr id 0),(1,iv i),(5,iv ((List.length pf:Nat):Int)),(6,iv per)],[],H2⟩ (Z4.u 4 (ZaP (H:=H2) (id:=id) (off:=0) (cs:=ZaD p fuel a b1 m) (c:=[Z9 false p.Periods]) (r:=Z9 false p.Periods) (hl:=hlc2))
  (Z4.u 1 (Zad (ys:=[Z9 false p.Periods,iv i]) (h:=Zac eI64 hper)) (Z4.u 0 (Zas (sz:=1) (off:=0) (cs:=[.int .i64 per]) (r:=iv per) eI64 hper) Z4.f))) kr ?_
 refine tq ?_
 obtain ⟨most,hmost,h⟩:=bs h
 refine ZgP [0,1,5,6] (λs=>s=⟨[(0,.ptr id 0),(1,iv i),(5,iv ((List.length pf:Nat):Int)),(6,iv most)],[],H2⟩) ?_ ?_
 ·clear h
  refine sq (rgS ⟨[(0,.ptr id 0),(1,iv i),(5,iv ((List.length pf:Nat):Int)),(6,iv per),(43,bv (i==0))],[],H2⟩ Z4.f kr (tq (it hmost (λhc hb=>?_) (λhc hb=>?_))))
  ·obtain rfl:=Zae hb
   exact rgS ⟨[(0,.ptr id 0),(1,iv i),(5,iv ((List.length pf:Nat):Int)),(6,iv 1)],[],H2⟩ Z4.f kr (⟨rfl,kr⟩)
  obtain rfl:=Zae hb
  exact sk (⟨rfl,kr⟩)
 rintro s hR
 obtain rfl:=hR
 refine sq (sq (rgS ⟨[(0,.ptr id 0),(1,iv i),(5,iv ((List.length pf:Nat):Int)),(6,iv most),(44,iv most),(45,iv 0)],[],H2⟩ Z4.f kr (tq (bk ?_))))
 obtain ⟨o1,ho1,h⟩:=bs h
 refine Zbc ((ZaT (λ(y:Int×Zbt) s=>∃ a2 b2 cs2 H3,s=⟨[(0,.ptr id 0),(1,iv i),(5,iv ((List.length pf:Nat):Int)),(6,iv most),(44,iv most),(45,iv y.1)],[],H3⟩/\Fp H H3 (ZaX p fuel id m a b cs (pf,gv,kn)) (ZaX p fuel id m a2 b2 cs2 y.2))
  (λy:Int×Zbt=>Zcv N rec_ p i ((List.length pf:Nat):Int) most y.1 y.2)
  (λ(r:Zbt⊕Option Zbt) e s=>match r with
   | .inl s2=>e=.exit 0/\∃ a2 b2 cs2 H2,s=⟨[(0,.ptr id 0),(1,iv i),(5,iv ((List.length pf:Nat):Int)),(6,iv most)],[],H2⟩/\Fp H H2 (ZaX p fuel id m a b cs (pf,gv,kn)) (ZaX p fuel id m a2 b2 cs2 s2)
   | .inr q=>match q with
    | none=>e=.panic (pvl 79)/\Fp H s.H (ZaX p fuel id m a b cs (pf,gv,kn)) []
    | some s2=>e=.ret/\∃ a2 b2 cs2 H2,s=⟨[(4,bv true)],[],H2⟩/\Fp H H2 (ZaX p fuel id m a b cs (pf,gv,kn)) (ZaX p fuel id m a2 b2 cs2 s2))
  (λy o s ho hR=>by
   obtain ⟨a2,b2,cs2,H3,rfl,hF3⟩:=hR
   exact Zhc N rec_ p fuel hrec_ (pf,gv,kn) id m a b cs H i ((List.length pf:Nat):Int) most y.1 y.2 o a2 b2 cs2 H3 hF3 ho) N _ o1 _ ho1 ⟨a,b1,cs++[c1],H2,by show _=_;kernel_rfl,hF2⟩).mono ?_)
 rintro e s hq
 rcases o1 with s2|q
 ·dsimp only at h hq
  obtain ⟨rfl,a2,b2,cs2,H3,rfl,hF3⟩:=hq
  have hlc3:=Fp.get hF3 0 rfl
  refine bx (tq (ZgP [] (λs=>∃ (s4:Zbt) (b4:AV) (cs4:List PC) (H4:List HO),r=some (false,s4)/\s=⟨[],[],H4⟩/\Fp H H4 (ZaX p fuel id m a b cs (pf,gv,kn)) (ZaX p fuel id m a2 b4 cs4 s4)) ?_ ?_))
  ·refine sq (rgS ⟨[(0,.ptr id 0),(1,iv i),(5,iv ((List.length pf:Nat):Int)),(6,iv most),(112,bv (decide (most<per)))],[],H3⟩ (Z4.u 5 (ZaP (H:=H3) (id:=id) (off:=0) (cs:=ZaD p fuel a2 b2 m) (c:=[Z9 false p.Periods]) (r:=Z9 false p.Periods) (hl:=hlc3))
    (Z4.u 1 (Zad (ys:=[Z9 false p.Periods,iv i]) (h:=Zac eI64 hper)) (Z4.u 0 (Zas (sz:=1) (off:=0) (cs:=[.int .i64 per]) (r:=iv per) eI64 hper) Z4.f))) kr ?_)
   refine tq (it h (λhc h=>?_) (λhc h=>?_))
   ·obtain ⟨f4,hf4,h⟩:=bs h
    obtain ⟨cs4,H4,hc4,hF4⟩:=Zif s2.1 ((List.length pf:Nat):Int) ⟨most,per,-2,0⟩ f4 p id m fuel a2 b2 cs2 H3 (Fp.pk hF3 [0,2] rfl).now hf4
    replace hF4:=Fp.callee (rest:=[.arr a2 1 false (s2.2.1.map eI64),smp m s2.2.2]) (Fp.pk hF3 [0,2,1,3] rfl) hF4
    replace hF4:=Fp.pk (H':=H4) (L:=ZaX p fuel id m a2 b2 cs4 (f4,s2.2)) hF4 [0,2,1,3] rfl
    refine rgS ⟨[],[],H4⟩ (Z4.u 7 (ZaP (H:=H3) (id:=id) (off:=0) (cs:=ZaD p fuel a2 b2 m) (c:=[Z9 false p.Periods]) (r:=Z9 false p.Periods) (hl:=hlc3))
     (Z4.u 1 (Zad (ys:=[Z9 false p.Periods,iv i]) (h:=Zac eI64 hper)) (Z4.u 0 (Zas (sz:=1) (off:=0) (cs:=[.int .i64 per]) (r:=iv per) eI64 hper)
     (Z4.v 1 (ZdC (H:=H3) (H1:=H3) (ys:=[.ptr id 0,iv ((List.length pf:Nat):Int),.agg (ZbV ⟨most,per,-2,0⟩)]) (args:=[.ptr id 0,iv ((List.length pf:Nat):Int),.agg (ZbV ⟨most,per,-2,0⟩)]) kr kr kr hc4) Z4.f)))) kr ?_
    cases h
    exact ⟨rfl,_,b2,cs4,H4,rfl,kr,hF4⟩
   cases h
   exact sk (⟨rfl,_,b2,cs2,H3,rfl,kr,hF3⟩)
  rintro s ⟨s4,b4,cs4,H4,rfl,rfl,hF4⟩
  exact sq (rgS ⟨[(4,bv false)],[],H4⟩ Z4.f kr (tq (rt (⟨[bv false],kr,false,s4,rfl,rfl,a2,b4,cs4,hF4⟩))))
 rcases q with _|s2
 ·dsimp only at h hq
  obtain ⟨rfl,hF3⟩:=hq
  cases h
  exact bp (tp (⟨rfl,rfl,hF3⟩))
 dsimp only at h hq
 obtain ⟨rfl,a2,b2,cs2,H3,rfl,hF3⟩:=hq
 cases h
 exact br (tr (⟨[bv true],kr,true,s2,rfl,rfl,a2,b2,cs2,hF3⟩))
theorem Zgh (p:Z3)(fuel:Int):∀ N:Nat,Zlw Try.prog p fuel (Zdm N p fuel)
 | 0=>λ_ _ _ _ _ _ _ _ _ _ h=>by cases h
 | N+1=>ZhY N (Zdm N p fuel) p fuel (Zgh p fuel N)
theorem Zop (l:List Z5):((l.map dpC).map λr=>[PC.int .i64 r.1,.sl 4 false r.2])=l.map Z7:=by
 rw [List.map_map];rfl
abbrev Zmx (r:List Int×List Z5×Int) (rv:AV) (H':List HO):Prop :=
 ∃ x y b H2,rv=.tup [x,y,iv r.2.2]/\Zaw x=true/\Zaw y=true/\ZlF b H' H2/\ZdU H2 x=some (Z9 false r.1)/\ZdU H2 y=some (Z6 false r.2.1)
theorem ZeM (e:Int)(H:List HO):Zmx ([],[],e) (.tup [.p (.sl 1 true []),.p (.sl 2 true []),iv e]) H :=
 ⟨_,_,.any,H,rfl,rfl,rfl,ZmB _,rfl,rfl⟩
abbrev sH3:List HO:=[.cells [.p (.sl 1 true [])],.cells [.p (.sl 2 true [])],.cells [iv 0]]
abbrev sH5 (p:Z3) (fuel:Int):List HO:=sH3++[.lp mapL [] (.mp 3 []),.cells (ZaD p fuel (.p (.sl 1 true [])) (.p (.sl 2 true [])) 3)]
abbrev Zob:List ZaS:=[.cel 2 [iv 0],.cel 1 [.p (.sl 2 true [])],.cel 0 [.p (.sl 1 true [])]]
theorem sF5 (p:Z3)(fuel:Int):Fp [] (sH5 p fuel) [] (ZaX p fuel 4 3 (.p (.sl 1 true [])) (.p (.sl 2 true [])) [] ([],[],[])++Zob):=by
 have h0:Fp [] [] [] []:=Fp.refl (HP.any [])
 obtain ⟨_,_,rfl,rfl,h1⟩:=Fp.newCell h0 [.p (.sl 1 true [])]
 obtain ⟨_,_,rfl,rfl,h2⟩:=Fp.newCell h1 [.p (.sl 2 true [])]
 obtain ⟨_,_,rfl,rfl,h3⟩:=Fp.newCell h2 [iv 0]
 obtain ⟨_,_,rfl,rfl,h4⟩:=Fp.newMp h3 3
 obtain ⟨_,_,rfl,rfl,h5⟩:=Fp.newCell h4 (ZaD p fuel (.p (.sl 1 true [])) (.p (.sl 2 true [])) 3)
 exact Fp.pk (Fp.deepNil (Fp.nilArr h5 1 false) 4) [2,1,0,3,4,5,6] rfl
theorem raw3 {s:St}{H:List HO}{x y z:AV}(h4:get s.fr 4=.ptr 0 0)(h5:get s.fr 5=.ptr 1 0)(h6:get s.fr 6=.ptr 2 0)(g0:H[0]?=some (.cells [x]))(g1:H[1]?=some (.cells [y]))(g2:H[2]?=some (.cells [z]))
  (hx:Zcx x=true) (hy:Zcx y=true) (hz:Zcx z=true):rawL ⟨s.fr,s.bx,H⟩ d9.res=some [x,y,z]:=by
 show rawL _ [.cell 4 1 false,.cell 5 1 false,.cell 6 1 false]=_
 simp [rawL,rawV,h4,h5,h6,rd,g0,g1,g2,sub,mk]
theorem Zba (N:Nat)(a0_:Z3)(a1_:Int)(r:List Int×List Z5×Int)(h:Za8 N a0_ a1_=some r):Zbk Try.prog 9 [.agg (Z2 a0_),iv a1_] (.tup [Z9 false r.1,Z6 false r.2.1,iv r.2.2]):=by
 suffices hs:∃ rv H',ZbR Try.prog 9 [.agg (Z2 a0_),iv a1_] [] rv H'/\Zmx r rv H' by
  obtain ⟨rv,H',h1,x,y,b,H2,rfl,hx,hy,h2,h3,h4⟩:=hs
  exact ZjQ h1 rfl rfl h2 rfl (Znr h3 h4 rfl)
 unfold Za8 at h
 refine ZkZ chk9 79 (Zmx r) (λrv H' q=>?_) rfl rfl ?_
 ·obtain ⟨x,y,b,H2,rfl,hx,hy,_⟩:=q
  simp [Zaw,Zaw.noLocL,hx,hy]
 refine pq1 (rgS ⟨[(1,iv a1_),(2,.loc 2 0),(4,.ptr 0 0),(5,.ptr 1 0),(6,.ptr 2 0)],[(2,Z2 a0_)],sH3⟩ Z4.f kr (pn (pq1 (sq ?_))))
 obtain ⟨e1,he1,h⟩:=bs h
 refine rgS ⟨[(1,iv a1_),(2,.loc 2 0),(4,.ptr 0 0),(5,.ptr 1 0),(6,.ptr 2 0),(7,iv e1)],[(2,Z2 a0_)],sH3⟩ (Z4.v 1 (Zav (hc:=ZfE N a0_ e1 he1)) Z4.f) kr (tq (sq (rgS ⟨[(1,iv a1_),(2,.loc 2 0),(4,.ptr 0 0),(5,.ptr 1 0),(6,.ptr 2 0),(7,iv e1),(12,bv (e1 != 0))],[(2,Z2 a0_)],sH3⟩ Z4.f kr (tq (it h (λhc h=>?_) (λhc h=>?_))))))
 ·cases h
  exact sq (rgS ⟨[(4,.ptr 0 0),(5,.ptr 1 0),(6,.ptr 2 0)],[],[.cells [.p (.sl 1 true [])],.cells [.p (.sl 2 true [])],.cells [iv e1]]⟩ Z4.f kr (tq (rt (pr (⟨[.p (.sl 1 true []),.p (.sl 2 true []),iv e1],by kernel_rfl,ZeM e1 _⟩)))))
 refine sk (pn (pq1 (kq (sq (rgX ⟨[(1,iv a1_),(2,.loc 2 0),(4,.ptr 0 0),(5,.ptr 1 0),(6,.ptr 2 0),(19,bv ((decide (a1_<0))||(decide (a1_>1999))))],[(2,Z2 a0_)],sH3⟩ ?_ ?_)))))
 ·rcases Bool.eq_false_or_eq_true (decide (a1_<0)) with hc|hc
  ·exact (EP.u 1 (Zaa (c:=(decide (a1_<0))) (h:=hc)) (EP.f (by simp only [hc];kernel_rfl)))
  exact (EP.u 1 (Zaa (c:=(decide (a1_<0))) (h:=hc)) (EP.f (by simp only [hc];kernel_rfl)))
 refine tq (it h (λhc h=>?_) (λhc h=>?_))
 ·cases h
  exact sq (rgS ⟨[(4,.ptr 0 0),(5,.ptr 1 0),(6,.ptr 2 0)],[],[.cells [.p (.sl 1 true [])],.cells [.p (.sl 2 true [])],.cells [iv 2]]⟩ Z4.f kr (tq (rt (pr (⟨[.p (.sl 1 true []),.p (.sl 2 true []),iv 2],by kernel_rfl,ZeM 2 _⟩)))))
 refine sk (pn (pq1 (kq (sq (rgS ⟨[(1,iv a1_),(2,.loc 2 0),(4,.ptr 0 0),(5,.ptr 1 0),(6,.ptr 2 0),(23,bv (((List.length a0_.Periods:Nat):Int)==0))],[(2,Z2 a0_)],sH3⟩ (Z4.u 2 (Zad (ys:=[Z9 false a0_.Periods]) (h:=Zal eI64)) Z4.f) kr (tq (it h (λhc h=>?_) (λhc h=>?_))))))))
 ·cases h
  exact sq (rgS ⟨[(4,.ptr 0 0),(5,.ptr 1 0),(6,.ptr 2 0)],[],[.cells [.p (.sl 1 true [])],.cells [.p (.sl 2 true [])],.cells [iv 0]]⟩ Z4.f kr (tq (rt (pr (⟨[.p (.sl 1 true []),.p (.sl 2 true []),iv 0],by kernel_rfl,ZeM 0 _⟩)))))
 refine sk (pn (pk0 (⟨_,22,[.ptr 0 0,.ptr 1 0,.ptr 2 0],AK.z Z4.f,by kernel_rfl,rfl,?_⟩)))
 have hF5:=sF5 a0_ a1_
 refine sq (rgS ⟨[(4,.ptr 0 0),(5,.ptr 1 0),(6,.ptr 2 0),(8,.ptr 4 0)],[],sH5 a0_ a1_⟩ (Z4.h 2 (st_mkMap' (H:=sH3) (id:=3) (H':=sH3++[.lp mapL [] (.mp 3 [])]) 3 kr rfl rfl) (Z4.h 1 (Zfj (H:=sH3++[.lp mapL [] (.mp 3 [])]) (id:=4) (H':=sH5 a0_ a1_) (v:=.agg (ZaD a0_ a1_ (.p (.sl 1 true [])) (.p (.sl 2 true [])) 3)) kr kr kr rfl rfl) Z4.f)) kr (tq (sq (sq ?_))))
 obtain ⟨o,ho,h⟩:=bs h
 have hpre:HP (sH5 a0_ a1_) (ZaX a0_ a1_ 4 3 (.p (.sl 1 true [])) (.p (.sl 2 true [])) [] ([],[],[])):=Fp.tail (own:=[]) (Fp.pk hF5 [0,1,2,3] rfl)
 rcases Zgh a0_ a1_ N ([],[],[]) 0 o 4 3 (.p (.sl 1 true [])) (.p (.sl 2 true [])) [] (sH5 a0_ a1_) hpre ho with ⟨t,s5,a5,b5,cs5,H6,rfl,hc6,hF6⟩|⟨H6,rfl,hc6,hF6⟩
 ·dsimp only at h
  replace hF6:Fp [] H6 [] (ZaX a0_ a1_ 4 3 a5 b5 cs5 s5++Zob):=Fp.callee hF5 hF6
  have hlc:=Fp.get hF6 0 rfl
  refine Zot (rgS ⟨[(4,.ptr 0 0),(5,.ptr 1 0),(6,.ptr 2 0),(8,.ptr 4 0),(31,bv t)],[],H6⟩ (Z4.v 1 (ZdC (H:=sH5 a0_ a1_) (H1:=sH5 a0_ a1_) (ys:=[.ptr 4 0,iv 0]) (args:=[.ptr 4 0,iv 0]) kr kr kr hc6) Z4.f) kr (tq (it h (λhc h=>?_) (λhc h=>?_))))
  ·cases h
   have hfa:=ZbB (Fp.get hF6 1 rfl)
   obtain ⟨H7,hw7,hF7⟩:=Fp.setCell (k:=6) (off:=0) (vs:=[a5]) (cs':=[a5]) hF6 rfl kr
   obtain ⟨H8,hw8,hF8⟩:=Fp.setCell (k:=5) (off:=0) (vs:=[.p (.sl 2 true [])]) (cs':=[.p (.sl 2 true [])]) hF7 rfl kr
   obtain ⟨H9,hw9,hF9⟩:=Fp.setCell (k:=4) (off:=0) (vs:=[iv 0]) (cs':=[iv 0]) hF8 rfl kr
   refine sq (rgS ⟨[(4,.ptr 0 0),(5,.ptr 1 0),(6,.ptr 2 0)],[],H9⟩ (Z4.u 3 (ZaP (H:=H6) (id:=4) (off:=3) (cs:=ZaD a0_ a1_ a5 b5 3) (c:=[a5]) (r:=a5) kr kr hlc kr (by cases hfa<;>kernel_rfl) kr)
    (Z4.o (hm:=by cases hfa<;>kernel_rfl) 0 (Zbs (H:=H6) (v:=a5) (cs:=[a5]) (p:=.ptr 0 0) (by cases hfa<;>kernel_rfl) (by cases hfa<;>kernel_rfl) (by cases hfa<;>kernel_rfl) (by cases hfa<;>kernel_rfl) (by cases hfa<;>kernel_rfl) hw7)
    (Z4.o (hm:=by cases hfa<;>kernel_rfl) 0 (Zbs (H:=H7) (v:=.p (.sl 2 true [])) (cs:=[.p (.sl 2 true [])]) (p:=.ptr 1 0) kr (by cases hfa<;>kernel_rfl) (by cases hfa<;>kernel_rfl) (by cases hfa<;>kernel_rfl) kr hw8)
    (Z4.o (hm:=by cases hfa<;>kernel_rfl) 0 (Zbs (H:=H8) (v:=iv 0) (cs:=[iv 0]) (p:=.ptr 2 0) kr (by cases hfa<;>kernel_rfl) (by cases hfa<;>kernel_rfl) (by cases hfa<;>kernel_rfl) kr hw9)
    (Z4.f (h:=by cases hfa<;>kernel_rfl)))))) (by cases hfa<;>kernel_rfl) ?_)
   refine tq (rt (tr ?_))
   have hpa:HP H9 [.arr a5 1 false (s5.2.1.map eI64)]:=hp1 (Fp.get hF9 1 rfl)
   refine ⟨.returning,.returning,H9,[a5,.p (.sl 2 true []),iv 0],.ret,Zhp Zos rfl,raw3 (s:=⟨[(4,.ptr 0 0),(5,.ptr 1 0),(6,.ptr 2 0)],[],H9⟩) rfl rfl rfl (Fp.get hF9 6 rfl) (Fp.get hF9 5 rfl) (Fp.get hF9 4 rfl) (by cases hfa<;>rfl) rfl rfl,?_⟩
   exact ⟨a5,_,.any,H9,rfl,by cases hfa<;>rfl,rfl,ZmB _,(HP.pure (k:=0) eI64 hpa rfl).2,rfl⟩
  cases h
  refine sk (tq (kq (sq ?_)))
  have hfb:=Zkf (Fp.get hF6 2 rfl)
  obtain ⟨H7,hw7,hF7⟩:=Fp.setCell (k:=6) (off:=0) (vs:=[.p (.sl 1 true [])]) (cs':=[.p (.sl 1 true [])]) hF6 rfl kr
  obtain ⟨H8,hw8,hF8⟩:=Fp.setCell (k:=5) (off:=0) (vs:=[b5]) (cs':=[b5]) hF7 rfl kr
  obtain ⟨H9,hw9,hF9⟩:=Fp.setCell (k:=4) (off:=0) (vs:=[iv 4]) (cs':=[iv 4]) hF8 rfl kr
  refine rqS (hs:=kr) ⟨[(4,.ptr 0 0),(5,.ptr 1 0),(6,.ptr 2 0)],[],H9⟩ (Z4.u 3 (Zlc (H:=H6) (id:=4) (off:=4) (cs:=ZaD a0_ a1_ a5 b5 3) (c:=[b5]) (r:=b5) (zs:=[.t 4]) (vs:=[.ptr 0 0]) kr kr hlc kr (by cases hfb<;>kernel_rfl) kr kr rfl)
   (Z4.o (hm:=by cases hfb<;>kernel_rfl) 0 (Zlb (Zbs (H:=H6) (v:=.p (.sl 1 true [])) (cs:=[.p (.sl 1 true [])]) (p:=.ptr 0 0) kr (by cases hfb<;>kernel_rfl) (by cases hfb<;>kernel_rfl) (by cases hfb<;>kernel_rfl) kr hw7) (by cases hfb<;>kernel_rfl))
   (Z4.o (hm:=by cases hfb<;>kernel_rfl) 0 (Zlb (Zbs (H:=H7) (v:=b5) (cs:=[b5]) (p:=.ptr 1 0) (by cases hfb<;>kernel_rfl) (by cases hfb<;>kernel_rfl) (by cases hfb<;>kernel_rfl) (by cases hfb<;>kernel_rfl) (by cases hfb<;>kernel_rfl) hw8) (by cases hfb<;>kernel_rfl))
   (Z4.o (hm:=by cases hfb<;>kernel_rfl) 0 (Zlb (Zbs (H:=H8) (v:=iv 4) (cs:=[iv 4]) (p:=.ptr 2 0) kr (by cases hfb<;>kernel_rfl) (by cases hfb<;>kernel_rfl) (by cases hfb<;>kernel_rfl) kr hw9) (by cases hfb<;>kernel_rfl))
   (Z4.f (h:=by cases hfb<;>kernel_rfl)))))) (by cases hfb<;>kernel_rfl) ?_
  refine tq (rt ?_)
  obtain ⟨a2,a0,a1⟩:=Fp.deepSeal (k:=2) hF9 rfl
  have hpb:HP a2 [.arr b5 2 false (s5.1.map Z7)]:=by
   have:=Fp.get a1 2 rfl
   rw [← Zop]
   exact hp1 this
  refine ⟨.returning,.returning,H9,[.p (.sl 1 true []),b5,iv 4],.ret,Zhp Zos rfl,raw3 (s:=⟨[(4,.ptr 0 0),(5,.ptr 1 0),(6,.ptr 2 0)],[],H9⟩) rfl rfl rfl (Fp.get hF9 6 rfl) (Fp.get hF9 5 rfl) (Fp.get hF9 4 rfl) rfl (by cases hfb<;>rfl) rfl,?_⟩
  exact ⟨_,b5,b5,a2,rfl,rfl,by cases hfb<;>rfl,a0,rfl,(HP.pure (k:=0) Z7 hpb rfl).2⟩
 dsimp only at h
 cases h
 replace hF6:Fp [] H6 [] ([]++Zob):=Fp.callee hF5 hF6
 obtain ⟨H7,hw7,hF7⟩:=Fp.setCell (k:=2) (off:=0) (vs:=[.p (.sl 1 true [])]) (cs':=[.p (.sl 1 true [])]) hF6 rfl kr
 obtain ⟨H8,hw8,hF8⟩:=Fp.setCell (k:=1) (off:=0) (vs:=[.p (.sl 2 true [])]) (cs':=[.p (.sl 2 true [])]) hF7 rfl kr
 obtain ⟨H9,hw9,hF9⟩:=Fp.setCell (k:=0) (off:=0) (vs:=[iv 8]) (cs':=[iv 8]) hF8 rfl kr
 refine Zn1 1 _ rfl (AK.z Z4.f) ⟨trivial,_,_,_,[.ptr 4 0,iv 0],sH5 a0_ a1_,rfl,Pass.frz kr,hc6⟩ [4,5,6] (tp (tp (⟨_,_,H9,[.p (.sl 1 true []),.p (.sl 2 true []),iv 8],.panic,ZlN (s':=⟨[(0,.ptr 0 0),(1,.ptr 1 0),(2,.ptr 2 0)],[],H9⟩) Zos rfl ⟨⟨[(0,.ptr 0 0),(1,.ptr 1 0),(2,.ptr 2 0)],[],H7⟩,?_,⟨[(0,.ptr 0 0),(1,.ptr 1 0),(2,.ptr 2 0)],[],H8⟩,?_,_,?_,rfl⟩ rfl,raw3 kr kr kr (Fp.get hF9 2 rfl) (Fp.get hF9 1 rfl) (Fp.get hF9 0 rfl) rfl rfl rfl,ZeM 8 _⟩)))
 ·exact Zbs (P:=Try.prog) (H:=H6) (v:=.p (.sl 1 true [])) (cs:=[.p (.sl 1 true [])]) (p:=.ptr 0 0) kr kr kr kr kr hw7
 ·exact Zbs (P:=Try.prog) (H:=H7) (v:=.p (.sl 2 true [])) (cs:=[.p (.sl 2 true [])]) (p:=.ptr 1 0) kr kr kr kr kr hw8
 exact Zbs (P:=Try.prog) (H:=H8) (v:=iv 8) (cs:=[iv 8]) (p:=.ptr 2 0) kr kr kr kr kr hw9
theorem ZbY (N:Nat)(a0_:Z3)(a1_:Int)(r:(List Int)×(List Z5)×Int)(h:ZbA N a0_ a1_=some r):Zbk Try.prog 10 [.agg (Z2 a0_),iv a1_] (.tup [Z9 false r.1,Z6 false r.2.1,iv r.2.2]):=by
 unfold ZbA at h
 have hH  := hp0
 refine ZaG Zvf rfl rfl (Zao _ _ _ ?_) rfl
 refine sq (rg Z4.f (tq (sq (sq ?_))))
 obtain ⟨r1,hr1,h⟩:=bs h
 refine rg (Z4.v 1 (Zav (hc:=Zh4 N a0_ r1 hr1)) Z4.f) (tq (it h (λhc2 h=>?_) (λhc2 h=>?_)))
 ·refine sq (rg Z4.f (tq (rt (tr ?_))))
  cases h
  exact Zaz kr
 refine sk (tq (kq (sq (sq (rgX ⟨[(1,iv a1_),(2,.loc 2 0),(16,bv ((decide (a1_<0))||(decide (a1_≥2000))))],[(2,(Z2 a0_))],[]⟩ ?_ ?_)))))
 ·rcases Bool.eq_false_or_eq_true (decide (a1_<0)) with hc3|hc4
  ·exact (EP.u 1 (Zaa (c:=(decide (a1_<0))) (h:=hc3)) (EP.f (by simp only [hc3];kernel_rfl)))
  exact (EP.u 1 (Zaa (c:=(decide (a1_<0))) (h:=hc4)) (EP.f (by simp only [hc4];kernel_rfl)))
 refine tq (it h (λhc5 h=>?_) (λhc5 h=>?_))
 ·refine sq (rg Z4.f (tq (rt (tr ?_))))
  cases h
  exact Zaz kr
 refine sk (tq (kq (sq (sq (rg (Z4.u 2 (Zad (ys:=[Z9 false a0_.Periods]) (h:=Zal eI64)) Z4.f) (tq (it h (λhc6 h=>?_) (λhc6 h=>?_))))))))
 ·refine sq (rg Z4.f (tq (rt (tr ?_))))
  cases h
  exact Zaz kr
 refine sk (tq (kq (sq ?_)))
 obtain ⟨r7,hr7,h⟩:=bs h
 obtain ⟨a8,a9,a0,hvr7,hpr7⟩:=Ze7 N a0_ (Zaq.mk ([]) ([]) 0) ([]) a1_   (.p (.sl 2 true [])) (.p (.sl 1 true [])) [] (HP.now (HP.pick (HP.nilArr (HP.nilArr hH 1 false) 2 false) [0,1] rfl)) r7 hr7
 replace hH:HP _ [.arr a8 2 false (List.map Z7 r7.Proof),.arr a9 1 false (List.map eI64 r7.Offsets)]:=HP.callee (fp:=[.arr (.p (.sl 2 true [])) 2 false (List.map Z7 []),.arr (.p (.sl 1 true [])) 1 false (List.map eI64 [])]) (rest:=[]) (HP.pick (HP.nilArr (HP.nilArr hH 1 false) 2 false) [0,1] rfl) hpr7
 have hfa8:=ZbB (HP.get hH 0 rfl)
 have hfa9:=ZbB (HP.get hH 1 rfl)
 refine rgS ⟨[(7,.loc 7 0)],[(7,[a8,a9,iv r7.What])],a0⟩ (Z4.v 3 (Zld (H:=[]) (ys:=[.agg (Z2 a0_),.agg [Z6 true [],Z9 true [],iv 0],Z9 true [],iv a1_]) kr kr [[],[true,true,false],[],[]] (Zcw (ZdV rfl) (Zcw (ZjS (Zdi (ZfI rfl) (Zdi (ZfI rfl) (Zdi (ZjV rfl) passC_nil')))) (Zcw (ZdV rfl) (Zcw (ZdV rfl) passL_nil')))) hvr7) (Z4.f (h:=(by cases hfa8<;>cases hfa9<;>kernel_rfl)))) (by cases hfa8<;>cases hfa9<;>kernel_rfl) (tq (sq (sq (rgS ⟨[(7,.loc 7 0),(26,iv r7.What)],[(7,[a8,a9,iv r7.What])],a0⟩ (Z4.f (h:=(by cases hfa8<;>cases hfa9<;>kernel_rfl))) (by cases hfa8<;>cases hfa9<;>kernel_rfl) (tq (bk (sq (rgS ⟨[(7,.loc 7 0),(26,iv r7.What),(27,bv (r7.What==1))],[(7,[a8,a9,iv r7.What])],a0⟩ Z4.f (by cases hfa8<;>cases hfa9<;>kernel_rfl) (tq (it h (λa2 h=>?_) (λa2 h=>?_)))))))))))
 ·refine sq (rgS ⟨[(4,a9),(5,Z6 true []),(6,iv 0)],[],a0⟩ (Z4.f (h:=(by cases hfa8<;>cases hfa9<;>kernel_rfl))) (by cases hfa8<;>cases hfa9<;>kernel_rfl) ?_)
  replace hH:HP _ [.arr a9 1 false (List.map eI64 r7.Offsets)]:=HP.pick hH [1] rfl
  refine tq (rt (br (tr ?_)))
  obtain rfl:=Zae h
  exact Zhj (H:=a0) (ys:=[a9,Z6 true [],iv 0]) (xs:=[.p (.sl 1 false (List.map eI64 r7.Offsets)),Z6 false [],iv 0]) (by cases hfa9<;>kernel_rfl) (by cases hfa9<;>kernel_rfl) (ZbN (HP.pure (k:=0) (frz:=false) eI64 hH rfl).2 (ZbN rfl (ZbN rfl ZdT))) kr
 refine sq (rgS ⟨[(7,.loc 7 0),(31,bv (r7.What==2))],[(7,[a8,a9,iv r7.What])],a0⟩ Z4.f (by cases hfa8<;>cases hfa9<;>kernel_rfl) (tq (it h (λa1 h=>?_) (λa1 h=>?_))))
 ·refine sq (rgS ⟨[(4,Z9 true []),(5,Z6 true []),(6,iv 8)],[],a0⟩ Z4.f kr ?_)
  replace hH:HP _ []:=HP.pick hH [] rfl
  refine tq (rt (br (tr ?_)))
  cases h
  exact Zaz kr
 refine sk (bn (tq (kq (sq (rqS ⟨[(4,Z9 true []),(5,a8),(6,iv 4)],[],a0⟩ (Z4.f (h:=(by cases hfa8<;>cases hfa9<;>kernel_rfl))) (by cases hfa8<;>cases hfa9<;>kernel_rfl) ?_)))))
 replace hH:HP _ [.arr a8 2 false (List.map Z7 r7.Proof)]:=HP.pick hH [0] rfl
 refine tq (rt ?_)
 obtain rfl:=Zae h
 exact Zhj (H:=a0) (ys:=[Z9 true [],a8,iv 4]) (xs:=[Z9 false [],.p (.sl 2 false (List.map Z7 r7.Proof)),iv 4]) (by cases hfa8<;>kernel_rfl) (by cases hfa8<;>kernel_rfl) (ZbN rfl (ZbN (HP.pure (k:=0) (frz:=false) Z7 hH rfl).2 (ZbN rfl ZdT))) kr
theorem Zc0 (N:Nat)(a0_:Z3)(a1_:Int)(a2_:(List Int))(r:Bool)(h:Zea N a0_ a1_ a2_=some r):Zbk Try.prog 14 [.agg (Z2 a0_),iv a1_,Z9 false a2_] (bv r):=by
 unfold Zea at h
 have hH  := hp0
 refine ZaG Zvb rfl rfl (Zao _ _ _ ?_) rfl
 refine sq (rg Z4.f (tq (sq ?_)))
 obtain ⟨r1,hr1,h⟩:=bs h
 refine rg (Z4.v 2 (Zav (hc:=Zba N a0_ a1_ r1 hr1)) Z4.f) (tq (sq ?_))
 obtain ⟨j7,hj,h⟩:=bs h
 refine rgR (λs=>s=⟨[(6,bv j7)],[],[]⟩) ?_ ?_
 ·clear h
  rcases Zat hj with ⟨hc2,hj⟩|⟨hc6,hj⟩
  ·refine (EP.u 1 (Zaa (c:=(r1.2.2==0)) (h:=hc2)) (EP.u 2 (Zad (ys:=[Z6 false r1.2.1]) (h:=Zal Z7)) ?_))
   rcases Zat hj with ⟨hc3,hj⟩|⟨hc5,hj⟩
   ·refine (EP.u 0 (Zaa (c:=(((List.length r1.2.1:Nat):Int)==0)) (h:=hc3)) ?_)
    obtain ⟨r4,hr4,hj⟩:=bs hj
    obtain rfl:=Zae hj
    exact (EP.v 4 (Zav (hc:=ZaF N r1.1 a2_ r4 hr4)) (EP.f kr))
   obtain rfl:=Zae hj
   exact (EP.u 0 (Zaa (c:=(((List.length r1.2.1:Nat):Int)==0)) (h:=hc5)) (EP.f kr))
  obtain rfl:=Zae hj
  exact (EP.u 1 (Zaa (c:=(r1.2.2==0)) (h:=hc6)) (EP.f kr))
 clear hj
 rintro s hR
 obtain rfl:=hR
 refine tq (rt ?_)
 cases h
 exact Zaz kr
theorem Zcr (N:Nat)(a0_:Z3)(a1_:Int)(a2_:Int)(r:Bool)(h:Zdt N a0_ a1_ a2_=some r):Zbk Try.prog 15 [.agg (Z2 a0_),iv a1_,iv a2_] (bv r):=by
 unfold Zdt at h
 have hH  := hp0
 refine ZaG Zva rfl rfl (Zao _ _ _ ?_) rfl
 refine sq (rg Z4.f (tq (sq ?_)))
 obtain ⟨r1,hr1,h⟩:=bs h
 refine rg (Z4.v 2 (Zav (hc:=Zba N a0_ a1_ r1 hr1)) Z4.f) (tq (sq (rgX ⟨[(6,bv ((r1.2.2==a2_)&&((((List.length r1.1:Nat):Int)==0)&&((decide (((List.length r1.2.1:Nat):Int)>0))==(r1.2.2==4)))))],[],[]⟩ ?_ ?_)))
 ·rcases Bool.eq_false_or_eq_true (r1.2.2==a2_) with hc2|hc5
  ·refine (EP.u 2 (Zaa (c:=(r1.2.2==a2_)) (h:=hc2)) (EP.u 2 (Zad (ys:=[Z9 false r1.1]) (h:=Zal eI64)) ?_))
   rcases Bool.eq_false_or_eq_true (((List.length r1.1:Nat):Int)==0) with hc3|hc4
   ·exact (EP.u 0 (Zaa (c:=(((List.length r1.1:Nat):Int)==0)) (h:=hc3)) (EP.u 3 (Zad (ys:=[Z6 false r1.2.1]) (h:=Zal Z7)) (EP.f (by simp only [hc2,hc3];kernel_rfl))))
   exact (EP.u 0 (Zaa (c:=(((List.length r1.1:Nat):Int)==0)) (h:=hc4)) (EP.f (by simp only [hc2,hc4];kernel_rfl)))
  exact (EP.u 2 (Zaa (c:=(r1.2.2==a2_)) (h:=hc5)) (EP.f (by simp only [hc5];kernel_rfl)))
 refine tq (rt ?_)
 cases h
 exact Zaz kr
theorem Zib (N:Nat)(r:Bool)(h:Zds N=some r):Zbk Try.prog 13 [] (bv r):=by
 unfold Zds at h
 have hH  := hp0
 refine ZaG Zvc rfl rfl (Zao _ _ _ ?_) rfl
 refine sq (rg Z4.f (tq (sq ?_)))
 obtain ⟨r1,hr1,h⟩:=bs h
 obtain ⟨r2,hr2,h⟩:=bs h
 refine rg (Z4.v 0 (Zav (hc:=Zfe N 2 1 1 r1 hr1)) (Z4.v 0 (Zav (hc:=Zfe N 2 2 1 r2 hr2)) Z4.f)) (tq (sq ?_))
 obtain ⟨r3,hr3,h⟩:=bs h
 refine rg (Z4.v 1 (Zav (hc:=Zba N r2 2 r3 hr3)) Z4.f) (tq (sq (rg Z4.f (tq (sq ?_)))))
 obtain ⟨af,hj,h⟩:=bs h
 refine rgR (λs=>s=⟨[(0,bv af)],[],[]⟩) ?_ ?_
 ·clear h
  obtain ⟨r4,hr4,hj⟩:=bs hj
  rcases Zat hj with ⟨hc5,hj⟩|⟨a3,hj⟩
  ·refine (EP.h 2 (ZcY kr (Zc0 N r1 9 ([0,2,3]) r4 hr4) hc5) ?_)
   obtain ⟨r6,hr6,hj⟩:=bs hj
   rcases Zat hj with ⟨hc7,hj⟩|⟨a4,hj⟩
   ·refine (EP.h 2 (ZcY kr (Zcr N r1 1 8 r6 hr6) hc7) ?_)
    obtain ⟨r8,hr8,hj⟩:=bs hj
    rcases Zat hj with ⟨hc9,hj⟩|⟨a5,hj⟩
    ·refine (EP.h 4 (ZcY kr (Zc0 N r1 2 ([0,2,3]) r8 hr8) hc9) ?_)
     rcases Zat hj with ⟨ab,hj⟩|⟨a6,hj⟩
     ·refine (EP.u 3 (Zaa (c:=(r3.2.2==4)) (h:=ab)) ?_)
      obtain ⟨ad,a1,hj⟩:=bs hj
      rcases Zat hj with ⟨aa,hj⟩|⟨a7,hj⟩
      ·refine (EP.h 4 (ZcY kr (Zbu N r3.2.1 ([(Z5.mk 0 ([(Zag.mk 0 1 (-1) 1),(Zag.mk 1 4 (-2) 0)])),(Z5.mk 1 ([(Zag.mk 0 2 0 0),(Zag.mk 2 3 (-1) 2),(Zag.mk 3 4 0 0)])),(Z5.mk 2 ([(Zag.mk 0 2 0 0),(Zag.mk 2 4 1 0)]))]) ad a1) aa) ?_)
       obtain ⟨ac,a0,hj⟩:=bs hj
       rcases Zat hj with ⟨a9,hj⟩|⟨a8,hj⟩
       ·refine (EP.h 3 (ZcY kr (Zcr N r2 1 8 ac a0) a9) ?_)
        obtain ⟨ae,a2,hj⟩:=bs hj
        obtain rfl:=Zae hj
        exact (EP.v 3 (Zav (hc:=Zcr N r2 2000 2 ae a2)) (EP.f kr))
       obtain rfl:=Zae hj
       exact (EP.h 3 (ZcY kr (Zcr N r2 1 8 ac a0) a8) (EP.f kr))
      obtain rfl:=Zae hj
      exact (EP.h 4 (ZcY kr (Zbu N r3.2.1 ([(Z5.mk 0 ([(Zag.mk 0 1 (-1) 1),(Zag.mk 1 4 (-2) 0)])),(Z5.mk 1 ([(Zag.mk 0 2 0 0),(Zag.mk 2 3 (-1) 2),(Zag.mk 3 4 0 0)])),(Z5.mk 2 ([(Zag.mk 0 2 0 0),(Zag.mk 2 4 1 0)]))]) ad a1) a7) (EP.f kr))
     obtain rfl:=Zae hj
     exact (EP.u 3 (Zaa (c:=(r3.2.2==4)) (h:=a6)) (EP.f kr))
    obtain rfl:=Zae hj
    exact (EP.h 4 (ZcY kr (Zc0 N r1 2 ([0,2,3]) r8 hr8) a5) (EP.f kr))
   obtain rfl:=Zae hj
   exact (EP.h 2 (ZcY kr (Zcr N r1 1 8 r6 hr6) a4) (EP.f kr))
  obtain rfl:=Zae hj
  exact (EP.h 2 (ZcY kr (Zc0 N r1 9 ([0,2,3]) r4 hr4) a3) (EP.f kr))
 clear hj
 rintro s hR
 obtain rfl:=hR
 refine tq (rt ?_)
 cases h
 exact Zaz kr
end Go.Sh

