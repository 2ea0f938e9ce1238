/- Part of the proof. -/
import Derived.Test.YthhhjjjbpcaadaaSolveKnownOk1
set_option linter.all false
namespace Go.Sh
open Go Go.Eng Go.Proofs
set_option maxRecDepth 100000
set_option maxHeartbeats 4000000
attribute [local irreducible] vc ev ZbF opsD opsF ZdM upd updH updO
abbrev Zaj (p:ZT) (fuel:Int) (a b:AV) (m:Nat):List AV:=[Zad false p.Periods,Zaa false p.Uses,iv fuel,a,b,.map m]
abbrev smp (m:Nat) (known:slvK):Zaw:=mpT m 3 (encE Zbi bv known)
theorem Zea (N:Nat)(p:ZT)(known:slvK)(i x j y:Int)(r:Bool×slvK)(id m:Nat)(fuel:Int)(a b:AV)(H:List HO)(hH:HP H [.cel id (Zaj p fuel a b m),smp m known])(h:ZdC N p known i x j y=some r) :
  ∃ H',Zbq Try.prog 45 [.ptr id 0,iv i,iv x,iv j,iv y] H (bv r.1) H'/\Fp H H' [.cel id (Zaj p fuel a b m),smp m known] [.cel id (Zaj p fuel a b m),smp m r.2]:=by
 unfold ZdC at h
 replace hH:=Fp.refl hH
 refine ZdR Zom (λH'=>Fp H H' [.cel id (Zaj p fuel a b m),smp m known] [.cel id (Zaj p fuel a b m),smp m r.2]) rfl rfl rfl ?_
 have hlc:=Fp.get hH 0 rfl
 refine sq (rg ZS.f (tq (sq ?_)))
 obtain ⟨e1,he1,h⟩:=bs h
 refine rgS ⟨[(0,.ptr id 0),(1,iv i),(2,iv x),(3,iv j),(4,iv y),(11,iv e1)],[],H⟩ (ZS.u 4 (Zav (H:=H) (id:=id) (off:=0) (cs:=Zaj p fuel a b m) (c:=[Zad false p.Periods]) (r:=Zad false p.Periods) (hl:=hlc)) (ZS.u 1 (Z7 (ys:=[Zad false p.Periods,iv i]) (h:=Z5 eI64 he1)) (ZS.u 0 (Zax (sz:=1) (off:=0) (cs:=[.int .i64 e1]) (r:=iv e1) eI64 he1) ZS.f))) kr (tq (sq ?_))
 obtain ⟨m1,hm1,h⟩:=bs h
 obtain ⟨m2,hm2,h⟩:=bs h
 refine rgS ⟨[(0,.ptr id 0),(12,.loc 12 0)],[(12,[iv i,iv m2,iv j])],H⟩ (ZS.u 5 (Z7 (ys:=[iv (w64 (x-y)),iv e1]) (h:=Zcj hm1)) (ZS.u 3 (Z7 (ys:=[iv (w64 (m1+e1)),iv e1]) (h:=Zcj hm2)) ZS.f)) kr (tq (sq ?_))
 have hlm:=Fp.get hH 1 rfl
 refine rqS ⟨[(0,.ptr id 0),(12,.loc 12 0),(13,bv (Zib known (ZaH.mk i m2 j) false)),(14,bv (mhas known (ZaH.mk i m2 j)))],[(12,[iv i,iv m2,iv j])],H⟩ (ZS.u 3 (Za6 (Zav (H:=H) (id:=id) (off:=5) (cs:=Zaj p fuel a b m) (c:=[.map m]) (r:=.map m) (hl:=hlc)))
  (ZS.u 1 (ZiF (H:=H) (id:=m) (kn:=3) (ke:=Zbi) (ve:=bv) (l:=known) (x:=(ZaH.mk i m2 j)) (z:=false) (r:=.tup [bv (Zib known (ZaH.mk i m2 j) false),bv (mhas known (ZaH.mk i m2 j))]) kr kr hlm kr kr (λ_=>rfl)) ZS.f)) kr ?_
 refine tq (ZfQ [13] (λs=>∃ H1,s=⟨[(13,bv r.1)],[],H1⟩/\Fp H H1 [.cel id (Zaj p fuel a b m),smp m known] [.cel id (Zaj p fuel a b m),smp m r.2]) ?_ ?_)
 ·refine sq (rgS ⟨[(0,.ptr id 0),(12,.loc 12 0),(13,bv (Zib known (ZaH.mk i m2 j) false)),(45,bv (!(mhas known (ZaH.mk i m2 j))))],[(12,[iv i,iv m2,iv j])],H⟩ ZS.f kr (tq (it h (λhc h=>?_) (λhc h=>?_))))
  ·obtain ⟨r1,hr1,h⟩:=bs h
   cases h
   refine sq (rqS ⟨[(0,.ptr id 0),(12,.loc 12 0),(13,bv r1.1)],[(12,[iv i,iv m2,iv j])],H⟩ (ZS.u 3 (Za6 (Zav (H:=H) (id:=id) (off:=0) (cs:=Zaj p fuel a b m) (c:=ZR p) (r:=.agg (ZR p)) (hl:=hlc))) (ZS.v 6 (ZaE (hc:=Zeu N p i m2 j 0 r1 hr1)) ZS.f)) kr (tq ?_))
   obtain ⟨H2,hH2,hF2⟩:=Fp.setMp (k:=1) hH rfl (encE Zbi bv (Zhb known (ZaH.mk i m2 j) r1.1))
   refine rqS ⟨[(13,bv r1.1)],[],H2⟩ (ZS.u 3 (Za6 (Zav (H:=H) (id:=id) (off:=5) (cs:=Zaj p fuel a b m) (c:=[.map m]) (r:=.map m) (hl:=hlc)))
    (ZS.o 2 (ZjY (H:=H) (id:=m) (kn:=3) (ke:=Zbi) (ve:=bv) (l:=known) (x:=(ZaH.mk i m2 j)) (v:=r1.1) (y:=bv r1.1) kr kr hlm kr kr hH2) ZS.f)) kr ?_
   exact ⟨rfl,H2,kr,hF2⟩
  cases h
  exact sk (⟨rfl,H,kr,hH⟩)
 rintro s ⟨H1,rfl,hF1⟩
 exact sq (rgS ⟨[(10,bv r.1)],[],H1⟩ ZS.f kr (tq (rt (⟨[bv r.1],kr,rfl,hF1⟩))))
def dpC (c:ZY):Int×List (List PC):=(c.Stream,c.Arms.map Zao)
theorem ZgQ {H:List HO}{a:AV}{sz:Nat}{u:Bool}{cs:List PC}{f:List ZY}(h:Lies H (.deep a sz u cs (f.map dpC))):Zae .len [a]=some (iv ((List.length f:Nat):Int)):=by
 have:=ZjK h
 rwa [Zy] at this
theorem ZgW {α:Type}{bytes:Nat}{l m r:List α}(h:appI bytes l m=some r):r=l++m/\(l.length+m.length)*bytes<=140737488355328/\l.length+m.length<=140737488355328:=by
 unfold appI at h
 split at h
 ·rename_i hc
  cases h
  exact ⟨rfl,hc.1,hc.2⟩
 cases h
theorem Zf9 {α β:Type}(g:α->β){l:List α}{i:Int}{e:α}(h:idx l i=some e):idx (l.map g) i=some (g e):=by
 unfold idx at h ⊢
 split at h
 ·rename_i h0
  rw [ZP h0,Zr,h]
  rfl
 cases h
theorem hp1 {H:List HO}{i:Zaw}(h:Lies H i):HP H [i]:=HP.cons (HP.any H) h (λ_ _ j hj=>by cases hj)
theorem ZfT (N:Nat)(p:ZT)(given:List Int)(known:slvK)(i x:Int)(r:Int×slvK)(id m:Nat)(fuel:Int)(a b:AV)(H:List HO)(hH:HP H [.cel id (Zaj p fuel a b m),.arr a 1 false (given.map eI64),smp m known])(h:ZdW N p given known i x=some r) :
  ∃ H',Zbq Try.prog 32 [.ptr id 0,iv i,iv x] H (iv r.1) H'/\Fp H H' [.cel id (Zaj p fuel a b m),.arr a 1 false (given.map eI64),smp m known] [.cel id (Zaj p fuel a b m),.arr a 1 false (given.map eI64),smp m r.2]:=by
 unfold ZdW at h
 replace hH:=Fp.refl hH
 have hfa:=Zev (Fp.get hH 1 rfl)
 refine ZdR Zos (λH'=>Fp H H' [.cel id (Zaj p fuel a b m),.arr a 1 false (given.map eI64),smp m known] [.cel id (Zaj p fuel a b m),.arr a 1 false (given.map eI64),smp m r.2]) rfl rfl rfl (sq (rgS ⟨[(0,.ptr id 0),(1,iv i),(2,iv x)],[],H⟩ ZS.f kr (tq (sq (sq (rgS ⟨[(0,.ptr id 0),(1,iv i),(2,iv x),(8,iv i),(9,iv 0)],[],H⟩ ZS.f kr (tq (bk ?_))))))))
 obtain ⟨o1,ho1,h⟩:=bs h
 refine Zbv ((Za7 (λ(y:Int×slvK) s=>∃ H2,s=⟨[(0,.ptr id 0),(1,iv i),(2,iv x),(8,iv i),(9,iv y.1)],[],H2⟩/\Fp H H2 [.cel id (Zaj p fuel a b m),.arr a 1 false (given.map eI64),smp m known] [.cel id (Zaj p fuel a b m),.arr a 1 false (given.map eI64),smp m y.2])
  (λy:Int×slvK=>ZbS N p given i x y.1 y.2)
  (λ(q:slvK⊕(Int×slvK)) e s=>match q with
   | .inl k=>e=.exit 0/\∃ H2,s=⟨[(0,.ptr id 0),(1,iv i),(2,iv x)],[],H2⟩/\Fp H H2 [.cel id (Zaj p fuel a b m),.arr a 1 false (given.map eI64),smp m known] [.cel id (Zaj p fuel a b m),.arr a 1 false (given.map eI64),smp m k]
   | .inr q=>e=.ret/\∃ H2,s=⟨[(6,iv q.1)],[],H2⟩/\Fp H H2 [.cel id (Zaj p fuel a b m),.arr a 1 false (given.map eI64),smp m known] [.cel id (Zaj p fuel a b m),.arr a 1 false (given.map eI64),smp m q.2]) ?_ N _ o1 _ ho1 ⟨H,by show _=_;kernel_rfl,hH⟩).mono ?_)
 ·clear h ho1 hH
  rintro ⟨j,k1⟩ o s h hR
  obtain ⟨H1,rfl,hF1⟩:=hR
  replace h:ZbS N p given i x j k1=some o:=h
  unfold ZbS at h
  refine sq (rgS ⟨[(0,.ptr id 0),(1,iv i),(2,iv x),(8,iv i),(9,iv j),(10,bv (decide (j<i)))],[],H1⟩ ZS.f kr (tq (sq (it h (λhc h=>?_) (λhc h=>?_)))))
  ·refine sk (tq (kq (sq (bk (sq (rgS ⟨[(0,.ptr id 0),(1,iv i),(2,iv x),(7,iv j),(8,iv i),(9,iv j)],[],H1⟩ ZS.f kr (tq (sq ?_))))))))
   obtain ⟨y,hy,h⟩:=bs h
   obtain ⟨r1,hr1,h⟩:=bs h
   obtain ⟨id2,ver2,_,hid2f,hid2,hid2a,hid2v⟩:=Fp.elem (k:=1) (a:=a) (sz:=1) (frz:=false) eI64 hF1 rfl hy
   have hlc:=Fp.get hF1 0 rfl
   obtain ⟨H2,hc2,hF2⟩:=Zea N p k1 i x j y r1 id m fuel a b H1 (Fp.pk hF1 [0,2] rfl).now hr1
   replace hF2:=Fp.callee (rest:=[.arr a 1 false (given.map eI64)]) (Fp.pk hF1 [0,2,1] rfl) hF2
   replace hF2:=Fp.pk (H':=H2) (L:=[.cel id (Zaj p fuel a b m),.arr a 1 false (given.map eI64),smp m r1.2]) hF2 [0,2,1] rfl
   refine rgS ⟨[(0,.ptr id 0),(1,iv i),(2,iv x),(7,iv j),(8,iv i),(9,iv j),(23,bv r1.1)],[],H2⟩ (ZS.u 7 (Zav (H:=H1) (id:=id) (off:=3) (cs:=Zaj p fuel a b m) (c:=[a]) (r:=a) kr kr hlc kr (by cases hfa<;>kernel_rfl) kr)
    (ZS.u (hm:=by cases hfa<;>kernel_rfl) 1 (Z7 (ys:=[a,iv j]) (by cases hfa<;>kernel_rfl) (hid2v .i64))
    (ZS.u (hm:=by cases hfa<;>kernel_rfl) 0 (ZhB (H:=H1) (off:=0) (cs:=[.int .i64 y]) (r:=iv y) eI64 hy hid2 (by cases hfa<;>kernel_rfl) (by cases hfa<;>kernel_rfl) kr kr)
    (ZS.v (hm:=by cases hfa<;>kernel_rfl) 0 (Zca (H:=H1) (H1:=H1) (ys:=[.ptr id 0,iv i,iv x,iv j,iv y]) (args:=[.ptr id 0,iv i,iv x,iv j,iv y]) (by cases hfa<;>kernel_rfl) (by cases hfa<;>kernel_rfl) kr hc2) (ZS.f (h:=by cases hfa<;>kernel_rfl)))))) (by cases hfa<;>kernel_rfl) ?_
   refine tq (it h (λhc3 h=>?_) (λhc3 h=>?_))
   ·cases h
    exact sq (rgS ⟨[(6,iv j)],[],H2⟩ ZS.f kr (tq (rt (br (tr (⟨_,rfl,rfl,H2,rfl,hF2⟩))))))
   refine sk (bn (tq (kq (rgS ⟨[(0,.ptr id 0),(1,iv i),(2,iv x),(8,iv i),(9,iv (w64 (j+1)))],[],H2⟩ ZS.f kr ?_))))
   cases h
   exact ⟨_,rfl,H2,rfl,hF2⟩
  refine kq (xq (tx ?_))
  cases h
  exact ⟨_,rfl,rfl,H1,kr,hF1⟩
 rintro e s hq
 rcases o1 with k|q
 ·dsimp only at h hq
  obtain ⟨rfl,H1,rfl,hF1⟩:=hq
  refine bx (tq (sq ?_))
  obtain ⟨r1,hr1,h⟩:=bs h
  obtain ⟨H2,hc2,hF2⟩:=Zea N p k i x i x r1 id m fuel a b H1 (Fp.pk hF1 [0,2] rfl).now hr1
  replace hF2:=Fp.callee (rest:=[.arr a 1 false (given.map eI64)]) (Fp.pk hF1 [0,2,1] rfl) hF2
  replace hF2:=Fp.pk (H':=H2) (L:=[.cel id (Zaj p fuel a b m),.arr a 1 false (given.map eI64),smp m r1.2]) hF2 [0,2,1] rfl
  refine sq (rgS ⟨[(1,iv i),(31,bv r1.1)],[],H2⟩ (ZS.v 5 (Zca (H:=H1) (H1:=H1) (ys:=[.ptr id 0,iv i,iv x,iv i,iv x]) (args:=[.ptr id 0,iv i,iv x,iv i,iv x]) kr kr kr hc2) ZS.f) kr (tq (it h (λhc3 h=>?_) (λhc3 h=>?_))))
  ·cases h
   exact sq (rgS ⟨[(6,iv i)],[],H2⟩ ZS.f kr (tq (rt (tr (⟨[iv i],kr,rfl,hF2⟩)))))
  cases h
  exact sk (tq (kq (sq (rgS ⟨[(6,iv (-1))],[],H2⟩ ZS.f kr (tq (rt (⟨[iv (-1)],kr,rfl,hF2⟩)))))))
 dsimp only at h hq
 obtain ⟨rfl,H1,rfl,hF1⟩:=hq
 refine br (tr ?_)
 have hqr:=Z4 h
 subst hqr
 exact ⟨[iv q.1],kr,rfl,hF1⟩
theorem Zft (f:List ZY)(c:Int)(z:Zam)(r:List ZY)(p:ZT)(id m:Nat)(fuel:Int)(a b:AV)(cs:List PC)(H:List HO)(hH:HP H [.cel id (Zaj p fuel a b m),.deep b 4 true cs (f.map dpC)])(h:ZeM f c z=some r) :
  ∃ cs' H',Zbq Try.prog 33 [.ptr id 0,iv c,.agg (Za3 z)] H (.tup []) H'/\Fp H H' [.cel id (Zaj p fuel a b m),.deep b 4 true cs (f.map dpC)] [.cel id (Zaj p fuel a b m),.deep b 4 true cs' (r.map dpC)]:=by
 suffices hs:∃ H',Zbq Try.prog 33 [.ptr id 0,iv c,.agg (Za3 z)] H (.tup []) H'/\∃ cs',Fp H H' [.cel id (Zaj p fuel a b m),.deep b 4 true cs (f.map dpC)] [.cel id (Zaj p fuel a b m),.deep b 4 true cs' (r.map dpC)] by
  obtain ⟨H',h1,cs',h2⟩:=hs
  exact ⟨cs',H',h1,h2⟩
 unfold ZeM at h
 replace hH:=Fp.refl hH
 have hlc:=Fp.get hH 0 rfl
 have hfb:=ZgR (Fp.get hH 1 rfl)
 refine ZdR Zor (λH'=>∃ cs',Fp H H' [.cel id (Zaj p fuel a b m),.deep b 4 true cs (f.map dpC)] [.cel id (Zaj p fuel a b m),.deep b 4 true cs' (r.map dpC)]) rfl rfl rfl ?_
 obtain ⟨fc,hfc,h⟩:=bs h
 obtain ⟨la,hla,h⟩:=bs h
 obtain ⟨id4,ver4,cc,bb,hid4a,hcc,hbb,hid4v,hfbb,hlbb,hr0,hr1,hr2⟩:=Zfh (Fp.get hH 1 rfl) (Zf9 dpC hfc)
 refine sq (rgS ⟨[(0,.ptr id 0),(1,iv c),(5,.loc 5 0)],[(5,Za3 z)],H⟩ ZS.f kr (tq (sq ?_)))
 refine rgS ⟨[(0,.ptr id 0),(1,iv c),(5,.loc 5 0),(6,bb)],[(5,Za3 z)],H⟩ (ZS.u 3 (Zav (H:=H) (id:=id) (off:=4) (cs:=Zaj p fuel a b m) (c:=[b]) (r:=b) kr kr hlc kr (by cases hfb<;>kernel_rfl) kr)
  (ZS.u (hm:=by cases hfb<;>kernel_rfl) 1 (Z7 (ys:=[b,iv c]) (by cases hfb<;>kernel_rfl) (hid4v .i64)) (ZS.u (hm:=by cases hfb<;>kernel_rfl) 1 (Zjr (H:=H) (r:=bb) (p:=.optr 2 id4 ver4 (0+c.toNat) 1) (by cases hfb<;>kernel_rfl) (by cases hfb<;>kernel_rfl) hr1 (by cases hfbb<;>kernel_rfl) (by cases hfbb<;>kernel_rfl)) (ZS.f (h:=by cases hfb<;>kernel_rfl))))) (by cases hfb<;>cases hfbb<;>kernel_rfl) ?_
 refine tq (sq ?_)
 have hpb:HP H [.arr bb 4 false (fc.Arms.map Zao)]:=hp1 hlbb
 refine sq (rgS ⟨[(0,.ptr id 0),(1,iv c),(5,.loc 5 0),(6,bb),(7,iv ((List.length fc.Arms:Nat):Int))],[(5,Za3 z)],H⟩ (ZS.u (hm:=by cases hfbb<;>kernel_rfl) 1 (Z7 (ys:=[bb]) (by cases hfbb<;>kernel_rfl) (HP.len (k:=0) (frz:=false) Zao hpb rfl)) (ZS.f (h:=by cases hfbb<;>kernel_rfl))) (by cases hfbb<;>kernel_rfl) (tq (sq (rqX (hs:=(by cases hfbb<;>kernel_rfl)) ⟨[(0,.ptr id 0),(1,iv c),(5,.loc 5 0),(6,bb),(7,iv ((List.length fc.Arms:Nat):Int)),(35,bv la)],[(5,Za3 z)],H⟩ ?_ ?_))))
 ·clear h
  unfold Zeb at hla
  rcases Zak hla with ⟨hc,hla⟩|⟨hc,hla⟩
  ·refine EP.u (hm:=by cases hfbb<;>kernel_rfl) 1 (ZZ (c:=(decide (((List.length fc.Arms:Nat):Int)>0))) (by cases hfbb<;>kernel_rfl) hc) ?_
   rcases Zak hla with ⟨hc',hla⟩|⟨hc',hla⟩
   ·refine EP.u (hm:=by cases hfbb<;>kernel_rfl) 3 (ZZ (c:=(decide (z.By≥0))) (by cases hfbb<;>kernel_rfl) hc') ?_
    obtain ⟨e5,he5,hla⟩:=bs hla
    obtain rfl:=Z4 hla
    obtain ⟨id5,ver5,_,hid5f,hid5,hid5a,hid5v⟩:=HP.elem (k:=0) (frz:=false) Zao hpb rfl he5
    exact EP.u (hm:=by cases hfbb<;>kernel_rfl) 5 (Z7 (ys:=[bb,iv (w64 (((List.length fc.Arms:Nat):Int)-1))]) (by cases hfbb<;>kernel_rfl) (hid5v .i64)) (EP.u (hm:=by cases hfbb<;>kernel_rfl) 1 (Za6 (ZhB (H:=H) (off:=2) (cs:=[.int .i64 e5.By]) (r:=iv e5.By) Zao he5 hid5 (by cases hfbb<;>kernel_rfl) (by cases hfbb<;>kernel_rfl) kr kr) (by cases hfbb<;>kernel_rfl)) (EP.f (h:=by cases hfbb<;>kernel_rfl) (by cases hfbb<;>kernel_rfl)))
   obtain rfl:=Z4 hla
   exact EP.u (hm:=by cases hfbb<;>kernel_rfl) 3 (ZZ (c:=(decide (z.By≥0))) (by cases hfbb<;>kernel_rfl) hc') (EP.f (h:=by cases hfbb<;>kernel_rfl) (by cases hfbb<;>kernel_rfl))
  obtain rfl:=Z4 hla
  exact EP.u (hm:=by cases hfbb<;>kernel_rfl) 1 (ZZ (c:=(decide (((List.length fc.Arms:Nat):Int)>0))) (by cases hfbb<;>kernel_rfl) hc) (EP.f (h:=by cases hfbb<;>kernel_rfl) (by cases hfbb<;>kernel_rfl))
 refine tq (it h (λhc6 h=>?_) (λhc6 h=>?_) (hx:=by cases hfbb<;>kernel_rfl))
 ·obtain ⟨e7,he7,h⟩:=bs h
  obtain ⟨id7,ver7,H7,hid7a,hid7v,hw7,hF7⟩:=Fp.deepRow (k:=1) (vs:=[iv z.To]) (off:=1) (e':=Zao { e7 with To:=z.To }) hH rfl (Zf9 dpC hfc) hcc hbb (Zf9 Zao he7) rfl rfl
  cases h
  replace hF7:Fp H H7 [.cel id (Zaj p fuel a b m),.deep b 4 true cs (f.map dpC)] [.cel id (Zaj p fuel a b m),.deep b 4 true cs ((f.set c.toNat ⟨fc.Stream,fc.Arms.set (w64 (((List.length fc.Arms:Nat):Int)-1)).toNat { e7 with To:=z.To }⟩).map dpC)]:=by
   rw [List.map_set]
   simp only [dpC,List.map_set]
   exact hF7
  exact sq (rgS ⟨[],[],H7⟩ (ZS.u (hm:=by cases hfbb<;>kernel_rfl) 5 (Z7 (ys:=[bb,iv (w64 (((List.length fc.Arms:Nat):Int)-1))]) (by cases hfbb<;>kernel_rfl) (hid7v .i64)) (ZS.o (hm:=by cases hfbb<;>kernel_rfl) 1 (ZaQ (H:=H) (v:=iv z.To) (cs:=[iv z.To]) (p:=.optr 4 id7 ver7 (0+(w64 (((List.length fc.Arms:Nat):Int)-1)).toNat) 1) rfl (by cases hfbb<;>kernel_rfl) (by cases hfbb<;>kernel_rfl) (by cases hfbb<;>kernel_rfl) rfl hw7) (ZS.f (h:=by cases hfbb<;>kernel_rfl)))) (by cases hfbb<;>kernel_rfl) (tq (rt (tr (⟨[],kr,rfl,cs,hF7⟩)))))
 obtain ⟨l9,hl9,h⟩:=bs h
 cases h
 obtain ⟨rfl,hb1,hb2⟩:=ZgW hl9
 refine sk (tq (kq ?_))
 obtain ⟨q9,v9,H9,a5,a4,a6,hap9,a1,a2,a3⟩:=Fp.deepIn (k:=1) (bytes:=32) (m:=[Zao z]) hH rfl (Zf9 dpC hfc) hcc hbb (by simp) (by simpa [dpC] using hb1) (by simpa [dpC] using hb2)
 have a0:=hid4a.symm.trans a1
 cases a0
 subst hid4a
 clear hfb
 refine rqS (hs:=(by cases hfbb<;>kernel_rfl)) ⟨[],[],a6⟩
  (ZS.u (hm:=by cases hfbb<;>kernel_rfl) 3 (ZhC (H:=H) (id:=id) (off:=4) (cs:=Zaj p fuel a (.osl 2 id4 ver4 0 (f.map dpC).length) m) (c:=[.osl 2 id4 ver4 0 (f.map dpC).length]) (r:=.osl 2 id4 ver4 0 (f.map dpC).length) (zs:=[]) (vs:=[]) (by cases hfbb<;>kernel_rfl) (by cases hfbb<;>kernel_rfl) hlc kr kr kr rfl rfl)
  (ZS.h (hm:=by cases hfbb<;>kernel_rfl) 4 (ZiI (H:=H) (a:=bb) (b:=ZaO true [z]) (by cases hfbb<;>kernel_rfl) (by cases hfbb<;>kernel_rfl) (by cases hfbb<;>kernel_rfl) kr hap9)
  (ZS.u (hm:=by cases hfbb<;>kernel_rfl) 0 (Z7 (ys:=[.osl 2 id4 ver4 0 (f.map dpC).length,iv c]) (by cases hfbb<;>kernel_rfl) (hid4v .i64))
  (ZS.o (hm:=by cases hfbb<;>kernel_rfl) 1 (ZhA (ZaQ (H:=H9) (v:=.osl 4 q9 v9 0 ((dpC fc).2++[Zao z]).length) (p:=.optr 2 id4 ver4 (0+c.toNat) 1) rfl (by cases hfbb<;>kernel_rfl) (by cases hfbb<;>kernel_rfl) (by cases hfbb<;>kernel_rfl) rfl a2) (by cases hfbb<;>kernel_rfl))
  (ZS.f (h:=by cases hfbb<;>kernel_rfl)))))) (by cases hfbb<;>kernel_rfl) ?_
 refine ⟨[],kr,rfl,(cs.set c.toNat (.ow 4 q9 v9 ((dpC fc).2++[Zao z]).length)),?_⟩
 rw [List.map_set]
 have e:dpC ⟨fc.Stream,fc.Arms++[z]⟩=((dpC fc).1,(dpC fc).2++[Zao z]):=by simp [dpC]
 rw [e]
 exact a3
abbrev ZaA (p:ZT) (fuel:Int) (id m:Nat) (a b:AV) (cs:List PC) (st:ZaV):List Zaw:=[.cel id (Zaj p fuel a b m),.arr a 1 false (st.2.1.map eI64),.deep b 4 true cs (st.1.map dpC),smp m st.2.2]
abbrev ZhQ (P:Program) (p:ZT) (fuel:Int) (rec_:ZaV->Int->Option (Option (Bool×ZaV))):Prop :=
 ∀ (st:ZaV) (i:Int) (r:Option (Bool×ZaV)) (id m:Nat) (a b:AV) (cs:List PC) (H:List HO),HP H (ZaA p fuel id m a b cs st)->rec_ st i=some r →
  (∃ (t:Bool) (s':ZaV) (a' b':AV) (cs':List PC) (H':List HO),r=some (t,s')/\Zbq P 23 [.ptr id 0,iv i] H (bv t) H'/\Fp H H' (ZaA p fuel id m a b cs st) (ZaA p fuel id m a' b' cs' s')) ∨
  ∃ H',r=none/\Zhs P 23 [.ptr id 0,iv i] H 79 H'/\Fp H H' (ZaA p fuel id m a b cs st) []
theorem ZfC {H H1:List HO}{f0:List Zaw}{p:ZT}{fuel:Int}{id m:Nat}{a b:AV}{cs:List PC}{st:ZaV}{i c most x by_ nx:Int}{f:List ZY}{Q:Exit->St->Prop}
  (hF:Fp H H1 f0 (ZaA p fuel id m a b cs st)) (hadd:ZeM st.1 c ⟨x,w64 (x+1),by_,nx⟩=some f)
  (hQ:∀ H2 cs',Fp H H2 f0 (ZaA p fuel id m a b cs' (f,st.2))->Q .normal ⟨[(0,.ptr id 0),(1,iv i),(5,iv c),(6,iv most),(44,iv most),(45,iv x)],[],H2⟩) :
  vc Try.prog i23.nt (Ro ZjS [0,1,5,6,44,45]) Q ⟨[(0,.ptr id 0),(1,iv i),(5,iv c),(6,iv most),(7,iv x),(8,iv by_),(9,iv nx),(44,iv most),(45,iv x)],[],H1⟩:=by
 obtain ⟨cs',H2,hc2,hF2⟩:=Zft st.1 c ⟨x,w64 (x+1),by_,nx⟩ f p id m fuel a b cs H1 (Fp.pk hF [0,2] rfl).now hadd
 replace hF2:=Fp.callee (rest:=[.arr a 1 false (st.2.1.map eI64),smp m st.2.2]) (Fp.pk hF [0,2,1,3] rfl) hF2
 replace hF2:=Fp.pk (H':=H2) (L:=ZaA p fuel id m a b cs' (f,st.2)) hF2 [0,2,1,3] rfl
 refine rgS ⟨[(0,.ptr id 0),(1,iv i),(5,iv c),(6,iv most),(44,iv most),(45,iv x)],[],H2⟩
  (ZS.v 8 (Zca (H:=H1) (H1:=H1) (ys:=[.ptr id 0,iv c,.agg (Za3 ⟨x,w64 (x+1),by_,nx⟩)]) (args:=[.ptr id 0,iv c,.agg (Za3 ⟨x,w64 (x+1),by_,nx⟩)]) kr kr kr hc2) ZS.f) kr ?_
 exact hQ H2 cs' hF2
abbrev s15 (id:Nat) (i c most x nx:Int) (H:List HO):St:=⟨[(0,.ptr id 0),(1,iv i),(5,iv c),(6,iv most),(7,iv x),(8,iv (-1)),(9,iv nx),(44,iv most),(45,iv x)],[],H⟩
theorem Zil {H1:List HO}{p:ZT}{fuel:Int}{id m:Nat}{a b:AV}{i c most x nx:Int}{Q:Exit->St->Prop}(hlc:Lies H1 (.cel id (Zaj p fuel a b m)))(hc:(i==w64 (((List.length p.Periods:Nat):Int)-1))=true)
  (hQ:Q .normal ⟨[(0,.ptr id 0),(1,iv i),(5,iv c),(6,iv most),(7,iv x),(8,iv (-1)),(9,iv nx),(44,iv most),(45,iv x),(83,bv true)],[],H1⟩):vc Try.prog i23.nt (.box (Ro ZgG [0,1,5,6,7,8,9,44,45,83])) Q (s15 id i c most x nx H1):=
 Zkd (rgS ⟨[(0,.ptr id 0),(1,iv i),(5,iv c),(6,iv most),(7,iv x),(8,iv (-1)),(9,iv nx),(44,iv most),(45,iv x),(83,bv true)],[],H1⟩
  (ZS.u 5 (Zav (H:=H1) (id:=id) (off:=0) (cs:=Zaj p fuel a b m) (c:=[Zad false p.Periods]) (r:=Zad false p.Periods) (hl:=hlc))
  (ZS.u 0 (Z7 (ys:=[Zad false p.Periods]) (h:=Zag eI64)) (ZS.u 1 (ZZ (c:=(i==w64 (((List.length p.Periods:Nat):Int)-1))) (h:=hc)) ZS.f))) kr hQ)
theorem Zi9 {H1 H2:List HO}{p:ZT}{fuel:Int}{id m:Nat}{a b:AV}{i c most x nx:Int}{t:Bool}{Q:Exit->St->Prop}(hlc:Lies H1 (.cel id (Zaj p fuel a b m)))(hc:(i==w64 (((List.length p.Periods:Nat):Int)-1))=false)
  (hcall:Zbq Try.prog 23 [.ptr id 0,iv (w64 (i+1))] H1 (bv t) H2)
  (hQ:Q .normal ⟨[(0,.ptr id 0),(1,iv i),(5,iv c),(6,iv most),(7,iv x),(8,iv (-1)),(9,iv nx),(44,iv most),(45,iv x),(83,bv t)],[],H2⟩):vc Try.prog i23.nt (.box (Ro ZgG [0,1,5,6,7,8,9,44,45,83])) Q (s15 id i c most x nx H1):=
 Zkd (rgS ⟨[(0,.ptr id 0),(1,iv i),(5,iv c),(6,iv most),(7,iv x),(8,iv (-1)),(9,iv nx),(44,iv most),(45,iv x),(83,bv t)],[],H2⟩
  (ZS.u 5 (Zav (H:=H1) (id:=id) (off:=0) (cs:=Zaj p fuel a b m) (c:=[Zad false p.Periods]) (r:=Zad false p.Periods) (hl:=hlc))
  (ZS.u 0 (Z7 (ys:=[Zad false p.Periods]) (h:=Zag eI64)) (ZS.u 1 (ZZ (c:=(i==w64 (((List.length p.Periods:Nat):Int)-1))) (h:=hc))
  (ZS.v 4 (Zca (H:=H1) (H1:=H1) (ys:=[.ptr id 0,iv (w64 (i+1))]) (args:=[.ptr id 0,iv (w64 (i+1))]) kr kr kr hcall) ZS.f)))) kr hQ)
theorem Zja {H1 H2:List HO}{p:ZT}{fuel:Int}{id m:Nat}{a b:AV}{i c most x nx:Int}{Q:Exit->St->Prop}(hlc:Lies H1 (.cel id (Zaj p fuel a b m)))(hc:(i==w64 (((List.length p.Periods:Nat):Int)-1))=false)
  (hcall:Zhs Try.prog 23 [.ptr id 0,iv (w64 (i+1))] H1 79 H2)
  (hQ:∀ s:St,s.H=H2->Q (.panic (pvl 79)) s):vc Try.prog i23.nt (.box (Ro ZgG [0,1,5,6,7,8,9,44,45,83])) Q (s15 id i c most x nx H1):=
 ZjU 13 _ rfl (AK.z (ZS.u (ops:=ZgG.take 13) 5 (Zav (H:=H1) (id:=id) (off:=0) (cs:=Zaj p fuel a b m) (c:=[Zad false p.Periods]) (r:=Zad false p.Periods) (hl:=hlc))
  (ZS.u 0 (Z7 (ys:=[Zad false p.Periods]) (h:=Zag eI64)) (ZS.u 1 (ZZ (c:=(i==w64 (((List.length p.Periods:Nat):Int)-1))) (h:=hc)) ZS.f))))
  ⟨(by show get _ _=_;kernel_rfl),_,_,_,[.ptr id 0,iv (w64 (i+1))],H1,rfl,Pass.frz kr,hcall⟩ [] (hQ _ kr)
theorem ZeL (N:Nat)(rec_:ZaV->Int->Option (Option (Bool×ZaV)))(p:ZT)(fuel:Int)(hrec_:ZhQ Try.prog p fuel rec_)(st0:ZaV)(id m:Nat)(a0 b0:AV)(cs0:List PC)(H:List HO)(i c most x:Int)(st:ZaV)(o:(Int×ZaV)⊕(ZaV⊕Option ZaV))(a b:AV)(cs:List PC)(H1:List HO)
  (hF1:Fp H H1 (ZaA p fuel id m a0 b0 cs0 st0) (ZaA p fuel id m a b cs st)) (h:Zcb N rec_ p i c most x st=some o) :
  vc Try.prog i23.nt ZkW (ZeG (λs=>∃ y:Int×ZaV,o=.inl y/\∃ a b cs H2,s=⟨[(0,.ptr id 0),(1,iv i),(5,iv c),(6,iv most),(44,iv most),(45,iv y.1)],[],H2⟩/\Fp H H2 (ZaA p fuel id m a0 b0 cs0 st0) (ZaA p fuel id m a b cs y.2))
   (λe s=>∃ r:ZaV⊕Option ZaV,o=.inr r/\match r with
   | .inl s2=>e=.exit 0/\∃ a b cs H2,s=⟨[(0,.ptr id 0),(1,iv i),(5,iv c),(6,iv most)],[],H2⟩/\Fp H H2 (ZaA p fuel id m a0 b0 cs0 st0) (ZaA p fuel id m a b cs s2)
   | .inr q=>match q with
    | none=>e=.panic (pvl 79)/\Fp H s.H (ZaA p fuel id m a0 b0 cs0 st0) []
    | some s2=>e=.ret/\∃ a b cs H2,s=⟨[(4,bv true)],[],H2⟩/\Fp H H2 (ZaA p fuel id m a0 b0 cs0 st0) (ZaA p fuel id m a b cs s2)))
   ⟨[(0,.ptr id 0),(1,iv i),(5,iv c),(6,iv most),(44,iv most),(45,iv x)],[],H1⟩:=by
 obtain ⟨pf,gv,kn⟩:=st
 unfold Zcb at h
 dsimp only at h
 have hlc:=Fp.get hF1 0 rfl
 have hfa:=Zev (Fp.get hF1 1 rfl)
 have hfb:=ZgR (Fp.get hF1 2 rfl)
 refine sq (rgS ⟨[(0,.ptr id 0),(1,iv i),(5,iv c),(6,iv most),(44,iv most),(45,iv x),(46,bv (decide (x<most)))],[],H1⟩ ZS.f kr (tq (sq (it h (λhc h=>?_) (λhc h=>?_)))))
 ·refine sk (tq (kq (sq (bk (sq (rgS ⟨[(0,.ptr id 0),(1,iv i),(5,iv c),(6,iv most),(7,iv x),(44,iv most),(45,iv x)],[],H1⟩ ZS.f kr (tq (sq ?_))))))))
  obtain ⟨by_,hby,h⟩:=bs h
  obtain ⟨H2,hc2,hF2⟩:=ZfT N p gv kn i x by_ id m fuel a b H1 (Fp.pk hF1 [0,1,3] rfl).now hby
  replace hF2:=Fp.callee (rest:=[.deep b 4 true cs (pf.map dpC)]) (Fp.pk hF1 [0,1,3,2] rfl) hF2
  replace hF2:=Fp.pk (H':=H2) (L:=ZaA p fuel id m a b cs (pf,gv,by_.2)) hF2 [0,1,3,2] rfl
  refine rgS ⟨[(0,.ptr id 0),(1,iv i),(5,iv c),(6,iv most),(7,iv x),(8,iv by_.1),(9,iv 0),(44,iv most),(45,iv x)],[],H2⟩ (ZS.v 3 (Zca (H:=H1) (H1:=H1) (ys:=[.ptr id 0,iv i,iv x]) (args:=[.ptr id 0,iv i,iv x]) kr kr kr hc2) ZS.f) kr (tq (sq ?_))
  obtain ⟨q,hq,h⟩:=bs h
  refine sq (rgS ⟨[(0,.ptr id 0),(1,iv i),(5,iv c),(6,iv most),(7,iv x),(8,iv by_.1),(9,iv 0),(44,iv most),(45,iv x),(53,bv (by_.1 == -1))],[],H2⟩ ZS.f kr (tq (it hq (λhc3 hq=>?_) (λhc3 hq=>?_))))
  ·have hby1:by_.1 = -1:=by simpa using hc3
   rw [hby1] at h ⊢
   obtain ⟨g,hg,hq⟩:=bs hq
   have hlc2:=Fp.get hF2 0 rfl
   obtain ⟨a3,H3,ha3,hF3⟩:=Fp.app (k:=1) (a:=a) (sz:=1) (frz:=false) eI64 hF2 rfl hg
   obtain ⟨H4,hw4,hF4⟩:=Fp.setCell (k:=0) (off:=3) (vs:=[a3]) (cs':=Zaj p fuel a3 b m) hF3 rfl kr
   replace hF4:Fp H H4 (ZaA p fuel id m a0 b0 cs0 st0) (ZaA p fuel id m a3 b cs (pf,g,by_.2)):=hF4
   have hfa3:=Zev (Fp.get hF4 1 rfl)
   refine sq (rgS ⟨[(0,.ptr id 0),(1,iv i),(5,iv c),(6,iv most),(7,iv x),(8,iv (-1)),(44,iv most),(45,iv x)],[],H4⟩ (ZS.u 4 (Zav (H:=H2) (id:=id) (off:=3) (cs:=Zaj p fuel a b m) (c:=[a]) (r:=a) kr kr hlc2 kr (by cases hfa<;>kernel_rfl) kr)
    (ZS.h (hm:=by cases hfa<;>kernel_rfl) 2 (ZiI (H:=H2) (a:=a) (b:=Zad true [x]) (by cases hfa<;>kernel_rfl) (by cases hfa<;>kernel_rfl) (by cases hfa<;>kernel_rfl) kr ha3)
    (ZS.o (hm:=by cases hfa<;>cases hfa3<;>kernel_rfl) 2 (ZaQ (H:=H3) (v:=a3) (cs:=[a3]) (p:=.ptr id 3) (by cases hfa3<;>kernel_rfl) (by cases hfa<;>kernel_rfl) (by cases hfa<;>kernel_rfl) (by cases hfa<;>kernel_rfl) (by cases hfa3<;>kernel_rfl) hw4)
    (ZS.f (h:=by cases hfa<;>cases hfa3<;>kernel_rfl))))) (by cases hfa<;>cases hfa3<;>kernel_rfl) ?_)
   refine tq (sq ?_)
   have hlc4:=Fp.get hF4 0 rfl
   refine rgS (s15 id i c most x ((List.length pf:Nat):Int) H4) (ZS.u 3 (Zav (H:=H4) (id:=id) (off:=4) (cs:=Zaj p fuel a3 b m) (c:=[b]) (r:=b) kr kr hlc4 kr (by cases hfb<;>kernel_rfl) kr)
    (ZS.u (hm:=by cases hfb<;>kernel_rfl) 0 (Z7 (ys:=[b]) (by cases hfb<;>kernel_rfl) (ZgQ (Fp.get hF4 2 rfl))) (ZS.f (h:=by cases hfb<;>kernel_rfl)))) (by cases hfb<;>kernel_rfl) ?_
   refine tq (sq (sq ?_))
   rcases Zak hq with ⟨hc5,hq⟩|⟨hc5,hq⟩
   ·obtain rfl:=Z4 hq
    dsimp only at h
    cases h
    exact Zil hlc4 hc5 (tq (ZiA kr (sq (rgS ⟨[(4,bv true)],[],H4⟩ ZS.f kr (tq (rt (tr (tr (br (tr (⟨_,rfl,rfl,a3,b,cs,H4,rfl,hF4⟩)))))))))))
   obtain ⟨q5,hq5,hq⟩:=bs hq
   rcases hrec_ (pf,g,by_.2) (w64 (i+1)) q5 id m a3 b cs H4 hF4.now hq5 with ⟨t,s5,a5,b5,cs5,H5,rfl,hc6,hF5⟩|⟨H5,rfl,hc6,hF5⟩
   ·dsimp only at hq
    replace hF5:Fp H H5 (ZaA p fuel id m a0 b0 cs0 st0) (ZaA p fuel id m a5 b5 cs5 s5):=Fp.trans hF4 hF5
    refine Zi9 hlc4 hc5 hc6 (tq ?_)
    cases t with
    | true =>
     simp only [ZQ] at hq
     obtain rfl:=Z4 hq
     dsimp only at h
     cases h
     exact ZiA kr (sq (rgS ⟨[(4,bv true)],[],H5⟩ ZS.f kr (tq (rt (tr (tr (br (tr (⟨_,rfl,rfl,a5,b5,cs5,H5,rfl,hF5⟩)))))))))
    | false =>
     simp only [Zf,ZN] at hq
     obtain ⟨g6,hg6,hq⟩:=bs hq
     obtain rfl:=Z4 hq
     dsimp only at h
     obtain ⟨f7,hf7,h⟩:=bs h
     refine Zjo kr (sk (tq (kq ?_)))
     have hlc5:=Fp.get hF5 0 rfl
     obtain ⟨id6,ver6,a6,H6,ha5,hid6,hm6,hH6,ha6,hF6⟩:=Fp.pop (k:=1) eI64 hF5 rfl hg6
     obtain ⟨H7,hw7,hF7⟩:=Fp.setCell (k:=0) (off:=3) (vs:=[a6]) (cs':=Zaj p fuel a6 b5 m) hF6 rfl kr
     replace hF7:Fp H H7 (ZaA p fuel id m a0 b0 cs0 st0) (ZaA p fuel id m a6 b5 cs5 (s5.1,g6,s5.2.2)):=hF7
     clear hF6
     subst ha5 ha6
     refine rgS ⟨[(0,.ptr id 0),(1,iv i),(5,iv c),(6,iv most),(7,iv x),(8,iv (-1)),(9,iv ((List.length pf:Nat):Int)),(44,iv most),(45,iv x)],[],H7⟩ (ZS.u 4 (Zav (H:=H5) (id:=id) (off:=3) (cs:=Zaj p fuel (.osl 1 id6 ver6 0 (s5.2.1.map eI64).length) b5 m) (c:=[.osl 1 id6 ver6 0 (s5.2.1.map eI64).length]) (r:=.osl 1 id6 ver6 0 (s5.2.1.map eI64).length) (hl:=hlc5))
      (ZS.h 1 (ZjW (H:=H5) kr kr kr rfl hid6 hm6 hH6 rfl)
      (ZS.o 2 (ZaQ (H:=H6) (v:=.osl 1 id6 (ver6+1) 0 i.toNat) (cs:=[.osl 1 id6 (ver6+1) 0 i.toNat]) (p:=.ptr id 3) kr kr kr kr kr hw7)
      ZS.f))) kr ?_
     refine tq (kq (Eq.mp (congrArg _ (show ⟨[(0,.ptr id 0),(1,iv i),(5,iv c),(6,iv most),(7,iv x),(8,iv (-1)),(9,iv ((List.length pf:Nat):Int)),(44,iv most),(45,iv x)],[],H7⟩=_ by kernel_rfl)) (ZfC hF7 hf7 λH8 cs8 hF8=>(bn (tq (kq (rgS ⟨[(0,.ptr id 0),(1,iv i),(5,iv c),(6,iv most),(44,iv most),(45,iv (w64 (x+1)))],[],H8⟩ ZS.f kr ?_)))))))
     cases h
     exact ⟨_,rfl,_,b5,cs8,H8,rfl,hF8⟩
   dsimp only at hq
   obtain rfl:=Z4 hq
   dsimp only at h
   cases h
   refine Zja hlc4 hc5 hc6 λs hs=>?_
   refine tp (tp (tp (bp (tp ?_))))
   subst hs
   exact ⟨_,rfl,rfl,Fp.trans hF4 hF5⟩
  obtain rfl:=Z4 hq
  dsimp only at h
  obtain ⟨f7,hf7,h⟩:=bs h
  refine sk (tq (kq (Eq.mp (congrArg _ (show ⟨[(0,.ptr id 0),(1,iv i),(5,iv c),(6,iv most),(7,iv x),(8,iv by_.1),(9,iv 0),(44,iv most),(45,iv x)],[],H2⟩=_ by kernel_rfl)) (ZfC hF2 hf7 λH8 cs8 hF8=>(bn (tq (kq (rgS ⟨[(0,.ptr id 0),(1,iv i),(5,iv c),(6,iv most),(44,iv most),(45,iv (w64 (x+1)))],[],H8⟩ ZS.f kr ?_))))))))
  cases h
  exact ⟨_,rfl,a,b,cs8,H8,rfl,hF8⟩
 refine kq (xq (tx ?_))
 cases h
 exact ⟨_,rfl,rfl,a,b,cs,H1,kr,hF1⟩
theorem Zfl (N:Nat)(rec_:ZaV->Int->Option (Option (Bool×ZaV)))(p:ZT)(fuel:Int)(hrec_:ZhQ Try.prog p fuel rec_):ZhQ Try.prog p fuel (Zdp N rec_ p fuel):=by
 intro st i r id m a b cs H hH h
 refine (Zje Zow (args:=[.ptr id 0,iv i]) (H:=H) 79 (λrv H'=>∃ (t:Bool) (s':ZaV),r=some (t,s')/\rv=bv t/\∃ a' b' cs',Fp H H' (ZaA p fuel id m a b cs st) (ZaA p fuel id m a' b' cs' s')) (λH'=>r=none/\Fp H H' (ZaA p fuel id m a b cs st) [])
  (λrv H' q=>by obtain ⟨t,s',_,e,_⟩:=q;subst e;rfl) rfl rfl ?_).imp (λ⟨rv,H',h1,t,s',e1,e2,a',b',cs',h2⟩=>⟨t,s',a',b',cs',H',e1,e2 ▸ h1,h2⟩) (λ⟨H',h1,e,h2⟩=>⟨H',e,h1,h2⟩)
 obtain ⟨pf,gv,kn⟩:=st
 unfold Zdp at h
 dsimp only at h
 replace hH:=Fp.refl hH
 have hlc:=Fp.get hH 0 rfl
 have hfa:=Zev (Fp.get hH 1 rfl)
 have hfb:=ZgR (Fp.get hH 2 rfl)
 refine sq (rgS ⟨[(0,.ptr id 0),(1,iv i)],[],H⟩ ZS.f kr (tq (sq ?_)))
 refine rgS ⟨[(0,.ptr id 0),(1,iv i),(5,iv ((List.length pf:Nat):Int))],[],H⟩ (ZS.u 3 (Zav (H:=H) (id:=id) (off:=4) (cs:=Zaj p fuel a b m) (c:=[b]) (r:=b) kr kr hlc kr (by cases hfb<;>kernel_rfl) kr)
  (ZS.u (hm:=by cases hfb<;>kernel_rfl) 0 (Z7 (ys:=[b]) (by cases hfb<;>kernel_rfl) (ZgQ (Fp.get hH 2 rfl))) (ZS.f (h:=by cases hfb<;>kernel_rfl)))) (by cases hfb<;>kernel_rfl) ?_
 refine tq (sq (sq (rgS ⟨[(0,.ptr id 0),(1,iv i),(5,iv ((List.length pf:Nat):Int)),(20,bv (decide (((List.length pf:Nat):Int)>fuel)))],[],H⟩ (ZS.u 4 (Zav (H:=H) (id:=id) (off:=2) (cs:=Zaj p fuel a b m) (c:=[iv fuel]) (r:=iv fuel) (hl:=hlc)) ZS.f) kr (tq (it h (λhc h=>?_) (λhc h=>?_))))))
 ·cases h
  exact Zoc (tp (⟨rfl,rfl,Fp.pk hH [] rfl⟩))
 refine sk (tq (kq (sq ?_)))
 obtain ⟨f1,hf1,h⟩:=bs h
 obtain ⟨rfl,hb1,hb2⟩:=ZgW hf1
 obtain ⟨c1,b1,H1,hrw,hap,hF1⟩:=Fp.deepApp (k:=3) (j:=0) (bytes:=32) (Fp.nilArr hH 4 false) rfl rfl (by decide) i (by simpa using hb1) (by simpa using hb2)
 obtain ⟨H2,hw2,hF2⟩:=Fp.setCell (k:=1) (off:=4) (vs:=[b1]) (cs':=Zaj p fuel a b1 m) hF1 rfl kr
 replace hF2:Fp H H2 (ZaA p fuel id m a b cs (pf,gv,kn)) (ZaA p fuel id m a b1 (cs++[c1]) (pf++[ZY.mk i []],gv,kn)):=by
  have:=Fp.pick hF2 [1,2,3,4] rfl
  unfold ZaA
  rw [List.map_append]
  exact this
 have hfb1:=ZgR (Fp.get hF2 2 rfl)
 refine rgS ⟨[(0,.ptr id 0),(1,iv i),(5,iv ((List.length pf:Nat):Int))],[],H2⟩ (ZS.u 4 (Zav (H:=H) (id:=id) (off:=4) (cs:=Zaj p fuel a b m) (c:=[b]) (r:=b) kr kr hlc kr (by cases hfb<;>kernel_rfl) kr)
  (ZS.h (hm:=by cases hfb<;>kernel_rfl) 2 (ZjZ (H:=H) (ys:=[.agg [iv i,.p (.sl 4 true [])]]) (by cases hfb<;>kernel_rfl) (by cases hfb<;>kernel_rfl) hrw rfl rfl)
  (ZS.h (hm:=by cases hfb<;>kernel_rfl) 0 (ZiI (H:=H++[.arr 2 0 false [[.int .i64 i,c1]]]) (a:=b) (b:=.osl 2 H.length 0 0 1) (by cases hfb<;>kernel_rfl) (by cases hfb<;>kernel_rfl) (by cases hfb<;>kernel_rfl) (Zi1 _ _) hap)
  (ZS.o (hm:=by cases hfb<;>cases hfb1<;>kernel_rfl) 2 (ZaQ (H:=H1) (v:=b1) (cs:=[b1]) (p:=.ptr id 4) (by cases hfb1<;>kernel_rfl) (by cases hfb<;>kernel_rfl) (by cases hfb<;>kernel_rfl) (by cases hfb<;>kernel_rfl) (by cases hfb1<;>kernel_rfl) hw2)
  (ZS.f (h:=by cases hfb<;>cases hfb1<;>kernel_rfl)))))) (by cases hfb<;>cases hfb1<;>kernel_rfl) ?_
 refine tq (sq ?_)
 clear hrw hap hf1 hb1 hb2 hF1 hw2
 have hlc2:=Fp.get hF2 0 rfl
 obtain ⟨per,hper,h⟩:=bs h
 refine rgS ⟨[(0,.ptr id 0),(1,iv i),(5,iv ((List.length pf:Nat):Int)),(6,iv per)],[],H2⟩ (ZS.u 4 (Zav (H:=H2) (id:=id) (off:=0) (cs:=Zaj p fuel a b1 m) (c:=[Zad false p.Periods]) (r:=Zad false p.Periods) (hl:=hlc2))
  (ZS.u 1 (Z7 (ys:=[Zad false p.Periods,iv i]) (h:=Z5 eI64 hper)) (ZS.u 0 (Zax (sz:=1) (off:=0) (cs:=[.int .i64 per]) (r:=iv per) eI64 hper) ZS.f))) kr ?_
 refine tq ?_
 obtain ⟨most,hmost,h⟩:=bs h
 refine ZfQ [0,1,5,6] (λs=>s=⟨[(0,.ptr id 0),(1,iv i),(5,iv ((List.length pf:Nat):Int)),(6,iv most)],[],H2⟩) ?_ ?_
 ·clear h
  refine sq (rgS ⟨[(0,.ptr id 0),(1,iv i),(5,iv ((List.length pf:Nat):Int)),(6,iv per),(43,bv (i==0))],[],H2⟩ ZS.f kr (tq (it hmost (λhc hb=>?_) (λhc hb=>?_))))
  ·obtain rfl:=Z4 hb
   exact rgS ⟨[(0,.ptr id 0),(1,iv i),(5,iv ((List.length pf:Nat):Int)),(6,iv 1)],[],H2⟩ ZS.f kr (⟨rfl,kr⟩)
  obtain rfl:=Z4 hb
  exact sk (⟨rfl,kr⟩)
 rintro s hR
 obtain rfl:=hR
 refine sq (sq (rgS ⟨[(0,.ptr id 0),(1,iv i),(5,iv ((List.length pf:Nat):Int)),(6,iv most),(44,iv most),(45,iv 0)],[],H2⟩ ZS.f kr (tq (bk ?_))))
 obtain ⟨o1,ho1,h⟩:=bs h
 refine Zbv ((Za7 (λ(y:Int×ZaV) s=>∃ a2 b2 cs2 H3,s=⟨[(0,.ptr id 0),(1,iv i),(5,iv ((List.length pf:Nat):Int)),(6,iv most),(44,iv most),(45,iv y.1)],[],H3⟩/\Fp H H3 (ZaA p fuel id m a b cs (pf,gv,kn)) (ZaA p fuel id m a2 b2 cs2 y.2))
  (λy:Int×ZaV=>Zcb N rec_ p i ((List.length pf:Nat):Int) most y.1 y.2)
  (λ(r:ZaV⊕Option ZaV) e s=>match r with
   | .inl s2=>e=.exit 0/\∃ a2 b2 cs2 H2,s=⟨[(0,.ptr id 0),(1,iv i),(5,iv ((List.length pf:Nat):Int)),(6,iv most)],[],H2⟩/\Fp H H2 (ZaA p fuel id m a b cs (pf,gv,kn)) (ZaA p fuel id m a2 b2 cs2 s2)
   | .inr q=>match q with
    | none=>e=.panic (pvl 79)/\Fp H s.H (ZaA p fuel id m a b cs (pf,gv,kn)) []
    | some s2=>e=.ret/\∃ a2 b2 cs2 H2,s=⟨[(4,bv true)],[],H2⟩/\Fp H H2 (ZaA p fuel id m a b cs (pf,gv,kn)) (ZaA p fuel id m a2 b2 cs2 s2))
  (λy o s ho hR=>by
   obtain ⟨a2,b2,cs2,H3,rfl,hF3⟩:=hR
   exact ZeL N rec_ p fuel hrec_ (pf,gv,kn) id m a b cs H i ((List.length pf:Nat):Int) most y.1 y.2 o a2 b2 cs2 H3 hF3 ho) N _ o1 _ ho1 ⟨a,b1,cs++[c1],H2,by show _=_;kernel_rfl,hF2⟩).mono ?_)
 rintro e s hq
 rcases o1 with s2|q
 ·dsimp only at h hq
  obtain ⟨rfl,a2,b2,cs2,H3,rfl,hF3⟩:=hq
  have hlc3:=Fp.get hF3 0 rfl
  refine bx (tq (ZfQ [] (λs=>∃ (s4:ZaV) (b4:AV) (cs4:List PC) (H4:List HO),r=some (false,s4)/\s=⟨[],[],H4⟩/\Fp H H4 (ZaA p fuel id m a b cs (pf,gv,kn)) (ZaA p fuel id m a2 b4 cs4 s4)) ?_ ?_))
  ·refine sq (rgS ⟨[(0,.ptr id 0),(1,iv i),(5,iv ((List.length pf:Nat):Int)),(6,iv most),(112,bv (decide (most<per)))],[],H3⟩ (ZS.u 5 (Zav (H:=H3) (id:=id) (off:=0) (cs:=Zaj p fuel a2 b2 m) (c:=[Zad false p.Periods]) (r:=Zad false p.Periods) (hl:=hlc3))
    (ZS.u 1 (Z7 (ys:=[Zad false p.Periods,iv i]) (h:=Z5 eI64 hper)) (ZS.u 0 (Zax (sz:=1) (off:=0) (cs:=[.int .i64 per]) (r:=iv per) eI64 hper) ZS.f))) kr ?_)
   refine tq (it h (λhc h=>?_) (λhc h=>?_))
   ·obtain ⟨f4,hf4,h⟩:=bs h
    obtain ⟨cs4,H4,hc4,hF4⟩:=Zft s2.1 ((List.length pf:Nat):Int) ⟨most,per,-2,0⟩ f4 p id m fuel a2 b2 cs2 H3 (Fp.pk hF3 [0,2] rfl).now hf4
    replace hF4:=Fp.callee (rest:=[.arr a2 1 false (s2.2.1.map eI64),smp m s2.2.2]) (Fp.pk hF3 [0,2,1,3] rfl) hF4
    replace hF4:=Fp.pk (H':=H4) (L:=ZaA p fuel id m a2 b2 cs4 (f4,s2.2)) hF4 [0,2,1,3] rfl
    refine rgS ⟨[],[],H4⟩ (ZS.u 7 (Zav (H:=H3) (id:=id) (off:=0) (cs:=Zaj p fuel a2 b2 m) (c:=[Zad false p.Periods]) (r:=Zad false p.Periods) (hl:=hlc3))
     (ZS.u 1 (Z7 (ys:=[Zad false p.Periods,iv i]) (h:=Z5 eI64 hper)) (ZS.u 0 (Zax (sz:=1) (off:=0) (cs:=[.int .i64 per]) (r:=iv per) eI64 hper)
     (ZS.v 1 (Zca (H:=H3) (H1:=H3) (ys:=[.ptr id 0,iv ((List.length pf:Nat):Int),.agg (Za3 ⟨most,per,-2,0⟩)]) (args:=[.ptr id 0,iv ((List.length pf:Nat):Int),.agg (Za3 ⟨most,per,-2,0⟩)]) kr kr kr hc4) ZS.f)))) kr ?_
    cases h
    exact ⟨rfl,_,b2,cs4,H4,rfl,kr,hF4⟩
   cases h
   exact sk (⟨rfl,_,b2,cs2,H3,rfl,kr,hF3⟩)
  rintro s ⟨s4,b4,cs4,H4,rfl,rfl,hF4⟩
  exact sq (rgS ⟨[(4,bv false)],[],H4⟩ ZS.f kr (tq (rt (⟨[bv false],kr,false,s4,rfl,rfl,a2,b4,cs4,hF4⟩))))
 rcases q with _|s2
 ·dsimp only at h hq
  obtain ⟨rfl,hF3⟩:=hq
  cases h
  exact bp (tp (⟨rfl,rfl,hF3⟩))
 dsimp only at h hq
 obtain ⟨rfl,a2,b2,cs2,H3,rfl,hF3⟩:=hq
 cases h
 exact br (tr (⟨[bv true],kr,true,s2,rfl,rfl,a2,b2,cs2,hF3⟩))
theorem Zd9 (p:ZT)(fuel:Int):∀ N:Nat,ZhQ Try.prog p fuel (ZdB N p fuel)
 | 0=>λ_ _ _ _ _ _ _ _ _ _ h=>by cases h
 | N+1=>Zfl N (ZdB N p fuel) p fuel (Zd9 p fuel N)
theorem Zka (l:List ZY):((l.map dpC).map λr=>[PC.int .i64 r.1,.sl 4 false r.2])=l.map Zab:=by
 rw [List.map_map];rfl
abbrev ZiL (r:List Int×List ZY×Int) (rv:AV) (H':List HO):Prop :=
 ∃ x y b H2,rv=.tup [x,y,iv r.2.2]/\Z8 x=true/\Z8 y=true/\ZhW b H' H2/\ZcI H2 x=some (Zad false r.1)/\ZcI H2 y=some (Z1 false r.2.1)
theorem Zc0 (e:Int)(H:List HO):ZiL ([],[],e) (.tup [.p (.sl 1 true []),.p (.sl 2 true []),iv e]) H :=
 ⟨_,_,.any,H,rfl,rfl,rfl,ZiN _,rfl,rfl⟩
abbrev sH3:List HO:=[.cells [.p (.sl 1 true [])],.cells [.p (.sl 2 true [])],.cells [iv 0]]
abbrev sH5 (p:ZT) (fuel:Int):List HO:=sH3++[.lp mapL [] (.mp 3 []),.cells (Zaj p fuel (.p (.sl 1 true [])) (.p (.sl 2 true [])) 3)]
abbrev Zj1:List Zaw:=[.cel 2 [iv 0],.cel 1 [.p (.sl 2 true [])],.cel 0 [.p (.sl 1 true [])]]
theorem sF5 (p:ZT)(fuel:Int):Fp [] (sH5 p fuel) [] (ZaA p fuel 4 3 (.p (.sl 1 true [])) (.p (.sl 2 true [])) [] ([],[],[])++Zj1):=by
 have h0:Fp [] [] [] []:=Fp.refl (HP.any [])
 obtain ⟨_,_,rfl,rfl,h1⟩:=Fp.newCell h0 [.p (.sl 1 true [])]
 obtain ⟨_,_,rfl,rfl,h2⟩:=Fp.newCell h1 [.p (.sl 2 true [])]
 obtain ⟨_,_,rfl,rfl,h3⟩:=Fp.newCell h2 [iv 0]
 obtain ⟨_,_,rfl,rfl,h4⟩:=Fp.newMp h3 3
 obtain ⟨_,_,rfl,rfl,h5⟩:=Fp.newCell h4 (Zaj p fuel (.p (.sl 1 true [])) (.p (.sl 2 true [])) 3)
 exact Fp.pk (Fp.deepNil (Fp.nilArr h5 1 false) 4) [2,1,0,3,4,5,6] rfl
theorem raw3 {s:St}{H:List HO}{x y z:AV}(h4:get s.fr 4=.ptr 0 0)(h5:get s.fr 5=.ptr 1 0)(h6:get s.fr 6=.ptr 2 0)(g0:H[0]?=some (.cells [x]))(g1:H[1]?=some (.cells [y]))(g2:H[2]?=some (.cells [z]))
  (hx:ZbB x=true) (hy:ZbB y=true) (hz:ZbB z=true):rawL ⟨s.fr,s.bx,H⟩ d9.res=some [x,y,z]:=by
 show rawL _ [.cell 4 1 false,.cell 5 1 false,.cell 6 1 false]=_
 simp [rawL,rawV,h4,h5,h6,rd,g0,g1,g2,sub,mk]
theorem Zbn (N:Nat)(a0_:ZT)(a1_:Int)(r:List Int×List ZY×Int)(h:Zbt N a0_ a1_=some r):PCall Try.prog 9 [.agg (ZR a0_),iv a1_] (.tup [Zad false r.1,Z1 false r.2.1,iv r.2.2]):=by
 suffices hs:∃ rv H',Zbq Try.prog 9 [.agg (ZR a0_),iv a1_] [] rv H'/\ZiL r rv H' by
  obtain ⟨rv,H',h1,x,y,b,H2,rfl,hx,hy,h2,h3,h4⟩:=hs
  exact Zgy h1 rfl rfl h2 rfl (Zjp h3 h4 rfl)
 unfold Zbt at h
 refine Zho chk9 79 (ZiL r) (λrv H' q=>?_) rfl rfl ?_
 ·obtain ⟨x,y,b,H2,rfl,hx,hy,_⟩:=q
  simp [Z8,Z8.noLocL,hx,hy]
 refine pq1 (rgS ⟨[(1,iv a1_),(2,.loc 2 0),(4,.ptr 0 0),(5,.ptr 1 0),(6,.ptr 2 0)],[(2,ZR a0_)],sH3⟩ ZS.f kr (pn (pq1 (sq ?_))))
 obtain ⟨e1,he1,h⟩:=bs h
 refine rgS ⟨[(1,iv a1_),(2,.loc 2 0),(4,.ptr 0 0),(5,.ptr 1 0),(6,.ptr 2 0),(7,iv e1)],[(2,ZR a0_)],sH3⟩ (ZS.v 1 (ZaE (hc:=ZdH N a0_ e1 he1)) ZS.f) kr (tq (sq (rgS ⟨[(1,iv a1_),(2,.loc 2 0),(4,.ptr 0 0),(5,.ptr 1 0),(6,.ptr 2 0),(7,iv e1),(12,bv (e1 != 0))],[(2,ZR a0_)],sH3⟩ ZS.f kr (tq (it h (λhc h=>?_) (λhc h=>?_))))))
 ·cases h
  exact sq (rgS ⟨[(4,.ptr 0 0),(5,.ptr 1 0),(6,.ptr 2 0)],[],[.cells [.p (.sl 1 true [])],.cells [.p (.sl 2 true [])],.cells [iv e1]]⟩ ZS.f kr (tq (rt (pr (⟨[.p (.sl 1 true []),.p (.sl 2 true []),iv e1],by kernel_rfl,Zc0 e1 _⟩)))))
 refine sk (pn (pq1 (kq (sq (rgX ⟨[(1,iv a1_),(2,.loc 2 0),(4,.ptr 0 0),(5,.ptr 1 0),(6,.ptr 2 0),(19,bv ((decide (a1_<0))||(decide (a1_>1999))))],[(2,ZR a0_)],sH3⟩ ?_ ?_)))))
 ·rcases Bool.eq_false_or_eq_true (decide (a1_<0)) with hc|hc
  ·exact (EP.u 1 (ZZ (c:=(decide (a1_<0))) (h:=hc)) (EP.f (by simp only [hc];kernel_rfl)))
  exact (EP.u 1 (ZZ (c:=(decide (a1_<0))) (h:=hc)) (EP.f (by simp only [hc];kernel_rfl)))
 refine tq (it h (λhc h=>?_) (λhc h=>?_))
 ·cases h
  exact sq (rgS ⟨[(4,.ptr 0 0),(5,.ptr 1 0),(6,.ptr 2 0)],[],[.cells [.p (.sl 1 true [])],.cells [.p (.sl 2 true [])],.cells [iv 2]]⟩ ZS.f kr (tq (rt (pr (⟨[.p (.sl 1 true []),.p (.sl 2 true []),iv 2],by kernel_rfl,Zc0 2 _⟩)))))
 refine sk (pn (pq1 (kq (sq (rgS ⟨[(1,iv a1_),(2,.loc 2 0),(4,.ptr 0 0),(5,.ptr 1 0),(6,.ptr 2 0),(23,bv (((List.length a0_.Periods:Nat):Int)==0))],[(2,ZR a0_)],sH3⟩ (ZS.u 2 (Z7 (ys:=[Zad false a0_.Periods]) (h:=Zag eI64)) ZS.f) kr (tq (it h (λhc h=>?_) (λhc h=>?_))))))))
 ·cases h
  exact sq (rgS ⟨[(4,.ptr 0 0),(5,.ptr 1 0),(6,.ptr 2 0)],[],[.cells [.p (.sl 1 true [])],.cells [.p (.sl 2 true [])],.cells [iv 0]]⟩ ZS.f kr (tq (rt (pr (⟨[.p (.sl 1 true []),.p (.sl 2 true []),iv 0],by kernel_rfl,Zc0 0 _⟩)))))
 refine sk (pn (pk0 (⟨_,22,[.ptr 0 0,.ptr 1 0,.ptr 2 0],AK.z ZS.f,by kernel_rfl,rfl,?_⟩)))
 have hF5:=sF5 a0_ a1_
 refine sq (rgS ⟨[(4,.ptr 0 0),(5,.ptr 1 0),(6,.ptr 2 0),(8,.ptr 4 0)],[],sH5 a0_ a1_⟩ (ZS.h 2 (st_mkMap' (H:=sH3) (id:=3) (H':=sH3++[.lp mapL [] (.mp 3 [])]) 3 kr rfl rfl) (ZS.h 1 (Zdo (H:=sH3++[.lp mapL [] (.mp 3 [])]) (id:=4) (H':=sH5 a0_ a1_) (v:=.agg (Zaj a0_ a1_ (.p (.sl 1 true [])) (.p (.sl 2 true [])) 3)) kr kr kr rfl rfl) ZS.f)) kr (tq (sq (sq ?_))))
 obtain ⟨o,ho,h⟩:=bs h
 have hpre:HP (sH5 a0_ a1_) (ZaA a0_ a1_ 4 3 (.p (.sl 1 true [])) (.p (.sl 2 true [])) [] ([],[],[])):=Fp.tail (own:=[]) (Fp.pk hF5 [0,1,2,3] rfl)
 rcases Zd9 a0_ a1_ N ([],[],[]) 0 o 4 3 (.p (.sl 1 true [])) (.p (.sl 2 true [])) [] (sH5 a0_ a1_) hpre ho with ⟨t,s5,a5,b5,cs5,H6,rfl,hc6,hF6⟩|⟨H6,rfl,hc6,hF6⟩
 ·dsimp only at h
  replace hF6:Fp [] H6 [] (ZaA a0_ a1_ 4 3 a5 b5 cs5 s5++Zj1):=Fp.callee hF5 hF6
  have hlc:=Fp.get hF6 0 rfl
  refine Zkd (rgS ⟨[(4,.ptr 0 0),(5,.ptr 1 0),(6,.ptr 2 0),(8,.ptr 4 0),(31,bv t)],[],H6⟩ (ZS.v 1 (Zca (H:=sH5 a0_ a1_) (H1:=sH5 a0_ a1_) (ys:=[.ptr 4 0,iv 0]) (args:=[.ptr 4 0,iv 0]) kr kr kr hc6) ZS.f) kr (tq (it h (λhc h=>?_) (λhc h=>?_))))
  ·cases h
   have hfa:=Zev (Fp.get hF6 1 rfl)
   obtain ⟨H7,hw7,hF7⟩:=Fp.setCell (k:=6) (off:=0) (vs:=[a5]) (cs':=[a5]) hF6 rfl kr
   obtain ⟨H8,hw8,hF8⟩:=Fp.setCell (k:=5) (off:=0) (vs:=[.p (.sl 2 true [])]) (cs':=[.p (.sl 2 true [])]) hF7 rfl kr
   obtain ⟨H9,hw9,hF9⟩:=Fp.setCell (k:=4) (off:=0) (vs:=[iv 0]) (cs':=[iv 0]) hF8 rfl kr
   refine sq (rgS ⟨[(4,.ptr 0 0),(5,.ptr 1 0),(6,.ptr 2 0)],[],H9⟩ (ZS.u 3 (Zav (H:=H6) (id:=4) (off:=3) (cs:=Zaj a0_ a1_ a5 b5 3) (c:=[a5]) (r:=a5) kr kr hlc kr (by cases hfa<;>kernel_rfl) kr)
    (ZS.o (hm:=by cases hfa<;>kernel_rfl) 0 (ZaQ (H:=H6) (v:=a5) (cs:=[a5]) (p:=.ptr 0 0) (by cases hfa<;>kernel_rfl) (by cases hfa<;>kernel_rfl) (by cases hfa<;>kernel_rfl) (by cases hfa<;>kernel_rfl) (by cases hfa<;>kernel_rfl) hw7)
    (ZS.o (hm:=by cases hfa<;>kernel_rfl) 0 (ZaQ (H:=H7) (v:=.p (.sl 2 true [])) (cs:=[.p (.sl 2 true [])]) (p:=.ptr 1 0) kr (by cases hfa<;>kernel_rfl) (by cases hfa<;>kernel_rfl) (by cases hfa<;>kernel_rfl) kr hw8)
    (ZS.o (hm:=by cases hfa<;>kernel_rfl) 0 (ZaQ (H:=H8) (v:=iv 0) (cs:=[iv 0]) (p:=.ptr 2 0) kr (by cases hfa<;>kernel_rfl) (by cases hfa<;>kernel_rfl) (by cases hfa<;>kernel_rfl) kr hw9)
    (ZS.f (h:=by cases hfa<;>kernel_rfl)))))) (by cases hfa<;>kernel_rfl) ?_)
   refine tq (rt (tr ?_))
   have hpa:HP H9 [.arr a5 1 false (s5.2.1.map eI64)]:=hp1 (Fp.get hF9 1 rfl)
   refine ⟨.returning,.returning,H9,[a5,.p (.sl 2 true []),iv 0],.ret,ZeU Zkc rfl,raw3 (s:=⟨[(4,.ptr 0 0),(5,.ptr 1 0),(6,.ptr 2 0)],[],H9⟩) rfl rfl rfl (Fp.get hF9 6 rfl) (Fp.get hF9 5 rfl) (Fp.get hF9 4 rfl) (by cases hfa<;>rfl) rfl rfl,?_⟩
   exact ⟨a5,_,.any,H9,rfl,by cases hfa<;>rfl,rfl,ZiN _,(HP.pure (k:=0) eI64 hpa rfl).2,rfl⟩
  cases h
  refine sk (tq (kq (sq ?_)))
  have hfb:=ZgR (Fp.get hF6 2 rfl)
  obtain ⟨H7,hw7,hF7⟩:=Fp.setCell (k:=6) (off:=0) (vs:=[.p (.sl 1 true [])]) (cs':=[.p (.sl 1 true [])]) hF6 rfl kr
  obtain ⟨H8,hw8,hF8⟩:=Fp.setCell (k:=5) (off:=0) (vs:=[b5]) (cs':=[b5]) hF7 rfl kr
  obtain ⟨H9,hw9,hF9⟩:=Fp.setCell (k:=4) (off:=0) (vs:=[iv 4]) (cs':=[iv 4]) hF8 rfl kr
  refine rqS (hs:=kr) ⟨[(4,.ptr 0 0),(5,.ptr 1 0),(6,.ptr 2 0)],[],H9⟩ (ZS.u 3 (ZhC (H:=H6) (id:=4) (off:=4) (cs:=Zaj a0_ a1_ a5 b5 3) (c:=[b5]) (r:=b5) (zs:=[.t 4]) (vs:=[.ptr 0 0]) kr kr hlc kr (by cases hfb<;>kernel_rfl) kr kr rfl)
   (ZS.o (hm:=by cases hfb<;>kernel_rfl) 0 (ZhA (ZaQ (H:=H6) (v:=.p (.sl 1 true [])) (cs:=[.p (.sl 1 true [])]) (p:=.ptr 0 0) kr (by cases hfb<;>kernel_rfl) (by cases hfb<;>kernel_rfl) (by cases hfb<;>kernel_rfl) kr hw7) (by cases hfb<;>kernel_rfl))
   (ZS.o (hm:=by cases hfb<;>kernel_rfl) 0 (ZhA (ZaQ (H:=H7) (v:=b5) (cs:=[b5]) (p:=.ptr 1 0) (by cases hfb<;>kernel_rfl) (by cases hfb<;>kernel_rfl) (by cases hfb<;>kernel_rfl) (by cases hfb<;>kernel_rfl) (by cases hfb<;>kernel_rfl) hw8) (by cases hfb<;>kernel_rfl))
   (ZS.o (hm:=by cases hfb<;>kernel_rfl) 0 (ZhA (ZaQ (H:=H8) (v:=iv 4) (cs:=[iv 4]) (p:=.ptr 2 0) kr (by cases hfb<;>kernel_rfl) (by cases hfb<;>kernel_rfl) (by cases hfb<;>kernel_rfl) kr hw9) (by cases hfb<;>kernel_rfl))
   (ZS.f (h:=by cases hfb<;>kernel_rfl)))))) (by cases hfb<;>kernel_rfl) ?_
  refine tq (rt ?_)
  obtain ⟨a2,a0,a1⟩:=Fp.deepSeal (k:=2) hF9 rfl
  have hpb:HP a2 [.arr b5 2 false (s5.1.map Zab)]:=by
   have:=Fp.get a1 2 rfl
   rw [← Zka]
   exact hp1 this
  refine ⟨.returning,.returning,H9,[.p (.sl 1 true []),b5,iv 4],.ret,ZeU Zkc rfl,raw3 (s:=⟨[(4,.ptr 0 0),(5,.ptr 1 0),(6,.ptr 2 0)],[],H9⟩) rfl rfl rfl (Fp.get hF9 6 rfl) (Fp.get hF9 5 rfl) (Fp.get hF9 4 rfl) rfl (by cases hfb<;>rfl) rfl,?_⟩
  exact ⟨_,b5,b5,a2,rfl,rfl,by cases hfb<;>rfl,a0,rfl,(HP.pure (k:=0) Zab hpb rfl).2⟩
 dsimp only at h
 cases h
 replace hF6:Fp [] H6 [] ([]++Zj1):=Fp.callee hF5 hF6
 obtain ⟨H7,hw7,hF7⟩:=Fp.setCell (k:=2) (off:=0) (vs:=[.p (.sl 1 true [])]) (cs':=[.p (.sl 1 true [])]) hF6 rfl kr
 obtain ⟨H8,hw8,hF8⟩:=Fp.setCell (k:=1) (off:=0) (vs:=[.p (.sl 2 true [])]) (cs':=[.p (.sl 2 true [])]) hF7 rfl kr
 obtain ⟨H9,hw9,hF9⟩:=Fp.setCell (k:=0) (off:=0) (vs:=[iv 8]) (cs':=[iv 8]) hF8 rfl kr
 refine ZjU 1 _ rfl (AK.z ZS.f) ⟨trivial,_,_,_,[.ptr 4 0,iv 0],sH5 a0_ a1_,rfl,Pass.frz kr,hc6⟩ [4,5,6] (tp (tp (⟨_,_,H9,[.p (.sl 1 true []),.p (.sl 2 true []),iv 8],.panic,Zh2 (s':=⟨[(0,.ptr 0 0),(1,.ptr 1 0),(2,.ptr 2 0)],[],H9⟩) Zkc rfl ⟨⟨[(0,.ptr 0 0),(1,.ptr 1 0),(2,.ptr 2 0)],[],H7⟩,?_,⟨[(0,.ptr 0 0),(1,.ptr 1 0),(2,.ptr 2 0)],[],H8⟩,?_,_,?_,rfl⟩ rfl,raw3 kr kr kr (Fp.get hF9 2 rfl) (Fp.get hF9 1 rfl) (Fp.get hF9 0 rfl) rfl rfl rfl,Zc0 8 _⟩)))
 ·exact ZaQ (P:=Try.prog) (H:=H6) (v:=.p (.sl 1 true [])) (cs:=[.p (.sl 1 true [])]) (p:=.ptr 0 0) kr kr kr kr kr hw7
 ·exact ZaQ (P:=Try.prog) (H:=H7) (v:=.p (.sl 2 true [])) (cs:=[.p (.sl 2 true [])]) (p:=.ptr 1 0) kr kr kr kr kr hw8
 exact ZaQ (P:=Try.prog) (H:=H8) (v:=iv 8) (cs:=[iv 8]) (p:=.ptr 2 0) kr kr kr kr kr hw9
theorem Zap (N:Nat)(a0_:ZT)(a1_:Int)(a2_:(List Int))(r:Bool)(h:ZaZ N a0_ a1_ a2_=some r):PCall Try.prog 14 [.agg (ZR a0_),iv a1_,Zad false a2_] (bv r):=by
 unfold ZaZ at h
 have hH  := hp0
 refine ZaG ZoA rfl rfl (Zaf _ _ _ ?_) rfl
 refine sq (rg ZS.f (tq (sq ?_)))
 obtain ⟨r1,hr1,h⟩:=bs h
 refine rg (ZS.v 2 (ZaE (hc:=Zbn N a0_ a1_ r1 hr1)) ZS.f) (tq (sq ?_))
 obtain ⟨j7,hj,h⟩:=bs h
 refine rgR (λs=>s=⟨[(6,bv j7)],[],[]⟩) ?_ ?_
 ·clear h
  rcases Zak hj with ⟨hc2,hj⟩|⟨hc6,hj⟩
  ·refine (EP.u 1 (ZZ (c:=(r1.2.2==0)) (h:=hc2)) (EP.u 2 (Z7 (ys:=[Z1 false r1.2.1]) (h:=Zag Zab)) ?_))
   rcases Zak hj with ⟨hc3,hj⟩|⟨hc5,hj⟩
   ·refine (EP.u 0 (ZZ (c:=(((List.length r1.2.1:Nat):Int)==0)) (h:=hc3)) ?_)
    obtain ⟨r4,hr4,hj⟩:=bs hj
    obtain rfl:=Z4 hj
    exact (EP.v 4 (ZaE (hc:=Zcm N r1.1 a2_ r4 hr4)) (EP.f kr))
   obtain rfl:=Z4 hj
   exact (EP.u 0 (ZZ (c:=(((List.length r1.2.1:Nat):Int)==0)) (h:=hc5)) (EP.f kr))
  obtain rfl:=Z4 hj
  exact (EP.u 1 (ZZ (c:=(r1.2.2==0)) (h:=hc6)) (EP.f kr))
 clear hj
 rintro s hR
 obtain rfl:=hR
 refine tq (rt ?_)
 cases h
 exact Zay kr
theorem Zaq (N:Nat)(a0_:ZT)(a1_:Int)(a2_:Int)(r:Bool)(h:Za0 N a0_ a1_ a2_=some r):PCall Try.prog 15 [.agg (ZR a0_),iv a1_,iv a2_] (bv r):=by
 unfold Za0 at h
 have hH  := hp0
 refine ZaG Zoz rfl rfl (Zaf _ _ _ ?_) rfl
 refine sq (rg ZS.f (tq (sq ?_)))
 obtain ⟨r1,hr1,h⟩:=bs h
 refine rg (ZS.v 2 (ZaE (hc:=Zbn N a0_ a1_ r1 hr1)) ZS.f) (tq (sq (rgX ⟨[(6,bv ((r1.2.2==a2_)&&((((List.length r1.1:Nat):Int)==0)&&((decide (((List.length r1.2.1:Nat):Int)>0))==(r1.2.2==4)))))],[],[]⟩ ?_ ?_)))
 ·rcases Bool.eq_false_or_eq_true (r1.2.2==a2_) with hc2|hc5
  ·refine (EP.u 2 (ZZ (c:=(r1.2.2==a2_)) (h:=hc2)) (EP.u 2 (Z7 (ys:=[Zad false r1.1]) (h:=Zag eI64)) ?_))
   rcases Bool.eq_false_or_eq_true (((List.length r1.1:Nat):Int)==0) with hc3|hc4
   ·exact (EP.u 0 (ZZ (c:=(((List.length r1.1:Nat):Int)==0)) (h:=hc3)) (EP.u 3 (Z7 (ys:=[Z1 false r1.2.1]) (h:=Zag Zab)) (EP.f (by simp only [hc2,hc3];kernel_rfl))))
   exact (EP.u 0 (ZZ (c:=(((List.length r1.1:Nat):Int)==0)) (h:=hc4)) (EP.f (by simp only [hc2,hc4];kernel_rfl)))
  exact (EP.u 2 (ZZ (c:=(r1.2.2==a2_)) (h:=hc5)) (EP.f (by simp only [hc5];kernel_rfl)))
 refine tq (rt ?_)
 cases h
 exact Zay kr
theorem Zdl (N:Nat)(r:Bool)(h:Zdx N=some r):PCall Try.prog 13 [] (bv r):=by
 unfold Zdx at h
 have hH  := hp0
 refine ZaG ZoB rfl rfl (Zaf _ _ _ ?_) rfl
 refine sq (rg ZS.f (tq (sq ?_)))
 obtain ⟨r1,hr1,h⟩:=bs h
 obtain ⟨r2,hr2,h⟩:=bs h
 refine rg (ZS.v 0 (ZaE (hc:=ZbJ N 2 1 1 r1 hr1)) (ZS.v 0 (ZaE (hc:=ZbJ N 2 2 1 r2 hr2)) ZS.f)) (tq (sq ?_))
 obtain ⟨r3,hr3,h⟩:=bs h
 refine rg (ZS.v 1 (ZaE (hc:=Zbn N r2 2 r3 hr3)) ZS.f) (tq (sq (rg ZS.f (tq (sq ?_)))))
 obtain ⟨af,hj,h⟩:=bs h
 refine rgR (λs=>s=⟨[(0,bv af)],[],[]⟩) ?_ ?_
 ·clear h
  obtain ⟨r4,hr4,hj⟩:=bs hj
  rcases Zak hj with ⟨hc5,hj⟩|⟨a3,hj⟩
  ·refine (EP.h 2 (Zal kr (Zap N r1 9 ([0,2,3]) r4 hr4) hc5) ?_)
   obtain ⟨r6,hr6,hj⟩:=bs hj
   rcases Zak hj with ⟨hc7,hj⟩|⟨a4,hj⟩
   ·refine (EP.h 2 (Zal kr (Zaq N r1 1 8 r6 hr6) hc7) ?_)
    obtain ⟨r8,hr8,hj⟩:=bs hj
    rcases Zak hj with ⟨hc9,hj⟩|⟨a5,hj⟩
    ·refine (EP.h 4 (Zal kr (Zap N r1 2 ([0,2,3]) r8 hr8) hc9) ?_)
     rcases Zak hj with ⟨ab,hj⟩|⟨a6,hj⟩
     ·refine (EP.u 3 (ZZ (c:=(r3.2.2==4)) (h:=ab)) ?_)
      obtain ⟨ad,a1,hj⟩:=bs hj
      rcases Zak hj with ⟨aa,hj⟩|⟨a7,hj⟩
      ·refine (EP.h 4 (Zal kr (Zbg N r3.2.1 ([(ZY.mk 0 ([(Zam.mk 0 1 (-1) 1),(Zam.mk 1 4 (-2) 0)])),(ZY.mk 1 ([(Zam.mk 0 2 0 0),(Zam.mk 2 3 (-1) 2),(Zam.mk 3 4 0 0)])),(ZY.mk 2 ([(Zam.mk 0 2 0 0),(Zam.mk 2 4 1 0)]))]) ad a1) aa) ?_)
       obtain ⟨ac,a0,hj⟩:=bs hj
       rcases Zak hj with ⟨a9,hj⟩|⟨a8,hj⟩
       ·refine (EP.h 3 (Zal kr (Zaq N r2 1 8 ac a0) a9) ?_)
        obtain ⟨ae,a2,hj⟩:=bs hj
        obtain rfl:=Z4 hj
        exact (EP.v 3 (ZaE (hc:=Zaq N r2 2000 2 ae a2)) (EP.f kr))
       obtain rfl:=Z4 hj
       exact (EP.h 3 (Zal kr (Zaq N r2 1 8 ac a0) a8) (EP.f kr))
      obtain rfl:=Z4 hj
      exact (EP.h 4 (Zal kr (Zbg N r3.2.1 ([(ZY.mk 0 ([(Zam.mk 0 1 (-1) 1),(Zam.mk 1 4 (-2) 0)])),(ZY.mk 1 ([(Zam.mk 0 2 0 0),(Zam.mk 2 3 (-1) 2),(Zam.mk 3 4 0 0)])),(ZY.mk 2 ([(Zam.mk 0 2 0 0),(Zam.mk 2 4 1 0)]))]) ad a1) a7) (EP.f kr))
     obtain rfl:=Z4 hj
     exact (EP.u 3 (ZZ (c:=(r3.2.2==4)) (h:=a6)) (EP.f kr))
    obtain rfl:=Z4 hj
    exact (EP.h 4 (Zal kr (Zap N r1 2 ([0,2,3]) r8 hr8) a5) (EP.f kr))
   obtain rfl:=Z4 hj
   exact (EP.h 2 (Zal kr (Zaq N r1 1 8 r6 hr6) a4) (EP.f kr))
  obtain rfl:=Z4 hj
  exact (EP.h 2 (Zal kr (Zap N r1 9 ([0,2,3]) r4 hr4) a3) (EP.f kr))
 clear hj
 rintro s hR
 obtain rfl:=hR
 refine tq (rt ?_)
 cases h
 exact Zay kr
end Go.Sh

