/- Part of the proof. -/
import Derived.Test.YtddgnfnfojoljaaProofMadeOk1
set_option linter.all false
namespace Go.Sh
open Go Go.Eng Go.Proofs
set_option maxRecDepth 100000
set_option maxHeartbeats 4000000
attribute [local irreducible] vc ev ZeM opsD opsF Zgm upd updH updO
theorem Zlk {H:List HO}{f0:List ZaH}{H1:List HO}{a:AV}{u:Bool}{cs:List PC}{l:List Z4}(hF:Fp H H1 f0 [.deep a 4 u cs (l.map dpC)]):∃ H2,ZnL a H1 H2/\HP H2 [.arr a 2 false (l.map Zai)]:=by
 obtain ⟨H2,hs2,hF2⟩:=Fp.deepSeal (k:=0) hF rfl
 refine ⟨H2,hs2,?_⟩
 have:=hF2.now
 rw [Zns] at this
 exact this
theorem ZoP {Q:Exit->St->Prop}{H1:List HO}{f0:List ZaH}{a:AV}{u:Bool}{cs:List PC}{l:List Z4}{b:Zbe}(hF:Fp [] H1 f0 [.deep a 4 u cs (l.map dpC)])(hQ:∀ s:St,(∃ xs,resL s i17.res=some xs/\ZbZ xs=Z6 false l)->Q .ret s) :
  vc Try.prog i17.nt (Re Zqi [4] .ret) Q ⟨[(2,.loc 2 0),(5,a)],[(2,ZaF b)],H1⟩:=by
 have hfa:=ZdK (Fp.get hF 0 rfl)
 obtain ⟨H2,hs2,hF2⟩:=Zlk hF
 exact sq (rgS ⟨[(4,a)],[],H2⟩ (Z3.h (hm:=by cases hfa<;>kernel_rfl) 1 (Zje (H:=H1) (b:=a) (by cases hfa<;>kernel_rfl) (by cases hfa<;>kernel_rfl) (by cases hfa<;>rfl) hs2) (Z3.f (h:=by cases hfa<;>kernel_rfl))) (by cases hfa<;>kernel_rfl) (tq (rt (hQ _ (ZeF (H:=H2) (ys:=[a]) (xs:=[Z6 false l]) (by cases hfa<;>kernel_rfl) (by cases hfa<;>kernel_rfl) (ZbX (HP.pure (k:=0) (frz:=false) Zai hF2 rfl).2 ZcA) kr)))))
theorem Zn5 {Q:Exit->St->Prop}{H1:List HO}{f0:List ZaH}{a:AV}{u:Bool}{cs:List PC}{l:List Z4}{bx:List (Nat×List AV)}(hF:Fp [] H1 f0 [.deep a 4 u cs (l.map dpC)])(hbx:bx=[])(hQ:∀ s:St,(∃ xs,resL s i17.res=some xs/\ZbZ xs=Z6 false l)->Q .ret s) :
  vc Try.prog i17.nt (Re Zov [4] .ret) Q ⟨[(5,a)],bx,H1⟩:=by
 subst hbx
 have hfa:=ZdK (Fp.get hF 0 rfl)
 obtain ⟨H2,hs2,hF2⟩:=Zlk hF
 exact sq (rgS ⟨[(4,a)],[],H2⟩ (Z3.h (hm:=by cases hfa<;>kernel_rfl) 1 (Zje (H:=H1) (b:=a) (by cases hfa<;>kernel_rfl) (by cases hfa<;>kernel_rfl) (by cases hfa<;>rfl) hs2) (Z3.f (h:=by cases hfa<;>kernel_rfl))) (by cases hfa<;>kernel_rfl) (tq (rt (hQ _ (ZeF (H:=H2) (ys:=[a]) (xs:=[Z6 false l]) (by cases hfa<;>kernel_rfl) (by cases hfa<;>kernel_rfl) (ZbX (HP.pure (k:=0) (frz:=false) Zai hF2 rfl).2 ZcA) kr)))))
theorem ZdX {Q:Exit->St->Prop}{H1:List HO}{f0:List ZaH}{a:AV}{u:Bool}{cs:List PC}{l:List Z4}{bx:List (Nat×List AV)}(hF:Fp [] H1 f0 [.deep a 4 u cs (l.map dpC)])(hbx:bx=[])(hQ:∀ s:St,(∃ xs,resL s i17.res=some xs/\ZbZ xs=Z6 false l)->Q .ret s) :
  vc Try.prog i17.nt (Re Zou [4] .ret) Q ⟨[(5,a)],bx,H1⟩:=by
 subst hbx
 have hfa:=ZdK (Fp.get hF 0 rfl)
 obtain ⟨H2,hs2,hF2⟩:=Zlk hF
 exact sq (rgS ⟨[(4,a)],[],H2⟩ (Z3.h (hm:=by cases hfa<;>kernel_rfl) 1 (Zje (H:=H1) (b:=a) (by cases hfa<;>kernel_rfl) (by cases hfa<;>kernel_rfl) (by cases hfa<;>rfl) hs2) (Z3.f (h:=by cases hfa<;>kernel_rfl))) (by cases hfa<;>kernel_rfl) (tq (rt (hQ _ (ZeF (H:=H2) (ys:=[a]) (xs:=[Z6 false l]) (by cases hfa<;>kernel_rfl) (by cases hfa<;>kernel_rfl) (ZbX (HP.pure (k:=0) (frz:=false) Zai hF2 rfl).2 ZcA) kr)))))
theorem slHi {q v n:Nat}{k:Int}(h0:0<=k)(h1:k.toNat<=n):Zax (.slice 4 false true false) [.osl 4 q v 0 n,iv k]=some (.osl 4 q v 0 k.toNat):=by
 simp [Zax,ZdP,ZcH,h0,h1]
theorem slLo {H:List HO}{q v:Nat}{k:Int}{rows:List (List PC)}(hq:H[q]?=some (.arr 4 v false rows))(h0:0<=k)(h1:k.toNat<=rows.length) :
  ∃ y,Zax (.slice 4 true false false) [.osl 4 q v 0 rows.length,iv k]=some y/\ZgO y=true/\Zc2 H 4 y=some (rows.drop k.toNat)/\((∃ o l,y=.osl 4 q v o l)∨y=.p (.sl 4 false [])):=by
 by_cases h:k=0∨k.toNat<rows.length
 ·refine ⟨.osl 4 q v k.toNat (rows.length-k.toNat),?_,rfl,?_,.inl ⟨_,_,rfl⟩⟩
  ·have h':k.toNat=0∨k.toNat<rows.length:=by omega
   simp only [Zax,ZdP,ZcH,Z1,Z0 h0,ZS,Zf,ZY,ZR]
   rw [Z0 (by refine ⟨?_,?_,?_,?_,?_,?_⟩<;>first|rfl|trivial|exact h1|exact h' | omega)]
  simp only [Zc2,hq,and_self,Z1,sub]
  rw [Z0 (by omega)]
  congr 1
  exact List.take_of_length_le (by simp)
 have e:k.toNat=rows.length:=by omega
 refine ⟨.p (.sl 4 false []),?_,rfl,?_,.inr rfl⟩
 ·have hn:¬ (k.toNat=0∨k.toNat<rows.length):=by omega
  simp only [Zax,ZdP,ZcH,Z1,Z0 h0,ZS,Zf,ZY]
  rw [ZZ (λ⟨_,_,_,_,h,_⟩=>hn h),Z0 (by refine ⟨?_,?_,?_,?_,?_⟩<;>first|rfl|trivial|exact e)]
 rw [e,List.drop_length];rfl
theorem Zlh {α:Type}{l:List α}{i:Int}{x y:α}(h:idx l i=some x):idx (l.set i.toNat y) i=some y:=by
 obtain ⟨h0,h1,_⟩:=ZfU h
 unfold idx
 rw [Z0 h0,List.getElem?_set_self h1]
theorem Zg3 (N:Nat)(b_:Zbe)(a1_:List Z4)(r:List Z4)(h:ZcW N b_ a1_=some r):Zbr Try.prog 17 [.agg (ZaF b_),Z6 false a1_] (Z6 false r):=by
 unfold ZcW at h
 have hH  := hp0
 refine ZaI ZwF rfl rfl (Zat _ _ _ ?_) rfl
 refine sq (rg Z3.f (tq (sq (rg Z3.f (tq (sq (sq (rg Z3.f (tq (bk ?_))))))))))
 obtain ⟨o1,ho1,h⟩:=bs h
 refine Za0 ((ZaM (λ(x:Int×List Z4) s=>∃ (a1:AV) (cs:List PC) (H2:List HO),s=⟨[(1,Z6 false a1_),(2,.loc 2 0),(5,a1),(6,iv x.1)],[(2,ZaF b_)],H2⟩/\Fp [] H2 [] [.deep a1 4 true cs (x.2.map dpC)]) (λx:Int×List Z4=>Zbn a1_ x.1 x.2)
  (λ(p:List Z4) e s=>e=.exit 0/\∃ (a1:AV) (cs:List PC) (H2:List HO),s=⟨[(2,.loc 2 0),(5,a1)],[(2,ZaF b_)],H2⟩/\Fp [] H2 [] [.deep a1 4 true cs (p.map dpC)]) ?_ N _ o1 _ ho1 ⟨.p (.sl 2 true []),[],[],kr,Fp.deepNil (Fp.refl hH) 4⟩).mono ?_)
 ·clear h ho1
  rintro ⟨i3,l4⟩ o s h hR
  obtain ⟨a1,cs1,H1,rfl,hF1⟩:=hR
  have hfa1:=ZdK (Fp.get hF1 0 rfl)
  replace h:Zbn a1_ i3 l4=some o:=h
  unfold Zbn at h
  refine sq (sq (rgS ⟨[(1,Z6 false a1_),(2,.loc 2 0),(5,a1),(6,iv i3),(12,bv (decide (i3<((List.length a1_:Nat):Int))))],[(2,ZaF b_)],H1⟩ (Z3.u (hm:=by cases hfa1<;>kernel_rfl) 2 (Zac (ys:=[Z6 false a1_]) (by cases hfa1<;>kernel_rfl) (Zas Zai)) (Z3.f (h:=by cases hfa1<;>kernel_rfl))) (by cases hfa1<;>kernel_rfl) (tq (it h (λhc1 h=>?_) (λhc1 h=>?_) (hx:=by cases hfa1<;>kernel_rfl)))))
  ·refine sk (tq (kq (sq (bk ?_))))
   obtain ⟨e1,he1,h⟩:=bs h
   obtain ⟨l1,hl1,h⟩:=bs h
   obtain ⟨out,hout,h⟩:=bs h
   cases h
   obtain ⟨a2,H2,ha2,hF2⟩:=ZjL (sz:=4) Zaj hF1 hl1
   have hfa2:=Zbv (Fp.get hF2 0 rfl)
   obtain ⟨rfl,hb1,hb2⟩:=ZeX hout
   obtain ⟨c3,a3,H3,hrw,hap,hF3⟩:=Fp.deepApp (k:=1) (j:=0) (bytes:=32) hF2 rfl rfl (by decide) e1.Stream (by simpa using hb1) (by simpa using hb2)
   replace hF3:Fp [] H3 [] [.deep a3 4 true (cs1++[c3]) ((l4++[Z4.mk e1.Stream l1]).map dpC)]:=by
    have:=Fp.pick hF3 [1] rfl
    rw [ZJ]
    exact this
   have hfa3:=ZdK (Fp.get hF3 0 rfl)
   refine rqS (hs:=by cases hfa1<;>kernel_rfl) ⟨[(1,Z6 false a1_),(2,.loc 2 0),(5,a3),(6,iv i3)],[(2,ZaF b_)],H3⟩
    (Z3.u (hm:=by cases hfa1<;>kernel_rfl) 3 (Zac (ys:=[Z6 false a1_,iv i3]) (by cases hfa1<;>kernel_rfl) (Zae Zai he1))
    (Z3.u (hm:=by cases hfa1<;>kernel_rfl) 1 (ZaV (Zav (sz:=2) (off:=0) (cs:=[.int .i64 e1.Stream]) (r:=iv e1.Stream) Zai he1 (by cases hfa1<;>kernel_rfl) kr kr) (by cases hfa1<;>kernel_rfl))
    (Z3.u (hm:=by cases hfa1<;>kernel_rfl) 3 (Zac (ys:=[Z6 false a1_,iv i3]) (by cases hfa1<;>kernel_rfl) (Zae Zai he1))
    (Z3.u (hm:=by cases hfa1<;>kernel_rfl) 1 (ZaV (Zav (sz:=2) (off:=1) (cs:=[.sl 4 false (List.map Zaj e1.Arms)]) (r:=Zap false e1.Arms) Zai he1 (by cases hfa1<;>kernel_rfl) kr kr) (by cases hfa1<;>kernel_rfl))
    (Z3.h (hm:=by cases hfa1<;>kernel_rfl) 0 (Zo6 (ZdO (H:=H1) (a:=Zap true []) (b:=Zap false e1.Arms) (by cases hfa1<;>kernel_rfl) (by cases hfa1<;>kernel_rfl) (by cases hfa1<;>kernel_rfl) kr ha2) (by cases hfa1<;>kernel_rfl))
    (Z3.h (hm:=by cases hfa1<;>cases hfa2<;>kernel_rfl) 1 (ZkY (H:=H2) (ys:=[.agg [iv e1.Stream,a2]]) (by cases hfa1<;>cases hfa2<;>kernel_rfl) (by cases hfa1<;>cases hfa2<;>kernel_rfl) hrw rfl rfl)
    (Z3.h (hm:=by cases hfa1<;>cases hfa2<;>kernel_rfl) 0 (ZdO (H:=H2++[.arr 2 0 false [[.int .i64 e1.Stream,c3]]]) (a:=a1) (b:=.osl 2 H2.length 0 0 1) (by cases hfa1<;>cases hfa2<;>kernel_rfl) (by cases hfa1<;>cases hfa2<;>kernel_rfl) (by cases hfa1<;>cases hfa2<;>kernel_rfl) (ZhX _ _) hap) (Z3.f (h:=by cases hfa3<;>cases hfa1<;>cases hfa2<;>kernel_rfl)))))))))
    (by cases hfa3<;>cases hfa1<;>cases hfa2<;>kernel_rfl) ?_
   exact bn (tq (rgS ⟨[(1,Z6 false a1_),(2,.loc 2 0),(5,a3),(6,iv (w64 (i3+1)))],[(2,ZaF b_)],H3⟩ (Z3.f (h:=by cases hfa3<;>kernel_rfl)) (by cases hfa3<;>kernel_rfl) (⟨_,rfl,a3,_,H3,(by show _=_;cases hfa3<;>kernel_rfl),hF3⟩)))
  refine kq (xq (tx ?_))
  cases h
  exact ⟨_,rfl,rfl,a1,cs1,H1,(by show _=_;cases hfa1<;>kernel_rfl),hF1⟩
 rintro e s hq
 obtain ⟨rfl,a1,cs1,H1,rfl,hF1⟩:=hq
 clear ho1
 have hfa1:=ZdK (Fp.get hF1 0 rfl)
 refine bx (tq ?_)
 replace hF1:Fp [] H1 [] [.deep a1 4 true cs1 (o1.map dpC)]:=hF1
 generalize o1=out at h hF1
 refine sq (sq (rgS ⟨[(2,.loc 2 0),(5,a1),(33,bv (((List.length out:Nat):Int)==0))],[(2,ZaF b_)],H1⟩ (Z3.u (hm:=by cases hfa1<;>kernel_rfl) 1 (Zac (ys:=[a1]) (by cases hfa1<;>kernel_rfl) (ZeV (Fp.get hF1 0 rfl))) (Z3.f (h:=by cases hfa1<;>kernel_rfl))) (by cases hfa1<;>kernel_rfl) (tq (it h (λhc1 h=>?_) (λhc1 h=>?_) (hx:=by cases hfa1<;>kernel_rfl)))))
 ·have hqr:=Zao h
  subst hqr
  exact Eq.mp (congrArg _ (show ⟨[(2,.loc 2 0),(5,a1)],[(2,ZaF b_)],H1⟩=_ by cases hfa1<;>kernel_rfl)) (ZoP hF1 (λ_ hs=>tr hs))
 refine sk (tq (kq (sq ?_)))
 obtain ⟨c,hc,h⟩:=bs h
 obtain ⟨fc,hfc,h⟩:=bs h
 obtain ⟨id,ver,cc,bb,ha1,hcc,hbb,hidv,hfbb,hlbb,hr0,hr1,hr2⟩:=Zed (Fp.get hF1 0 rfl) (ZbH dpC hfc)
 clear hfa1
 subst ha1
 have hpb:HP H1 [.arr bb 4 false (fc.Arms.map Zaj)]:=hp1 hlbb
 have hle:=ZeV (Fp.get hF1 0 rfl)
 refine rgS ⟨[(2,.loc 2 0),(5,(.osl 2 id ver 0 (out.map dpC).length)),(7,.optr 2 id ver (0+c.toNat) 0)],[(2,ZaF b_)],H1⟩ (Z3.u 5 (Zac (ys:=[(.osl 2 id ver 0 (out.map dpC).length)]) (h:=hle)) (Z3.u 0 (Zac (ys:=[iv (w64 b_.Choice),iv ((List.length out:Nat):Int)]) (h:=Za3 hc)) (Z3.u 0 (Zac (ys:=[(.osl 2 id ver 0 (out.map dpC).length),iv c]) (h:=hidv .i64)) Z3.f))) kr (tq (sq ?_))
 obtain ⟨m,hm,h⟩:=bs h
 refine sq (rgX ⟨[(2,.loc 2 0),(5,(.osl 2 id ver 0 (out.map dpC).length)),(7,.optr 2 id ver (0+c.toNat) 0),(54,bv ((m==0)||(((List.length fc.Arms:Nat):Int)==0)))],[(2,ZaF b_)],H1⟩ ?_ ?_)
 ·refine EP.u 2 (Zac (ys:=[.p (.int .u8 b_.What),.p (.int .u8 8)]) (h:=Za3 hm)) ?_
  rcases Bool.eq_false_or_eq_true (m==0) with hc2|hc2
  ·exact EP.u 0 (Zad (c:=(m==0)) (h:=hc2)) (EP.f (by simp only [hc2];kernel_rfl))
  exact EP.u 0 (Zad (c:=(m==0)) (h:=hc2)) (EP.u (hm:=by cases hfbb<;>kernel_rfl) 4 (Zcj (H:=H1) (r:=bb) (p:=.optr 2 id ver (0+c.toNat) 1) (by cases hfbb<;>kernel_rfl) (by cases hfbb<;>kernel_rfl) hr1 (by cases hfbb<;>kernel_rfl) (by cases hfbb<;>kernel_rfl)) (EP.u (hm:=by cases hfbb<;>kernel_rfl) 0 (Zac (ys:=[bb]) (by cases hfbb<;>kernel_rfl) (HP.len (k:=0) (frz:=false) Zaj hpb rfl)) (EP.f (h:=by cases hfbb<;>kernel_rfl) (by simp only [hc2];cases hfbb<;>kernel_rfl))))
 refine tq (it h (λhc2 h=>?_) (λhc2 h=>?_))
 ·cases h
  obtain ⟨id3,ver3,H3,ha3,hw3,hF3⟩:=Fp.deepFst (k:=0) hF1 rfl (ZbH dpC hfc) b_.N_
  cases ha3
  replace hF3:Fp [] H3 [] [.deep (.osl 2 id ver 0 (out.map dpC).length) 4 true cs1 ((out.set c.toNat ⟨b_.N_,fc.Arms⟩).map dpC)]:=by
   rw [ZM]
   exact hF3
  exact sq (rgS ⟨[(5,(.osl 2 id ver 0 (out.map dpC).length))],[],H3⟩ (Z3.o 5 (ZbK (H:=H1) (v:=iv b_.N_) (cs:=[iv b_.N_]) (p:=.optr 2 id ver (0+c.toNat) 0) rfl kr kr kr rfl hw3) Z3.f) kr (tq (Zn5 hF3 rfl (λ_ hs=>tr hs))))
 refine sk (tq (kq (sq ?_)))
 obtain ⟨k,hk,h⟩:=bs h
 refine rqS ⟨[(2,.loc 2 0),(5,(.osl 2 id ver 0 (out.map dpC).length)),(7,.optr 2 id ver (0+c.toNat) 0),(8,iv k)],[(2,ZaF b_)],H1⟩ (Z3.u (hm:=by cases hfbb<;>kernel_rfl) 6 (ZaV (Zcj (H:=H1) (r:=bb) (p:=.optr 2 id ver (0+c.toNat) 1) (by cases hfbb<;>kernel_rfl) (by cases hfbb<;>kernel_rfl) hr1 (by cases hfbb<;>kernel_rfl) (by cases hfbb<;>kernel_rfl)) (by cases hfbb<;>kernel_rfl)) (Z3.u (hm:=by cases hfbb<;>kernel_rfl) 0 (Zac (ys:=[bb]) (by cases hfbb<;>kernel_rfl) (HP.len (k:=0) (frz:=false) Zaj hpb rfl)) (Z3.u (hm:=by cases hfbb<;>kernel_rfl) 0 (Zac (ys:=[iv (w64 b_.Arm),iv ((List.length fc.Arms:Nat):Int)]) (by cases hfbb<;>kernel_rfl) (Za3 hk)) (Z3.f (h:=by cases hfbb<;>kernel_rfl))))) (by cases hfbb<;>kernel_rfl) (tq (sq (sq (rgS ⟨[(2,.loc 2 0),(5,(.osl 2 id ver 0 (out.map dpC).length)),(7,.optr 2 id ver (0+c.toNat) 0),(8,iv k),(72,.p (.int .u8 m))],[(2,ZaF b_)],H1⟩ (Z3.u 2 (Zac (ys:=[.p (.int .u8 b_.What),.p (.int .u8 8)]) (h:=Za3 hm)) Z3.f) kr (tq (bk ?_))))))
 unfold Zdu at h
 refine sq (rgS ⟨[(2,.loc 2 0),(5,(.osl 2 id ver 0 (out.map dpC).length)),(7,.optr 2 id ver (0+c.toNat) 0),(8,iv k),(72,.p (.int .u8 m)),(79,bv (m==1))],[(2,ZaF b_)],H1⟩ Z3.f kr (tq (it h (λhc3 h=>?_) (λhc3 h=>?_))))
 ·obtain ⟨e,he,h⟩:=bs h
  cases h
  obtain ⟨id7,ver7,H7,hid7a,hid7v,hw7,hF7⟩:=Fp.deepRow (k:=0) (vs:=[iv b_.N_]) (off:=0) (e':=Zaj { e with From:=b_.N_ }) hF1 rfl (ZbH dpC hfc) hcc hbb (ZbH Zaj he) rfl rfl
  replace hF7:Fp [] H7 [] [.deep (.osl 2 id ver 0 (out.map dpC).length) 4 true cs1 ((out.set c.toNat ⟨fc.Stream,fc.Arms.set k.toNat { e with From:=b_.N_ }⟩).map dpC)]:=by
   rw [ZM]
   simp only [dpC,ZM]
   exact hF7
  exact rqS ⟨[(5,(.osl 2 id ver 0 (out.map dpC).length))],[],H7⟩ (Z3.u (hm:=by cases hfbb<;>kernel_rfl) 3 (ZaV (Zcj (H:=H1) (r:=bb) (p:=.optr 2 id ver (0+c.toNat) 1) (by cases hfbb<;>kernel_rfl) (by cases hfbb<;>kernel_rfl) hr1 (by cases hfbb<;>kernel_rfl) (by cases hfbb<;>kernel_rfl)) (by cases hfbb<;>kernel_rfl)) (Z3.u (hm:=by cases hfbb<;>kernel_rfl) 3 (Zac (ys:=[bb,iv k]) (by cases hfbb<;>kernel_rfl) (hid7v .i64)) (Z3.o (hm:=by cases hfbb<;>kernel_rfl) 1 (Zgv (ZbK (H:=H1) (v:=iv b_.N_) (cs:=[iv b_.N_]) (p:=.optr 4 id7 ver7 (0+k.toNat) 0) rfl (by cases hfbb<;>kernel_rfl) (by cases hfbb<;>kernel_rfl) (by cases hfbb<;>kernel_rfl) rfl hw7) (by cases hfbb<;>kernel_rfl)) (Z3.f (h:=by cases hfbb<;>kernel_rfl))))) (by cases hfbb<;>kernel_rfl) (bn (tq (kq (Eq.mp (congrArg _ (show ⟨[(5,(.osl 2 id ver 0 (out.map dpC).length))],[],H7⟩=_ by kernel_rfl)) (ZdX hF7 rfl (λ_ hs=>hs))))))
 refine sq (rgS ⟨[(2,.loc 2 0),(5,(.osl 2 id ver 0 (out.map dpC).length)),(7,.optr 2 id ver (0+c.toNat) 0),(8,iv k),(72,.p (.int .u8 m)),(90,bv (m==2))],[(2,ZaF b_)],H1⟩ Z3.f kr (tq (it h (λhc3 h=>?_) (λhc3 h=>?_))))
 ·obtain ⟨e,he,h⟩:=bs h
  cases h
  obtain ⟨id7,ver7,H7,hid7a,hid7v,hw7,hF7⟩:=Fp.deepRow (k:=0) (vs:=[iv b_.N_]) (off:=1) (e':=Zaj { e with To:=b_.N_ }) hF1 rfl (ZbH dpC hfc) hcc hbb (ZbH Zaj he) rfl rfl
  replace hF7:Fp [] H7 [] [.deep (.osl 2 id ver 0 (out.map dpC).length) 4 true cs1 ((out.set c.toNat ⟨fc.Stream,fc.Arms.set k.toNat { e with To:=b_.N_ }⟩).map dpC)]:=by
   rw [ZM]
   simp only [dpC,ZM]
   exact hF7
  exact rqS ⟨[(5,(.osl 2 id ver 0 (out.map dpC).length))],[],H7⟩ (Z3.u (hm:=by cases hfbb<;>kernel_rfl) 3 (ZaV (Zcj (H:=H1) (r:=bb) (p:=.optr 2 id ver (0+c.toNat) 1) (by cases hfbb<;>kernel_rfl) (by cases hfbb<;>kernel_rfl) hr1 (by cases hfbb<;>kernel_rfl) (by cases hfbb<;>kernel_rfl)) (by cases hfbb<;>kernel_rfl)) (Z3.u (hm:=by cases hfbb<;>kernel_rfl) 3 (Zac (ys:=[bb,iv k]) (by cases hfbb<;>kernel_rfl) (hid7v .i64)) (Z3.o (hm:=by cases hfbb<;>kernel_rfl) 1 (Zgv (ZbK (H:=H1) (v:=iv b_.N_) (cs:=[iv b_.N_]) (p:=.optr 4 id7 ver7 (0+k.toNat) 1) rfl (by cases hfbb<;>kernel_rfl) (by cases hfbb<;>kernel_rfl) (by cases hfbb<;>kernel_rfl) rfl hw7) (by cases hfbb<;>kernel_rfl)) (Z3.f (h:=by cases hfbb<;>kernel_rfl))))) (by cases hfbb<;>kernel_rfl) (bn (tq (kq (Eq.mp (congrArg _ (show ⟨[(5,(.osl 2 id ver 0 (out.map dpC).length))],[],H7⟩=_ by kernel_rfl)) (ZdX hF7 rfl (λ_ hs=>hs))))))
 refine sq (rgS ⟨[(2,.loc 2 0),(5,(.osl 2 id ver 0 (out.map dpC).length)),(7,.optr 2 id ver (0+c.toNat) 0),(8,iv k),(72,.p (.int .u8 m)),(101,bv (m==3))],[(2,ZaF b_)],H1⟩ Z3.f kr (tq (it h (λhc3 h=>?_) (λhc3 h=>?_))))
 ·obtain ⟨e,he,h⟩:=bs h
  cases h
  obtain ⟨id7,ver7,H7,hid7a,hid7v,hw7,hF7⟩:=Fp.deepRow (k:=0) (vs:=[iv b_.N_]) (off:=2) (e':=Zaj { e with By:=b_.N_ }) hF1 rfl (ZbH dpC hfc) hcc hbb (ZbH Zaj he) rfl rfl
  replace hF7:Fp [] H7 [] [.deep (.osl 2 id ver 0 (out.map dpC).length) 4 true cs1 ((out.set c.toNat ⟨fc.Stream,fc.Arms.set k.toNat { e with By:=b_.N_ }⟩).map dpC)]:=by
   rw [ZM]
   simp only [dpC,ZM]
   exact hF7
  exact rqS ⟨[(5,(.osl 2 id ver 0 (out.map dpC).length))],[],H7⟩ (Z3.u (hm:=by cases hfbb<;>kernel_rfl) 3 (ZaV (Zcj (H:=H1) (r:=bb) (p:=.optr 2 id ver (0+c.toNat) 1) (by cases hfbb<;>kernel_rfl) (by cases hfbb<;>kernel_rfl) hr1 (by cases hfbb<;>kernel_rfl) (by cases hfbb<;>kernel_rfl)) (by cases hfbb<;>kernel_rfl)) (Z3.u (hm:=by cases hfbb<;>kernel_rfl) 3 (Zac (ys:=[bb,iv k]) (by cases hfbb<;>kernel_rfl) (hid7v .i64)) (Z3.o (hm:=by cases hfbb<;>kernel_rfl) 1 (Zgv (ZbK (H:=H1) (v:=iv b_.N_) (cs:=[iv b_.N_]) (p:=.optr 4 id7 ver7 (0+k.toNat) 2) rfl (by cases hfbb<;>kernel_rfl) (by cases hfbb<;>kernel_rfl) (by cases hfbb<;>kernel_rfl) rfl hw7) (by cases hfbb<;>kernel_rfl)) (Z3.f (h:=by cases hfbb<;>kernel_rfl))))) (by cases hfbb<;>kernel_rfl) (bn (tq (kq (Eq.mp (congrArg _ (show ⟨[(5,(.osl 2 id ver 0 (out.map dpC).length))],[],H7⟩=_ by kernel_rfl)) (ZdX hF7 rfl (λ_ hs=>hs))))))
 refine sq (rgS ⟨[(2,.loc 2 0),(5,(.osl 2 id ver 0 (out.map dpC).length)),(7,.optr 2 id ver (0+c.toNat) 0),(8,iv k),(72,.p (.int .u8 m)),(112,bv (m==4))],[(2,ZaF b_)],H1⟩ Z3.f kr (tq (it h (λhc3 h=>?_) (λhc3 h=>?_))))
 ·obtain ⟨e,he,h⟩:=bs h
  cases h
  obtain ⟨id7,ver7,H7,hid7a,hid7v,hw7,hF7⟩:=Fp.deepRow (k:=0) (vs:=[iv b_.N_]) (off:=3) (e':=Zaj { e with Next:=b_.N_ }) hF1 rfl (ZbH dpC hfc) hcc hbb (ZbH Zaj he) rfl rfl
  replace hF7:Fp [] H7 [] [.deep (.osl 2 id ver 0 (out.map dpC).length) 4 true cs1 ((out.set c.toNat ⟨fc.Stream,fc.Arms.set k.toNat { e with Next:=b_.N_ }⟩).map dpC)]:=by
   rw [ZM]
   simp only [dpC,ZM]
   exact hF7
  exact rqS ⟨[(5,(.osl 2 id ver 0 (out.map dpC).length))],[],H7⟩ (Z3.u (hm:=by cases hfbb<;>kernel_rfl) 3 (ZaV (Zcj (H:=H1) (r:=bb) (p:=.optr 2 id ver (0+c.toNat) 1) (by cases hfbb<;>kernel_rfl) (by cases hfbb<;>kernel_rfl) hr1 (by cases hfbb<;>kernel_rfl) (by cases hfbb<;>kernel_rfl)) (by cases hfbb<;>kernel_rfl)) (Z3.u (hm:=by cases hfbb<;>kernel_rfl) 3 (Zac (ys:=[bb,iv k]) (by cases hfbb<;>kernel_rfl) (hid7v .i64)) (Z3.o (hm:=by cases hfbb<;>kernel_rfl) 1 (Zgv (ZbK (H:=H1) (v:=iv b_.N_) (cs:=[iv b_.N_]) (p:=.optr 4 id7 ver7 (0+k.toNat) 3) rfl (by cases hfbb<;>kernel_rfl) (by cases hfbb<;>kernel_rfl) (by cases hfbb<;>kernel_rfl) rfl hw7) (by cases hfbb<;>kernel_rfl)) (Z3.f (h:=by cases hfbb<;>kernel_rfl))))) (by cases hfbb<;>kernel_rfl) (bn (tq (kq (Eq.mp (congrArg _ (show ⟨[(5,(.osl 2 id ver 0 (out.map dpC).length))],[],H7⟩=_ by kernel_rfl)) (ZdX hF7 rfl (λ_ hs=>hs))))))
 refine sq (rgS ⟨[(2,.loc 2 0),(5,(.osl 2 id ver 0 (out.map dpC).length)),(7,.optr 2 id ver (0+c.toNat) 0),(8,iv k),(72,.p (.int .u8 m)),(123,bv (m==5))],[(2,ZaF b_)],H1⟩ Z3.f kr (tq (it h (λhc3 h=>?_) (λhc3 h=>?_))))
 ·obtain ⟨e,he,h⟩:=bs h
  obtain ⟨l6,hl6,h⟩:=bs h
  obtain ⟨l7,hl7,h⟩:=bs h
  cases h
  obtain ⟨hk0,hk1,_⟩:=ZfU he
  have hw:w64 (k+1)=k+1:=by
   split at hl7
   ·assumption
   cases hl7
  rw [Z0 hw] at hl7
  obtain rfl:=Zao hl7
  obtain ⟨rfl,hb1,hb2⟩:=ZeX hl6
  have hlm:((dpC fc).2).length=fc.Arms.length:=by simp [dpC]
  obtain ⟨q9,v9,id9,ver9,H9,hbq,hq9,ha9,hw9,hF9⟩:=Fp.deepCut (k:=0) (m:=k.toNat) (new:=(dpC fc).2.drop (k+1).toNat) hF1 rfl (ZbH dpC hfc) hcc hbb (by intro e0;rw [e0] at hlm;simp at hlm;omega) (by omega)
  cases ha9
  subst hbq
  have hk2:(k+1).toNat=k.toNat+1:=by omega
  have hdl:((dpC fc).2.drop (k+1).toNat).length=(fc.Arms.drop (k.toNat+1)).length:=by simp [dpC,hk2]
  have htl:(fc.Arms.take k.toNat).length=k.toNat:=by simp;omega
  obtain ⟨y,hy1,hy2,hy3,hy4⟩:=slLo (k:=k+1) hq9 (by omega) (by omega)
  replace hF9:Fp [] H9 [] [.deep (.osl 2 id ver 0 (out.map dpC).length) 4 true (cs1.set c.toNat (.ow 4 q9 (v9+2) (k.toNat+((dpC fc).2.drop (k+1).toNat).length))) ((out.set c.toNat ⟨fc.Stream,fc.Arms.take k.toNat++fc.Arms.drop (k.toNat+1)⟩).map dpC)]:=by
   rw [ZM]
   have e0:dpC ⟨fc.Stream,fc.Arms.take k.toNat++fc.Arms.drop (k.toNat+1)⟩=((dpC fc).1,(dpC fc).2.take k.toNat++(dpC fc).2.drop (k+1).toNat):=by simp [dpC,hk2,List.map_take,List.map_drop]
   rw [e0]
   exact hF9
  refine rqS ⟨[(5,(.osl 2 id ver 0 (out.map dpC).length))],[],H9⟩
   (Z3.u 4 (ZaV (Zcj (H:=H1) (r:=.osl 4 q9 v9 0 (dpC fc).2.length) (p:=.optr 2 id ver (0+c.toNat) 1) kr kr hr1 kr kr))
   (Z3.u 1 (Zac (ys:=[.osl 4 q9 v9 0 (dpC fc).2.length,iv k]) (h:=slHi hk0 (by omega)))
   (Z3.u 3 (ZaV (Zcj (H:=H1) (r:=.osl 4 q9 v9 0 (dpC fc).2.length) (p:=.optr 2 id ver (0+c.toNat) 1) kr kr hr1 kr kr))
   (Z3.u 2 (Zac (ys:=[.osl 4 q9 v9 0 (dpC fc).2.length,iv (w64 (k+1))]) (h:=hw.symm ▸ hy1))
   (Z3.h (hm:=by rcases hy4 with ⟨o,l,rfl⟩|rfl<;>kernel_rfl) 0 (ZoG (H:=H1) (m:=k.toNat) (by rcases hy4 with ⟨o,l,rfl⟩|rfl<;>kernel_rfl) (by rcases hy4 with ⟨o,l,rfl⟩|rfl<;>kernel_rfl) rfl (by rcases hy4 with ⟨o,l,rfl⟩|rfl<;>kernel_rfl) hy2 hy3 hq9 (by omega) (by rw [hdl];rw [htl] at hb1;exact hb1) (by rw [hdl];rw [htl] at hb2;exact hb2) rfl)
   (Z3.o (hm:=by rcases hy4 with ⟨o,l,rfl⟩|rfl<;>kernel_rfl) 2 (Zgv (ZbK (cs:=[.osl 4 q9 (v9+2) 0 (k.toNat+((dpC fc).2.drop (k+1).toNat).length)]) (v:=.osl 4 q9 (v9+2) 0 (k.toNat+((dpC fc).2.drop (k+1).toNat).length)) (p:=.optr 2 id ver (0+c.toNat) 1) rfl (by rcases hy4 with ⟨o,l,rfl⟩|rfl<;>kernel_rfl) (by rcases hy4 with ⟨o,l,rfl⟩|rfl<;>kernel_rfl) (by rcases hy4 with ⟨o,l,rfl⟩|rfl<;>kernel_rfl) rfl hw9) (by rcases hy4 with ⟨o,l,rfl⟩|rfl<;>kernel_rfl))
   (Z3.f (h:=by rcases hy4 with ⟨o,l,rfl⟩|rfl<;>kernel_rfl)))))))) (by rcases hy4 with ⟨o,l,rfl⟩|rfl<;>kernel_rfl) ?_
  exact bn (tq (kq (Eq.mp (congrArg _ (show ⟨[(5,(.osl 2 id ver 0 (out.map dpC).length))],[],H9⟩=_ by kernel_rfl)) (ZdX hF9 rfl (λ_ hs=>hs)))))
 refine sq (rgS ⟨[(2,.loc 2 0),(5,(.osl 2 id ver 0 (out.map dpC).length)),(7,.optr 2 id ver (0+c.toNat) 0),(8,iv k),(142,bv (m==6))],[(2,ZaF b_)],H1⟩ Z3.f kr (tq (it h (λhc3 h=>?_) (λhc3 h=>?_))))
 ·refine sq (rgS ⟨[(2,.loc 2 0),(5,(.osl 2 id ver 0 (out.map dpC).length)),(7,.optr 2 id ver (0+c.toNat) 0),(8,iv k),(151,bv (decide (w64 (k+1)<((List.length fc.Arms:Nat):Int))))],[(2,ZaF b_)],H1⟩ (Z3.u (hm:=by cases hfbb<;>kernel_rfl) 5 (Zcj (H:=H1) (r:=bb) (p:=.optr 2 id ver (0+c.toNat) 1) (by cases hfbb<;>kernel_rfl) (by cases hfbb<;>kernel_rfl) hr1 (by cases hfbb<;>kernel_rfl) (by cases hfbb<;>kernel_rfl)) (Z3.u (hm:=by cases hfbb<;>kernel_rfl) 0 (Zac (ys:=[bb]) (by cases hfbb<;>kernel_rfl) (HP.len (k:=0) (frz:=false) Zaj hpb rfl)) (Z3.f (h:=by cases hfbb<;>kernel_rfl)))) (by cases hfbb<;>kernel_rfl) (tq (it h (λhc4 h=>?_) (λhc4 h=>?_))))
  ·obtain ⟨e,he,h⟩:=bs h
   obtain ⟨e',he',h⟩:=bs h
   cases h
   obtain ⟨id7,ver7,H7,hid7a,hid7v,hw7,hF7⟩:=Fp.deepRow (k:=0) (vs:=[iv b_.N_]) (off:=1) (e':=Zaj { e with To:=b_.N_ }) hF1 rfl (ZbH dpC hfc) hcc hbb (ZbH Zaj he) rfl rfl
   replace hF7:Fp [] H7 [] [.deep (.osl 2 id ver 0 (out.map dpC).length) 4 true cs1 ((out.set c.toNat ⟨fc.Stream,fc.Arms.set k.toNat { e with To:=b_.N_ }⟩).map dpC)]:=by
    rw [ZM]
    simp only [dpC,ZM]
    exact hF7
   obtain ⟨id8,ver8,H8,hid8a,hid8v,hw8,hF8⟩:=Fp.deepRow (k:=0) (vs:=[iv b_.N_]) (off:=0) (e':=Zaj { e' with From:=b_.N_ }) hF7 rfl (ZbH dpC (Zlh hfc)) hcc hbb (ZbH Zaj he') rfl rfl
   replace hF8:Fp [] H8 [] [.deep (.osl 2 id ver 0 (out.map dpC).length) 4 true cs1 ((out.set c.toNat ⟨fc.Stream,(fc.Arms.set k.toNat { e with To:=b_.N_ }).set (w64 (k+1)).toNat { e' with From:=b_.N_ }⟩).map dpC)]:=by
    rw [ZM]
    simp only [dpC,ZM,List.set_set] at hF8 ⊢
    exact hF8
   refine rqS ⟨[(5,(.osl 2 id ver 0 (out.map dpC).length))],[],H8⟩ (Z3.u (hm:=by cases hfbb<;>kernel_rfl) 3 (ZaV (Zcj (H:=H1) (r:=bb) (p:=.optr 2 id ver (0+c.toNat) 1) (by cases hfbb<;>kernel_rfl) (by cases hfbb<;>kernel_rfl) hr1 (by cases hfbb<;>kernel_rfl) (by cases hfbb<;>kernel_rfl)) (by cases hfbb<;>kernel_rfl)) (Z3.u (hm:=by cases hfbb<;>kernel_rfl) 4 (ZaV (Zcj (H:=H1) (r:=bb) (p:=.optr 2 id ver (0+c.toNat) 1) (by cases hfbb<;>kernel_rfl) (by cases hfbb<;>kernel_rfl) hr1 (by cases hfbb<;>kernel_rfl) (by cases hfbb<;>kernel_rfl)) (by cases hfbb<;>kernel_rfl)) (Z3.u (hm:=by cases hfbb<;>kernel_rfl) 6 (Zac (ys:=[bb,iv k]) (by cases hfbb<;>kernel_rfl) (hid7v .i64)) (Z3.o (hm:=by cases hfbb<;>kernel_rfl) 1 (Zgv (ZbK (H:=H1) (v:=iv b_.N_) (cs:=[iv b_.N_]) (p:=.optr 4 id7 ver7 (0+k.toNat) 1) rfl (by cases hfbb<;>kernel_rfl) (by cases hfbb<;>kernel_rfl) (by cases hfbb<;>kernel_rfl) rfl hw7) (by cases hfbb<;>kernel_rfl))
    (Z3.u (hm:=by cases hfbb<;>kernel_rfl) 0 (Zac (ys:=[bb,iv (w64 (k+1))]) (by cases hfbb<;>kernel_rfl) (hid8v .i64)) (Z3.o (hm:=by cases hfbb<;>kernel_rfl) 1 (Zgv (ZbK (H:=H7) (v:=iv b_.N_) (cs:=[iv b_.N_]) (p:=.optr 4 id8 ver8 (0+(w64 (k+1)).toNat) 0) rfl (by cases hfbb<;>kernel_rfl) (by cases hfbb<;>kernel_rfl) (by cases hfbb<;>kernel_rfl) rfl hw8) (by cases hfbb<;>kernel_rfl)) (Z3.f (h:=by cases hfbb<;>kernel_rfl)))))))) (by cases hfbb<;>kernel_rfl) ?_
   exact bn (tq (kq (Eq.mp (congrArg _ (show ⟨[(5,(.osl 2 id ver 0 (out.map dpC).length))],[],H8⟩=_ by kernel_rfl)) (ZdX hF8 rfl (λ_ hs=>hs)))))
  have hqr:=Zao h
  subst hqr
  exact sk (bn (tq (kq (Eq.mp (congrArg _ (show ⟨[(5,(.osl 2 id ver 0 (out.map dpC).length))],[],H1⟩=_ by kernel_rfl)) (ZdX hF1 rfl (λ_ hs=>hs))))))
 obtain ⟨rfl,hb1,hb2⟩:=ZeX h
 obtain ⟨a3,H3,hrw,hap,hF3⟩:=Fp.deepDup (k:=0) (bytes:=32) hF1 rfl (ZbH dpC hfc) hcc hbb (by simpa using hb1) (by simpa using hb2)
 replace hF3:Fp [] H3 [] [.deep a3 4 false (cs1++[cc]) ((out++[fc]).map dpC)]:=by
  rw [ZJ]
  exact hF3
 have hfa3:=ZdK (Fp.get hF3 0 rfl)
 refine rgS ⟨[(5,a3)],[],H3⟩ (Z3.u (hm:=by cases hfbb<;>kernel_rfl) 3 (Zcj (H:=H1) (r:=.agg [iv fc.Stream,bb]) (p:=.optr 2 id ver (0+c.toNat) 0) (by cases hfbb<;>kernel_rfl) (by cases hfbb<;>kernel_rfl) hr2 (by cases hfbb<;>kernel_rfl) (by cases hfbb<;>kernel_rfl)) (Z3.h (hm:=by cases hfbb<;>kernel_rfl) 0 (ZkY (H:=H1) (ys:=[.agg [iv fc.Stream,bb]]) (by cases hfbb<;>kernel_rfl) (by cases hfbb<;>kernel_rfl) hrw rfl rfl)
  (Z3.h (hm:=by cases hfbb<;>kernel_rfl) 0 (ZdO (H:=H1++[.arr 2 0 false [[.int .i64 fc.Stream,cc]]]) (a:=(.osl 2 id ver 0 (out.map dpC).length)) (b:=.osl 2 H1.length 0 0 1) (by cases hfbb<;>kernel_rfl) (by cases hfbb<;>kernel_rfl) (by cases hfbb<;>kernel_rfl) (ZhX _ _) hap) (Z3.f (h:=by cases hfa3<;>cases hfbb<;>kernel_rfl))))) (by cases hfa3<;>cases hfbb<;>kernel_rfl) ?_
 exact bn (tq (kq (Eq.mp (congrArg _ (show ⟨[(5,a3)],[],H3⟩=_ by cases hfa3<;>kernel_rfl)) (ZdX hF3 rfl (λ_ hs=>hs)))))
theorem Zjs (N:Nat)(a0_:(List Int))(r:Int×Int)(h:Zdz N a0_=some r):Zbr Try.prog 37 [Zah false a0_] (.tup [iv r.1,iv r.2]):=by
 unfold Zdz at h
 have hH  := hp0
 refine ZaI Zws rfl rfl (Zat _ _ _ ?_) rfl
 refine sq (rg Z3.f (tq (sq ?_)))
 obtain ⟨l3,hl3,h⟩:=bs h
 obtain ⟨a1,H2,ha1,hH2,ha1b,hH⟩:=HP.make ZaR hH hl3
 replace hH:HP _ [.arr a1 3 false (List.map ZaR l3)]:=hH
 have hfa1:=Zbv (HP.get hH 0 rfl)
 refine rgS ⟨[(0,Zah false a0_),(4,a1)],[],H2⟩ (Z3.u 1 (Zac (ys:=[Zah false a0_]) (h:=Zas eI64)) (Z3.h 0 (ZkX (H:=[]) (zero:=[.int .i64 0,.int .i64 0,.int .i64 0]) (bytes:=24) kr kr kr ha1 hH2 ha1b) Z3.f)) (by cases hfa1<;>kernel_rfl) (tq (sq (sq (rgS ⟨[(4,a1),(10,Zah false a0_),(11,iv ((List.length a0_:Nat):Int)),(12,iv 0)],[],H2⟩ (Z3.u 1 (Zac (ys:=[Zah false a0_]) (h:=Zas eI64)) Z3.f) (by cases hfa1<;>kernel_rfl) (tq (bk ?_))))))
 obtain ⟨a5,ab,h⟩:=bs h
 refine Za0 ((ZaM (λ(x:Int×(List Zaa)) s=>∃ (a4:AV) (H5:List HO),s=⟨[(4,a4),(10,Zah false a0_),(11,iv ((List.length a0_:Nat):Int)),(12,iv x.1)],[],H5⟩/\HP H5 [.arr a4 3 false (List.map ZaR x.2)]) (λx:Int×(List Zaa)=>ZbY N a0_ x.1 x.2) (λ(p:(List Zaa)) e s=>e=.exit 0/\(∃ (a2:AV) (aa:List HO),s=⟨[(4,a2)],[],aa⟩/\HP aa [.arr a2 3 false (List.map ZaR p)])) ?_ N _ a5 _ ab ⟨a1,H2,(by show _=_;cases hfa1<;>kernel_rfl),(HP.pick hH [0] rfl)⟩).mono ?_)
 ·clear h ab
  rintro ⟨i6,l7⟩ o s h hR
  obtain ⟨a4,H5,rfl,hH⟩:=hR
  replace hH:HP _ [.arr a4 3 false (List.map ZaR l7)]:=hH
  have hfa4:=Zbv (HP.get hH 0 rfl)
  replace h:ZbY N a0_ i6 l7=some o:=h
  unfold ZbY at h
  refine sq (rgS ⟨[(4,a4),(10,Zah false a0_),(11,iv ((List.length a0_:Nat):Int)),(12,iv i6),(13,bv (decide (i6<((List.length a0_:Nat):Int))))],[],H5⟩ Z3.f (by cases hfa4<;>kernel_rfl) (tq (sq (it h (λaj h=>?_) (λaj h=>?_)))))
  ·refine sk (tq (kq (sq (bk (sq ?_)))))
   obtain ⟨a0,ad,h⟩:=bs h
   refine rgS ⟨[(4,a4),(5,iv i6),(6,iv a0),(10,Zah false a0_),(11,iv ((List.length a0_:Nat):Int)),(12,iv i6)],[],H5⟩ (Z3.u 1 (Zac (ys:=[Zah false a0_,iv i6]) (h:=Zae eI64 ad)) (Z3.u 0 (Zav (sz:=1) (off:=0) (cs:=[.int .i64 a0]) (r:=iv a0) eI64 ad) Z3.f)) (by cases hfa4<;>kernel_rfl) (tq ?_)
   obtain ⟨ap,ac,h⟩:=bs h
   obtain ⟨ao,al,_,a8,af,a9,a7⟩:=HP.elem (k:=0) (a:=a4) (sz:=3) (frz:=false) ZaR hH rfl ac
   obtain ⟨ag,ak,hH⟩:=HP.setRow (k:=0) (off:=0) (cs:=[iv a0,iv 0,iv 1]) (ps:=[.int .i64 a0,.int .i64 0,.int .i64 1]) (e':=(Zaa.mk a0 0 1)) ZaR hH rfl a9 af (a8 rfl) ac kr kr
   replace hH:HP _ [.arr a4 3 false (List.map ZaR (List.set l7 (Int.toNat i6) (Zaa.mk a0 0 1)))]:=hH
   refine rgS ⟨[(4,a4),(10,Zah false a0_),(11,iv ((List.length a0_:Nat):Int)),(12,iv i6)],[],ag⟩ (Z3.u 4 (Zac (ys:=[a4,iv i6]) (by cases hfa4<;>kernel_rfl) (a7 .i64)) (Z3.o 0 (ZcI (H:=H5) (v:=.agg [iv a0,iv 0,iv 1]) (hw:=ak)) Z3.f)) (by cases hfa4<;>kernel_rfl) (bn (tq (rgS ⟨[(4,a4),(10,Zah false a0_),(11,iv ((List.length a0_:Nat):Int)),(12,iv (w64 (i6+1)))],[],ag⟩ Z3.f (by cases hfa4<;>kernel_rfl) ?_)))
   cases h
   exact ⟨_,rfl,⟨a4,ag,(by show _=_;cases hfa4<;>kernel_rfl),(HP.pick hH [0] rfl)⟩⟩
  refine kq (xq (tx ?_))
  cases h
  exact ⟨_,rfl,rfl,⟨a4,H5,(by show _=_;cases hfa4<;>kernel_rfl),(HP.pick hH [0] rfl)⟩⟩
 rintro e s hq
 obtain ⟨rfl,hR⟩:=hq
 obtain ⟨a2,aa,rfl,hH⟩:=hR
 replace hH:HP _ [.arr a2 3 false (List.map ZaR a5)]:=hH
 have a3:=Zbv (HP.get hH 0 rfl)
 refine bx (tq (sq ?_))
 obtain ⟨ae,ai,h⟩:=bs h
 obtain ⟨an,am,a6,hH⟩:=HP.frz (k:=0) (a:=a2) (sz:=3) (frz:=false) ZaR hH rfl
 replace hH:HP _ [.arr a2 3 true (List.map ZaR a5)]:=hH
 refine rgS ⟨[(2,iv ae.1),(3,iv ae.2)],[],an⟩ (Z3.v 1 (Zji (H:=aa) (ys:=[a2]) (by cases a3<;>kernel_rfl) (by cases a3<;>kernel_rfl) (ZeS a6 ZjE) (ZgT N a5 ae ai)) Z3.f) kr ?_
 replace hH:HP _ []:=HP.pick hH [] rfl
 refine tq (rt ?_)
 cases h
 exact ZaD kr
theorem ZgV (N:Nat)(a0_:Zaa)(a1_:Zaa)(r:Bool×Int)(h:ZcL N a0_ a1_=some r):Zbr Try.prog 47 [.agg (Zbf a0_),.agg (Zbf a1_)] (.tup [bv r.1,iv r.2]):=by
 unfold ZcL at h
 have hH  := hp0
 refine ZaI Zwm rfl rfl (Zat _ _ _ ?_) rfl
 refine sq (rg Z3.f (tq (sq (sq ?_))))
 obtain ⟨r1,hr1,h⟩:=bs h
 refine rg (Z3.v 1 (ZaE (hc:=Zds N a0_ r1 hr1)) Z3.f) (tq (sq (rg Z3.f (tq (it h (λhc2 h=>?_) (λhc2 h=>?_))))))
 ·refine sq (rg Z3.f (tq (rt (tr ?_))))
  cases h
  exact ZaD kr
 refine sk (tq (kq (sq (sq ?_))))
 obtain ⟨r3,hr3,h⟩:=bs h
 refine rg (Z3.v 1 (ZaE (hc:=Zds N a1_ r3 hr3)) Z3.f) (tq (sq (rg Z3.f (tq (it h (λhc4 h=>?_) (λhc4 h=>?_))))))
 ·refine sq (rg Z3.f (tq (rt (tr ?_))))
  cases h
  exact ZaD kr
 refine sk (tq (kq (sq ?_)))
 obtain ⟨r5,hr5,h⟩:=bs h
 refine rg (Z3.v 2 (ZaE (hc:=ZgR N a0_ a1_ r5 hr5)) Z3.f) (tq (rt ?_))
 cases h
 exact ZaD kr
theorem ZfP (N:Nat)(a0_:Z5)(r:Int)(h:ZdA N a0_=some r):Zbr Try.prog 23 [.agg (Z2 a0_)] (iv r):=by
 unfold ZdA at h
 have hH  := hp0
 refine ZaI ZwB rfl rfl (Zat _ _ _ ?_) rfl
 refine sq (rg Z3.f (tq (sq (sq (rgX ⟨[(1,.loc 1 0),(19,bv ((decide (((List.length a0_.Periods:Nat):Int)>12))||(decide (((List.length a0_.Uses:Nat):Int)>192))))],[(1,(Z2 a0_))],[]⟩ ?_ ?_)))))
 ·refine (EP.u 2 (Zac (ys:=[Zah false a0_.Periods]) (h:=Zas eI64)) ?_)
  rcases Bool.eq_false_or_eq_true (decide (((List.length a0_.Periods:Nat):Int)>12)) with hc1|hc2
  ·exact (EP.u 0 (Zad (c:=(decide (((List.length a0_.Periods:Nat):Int)>12))) (h:=hc1)) (EP.f (by simp only [hc1];kernel_rfl)))
  exact (EP.u 0 (Zad (c:=(decide (((List.length a0_.Periods:Nat):Int)>12))) (h:=hc2)) (EP.u 3 (Zac (ys:=[Zab false a0_.Uses]) (h:=Zas ZaB)) (EP.f (by simp only [hc2];kernel_rfl))))
 refine tq (it h (λhc3 h=>?_) (λhc3 h=>?_))
 ·refine sq (rg Z3.f (tq (rt (tr ?_))))
  cases h
  exact ZaD kr
 refine sk (tq (kq (sq (sq (rg (Z3.u 2 (Zac (ys:=[Zah false a0_.Periods]) (h:=Zas eI64)) Z3.f) (tq (bk ?_)))))))
 obtain ⟨au,al,h⟩:=bs h
 refine Za0 ((ZaM (λ(x:Int) s=>s=⟨[(1,.loc 1 0),(21,Zah false a0_.Periods),(22,iv ((List.length a0_.Periods:Nat):Int)),(23,iv x)],[(1,(Z2 a0_))],[]⟩) (λx:Int=>Zcm N a0_ x) (λ(p:(Unit)⊕(Int)) e s=>match p with|(.inl p)=>e=.exit 0/\(s=⟨[(1,.loc 1 0)],[(1,(Z2 a0_))],[]⟩)|(.inr p)=>e=.ret/\∃ xs,resL s i23.res=some xs/\ZbZ xs=iv p) ?_ N _ au _ al kr).mono ?_)
 ·clear h al
  rintro i4 o s h hR
  obtain rfl:=hR
  replace h:Zcm N a0_ i4=some o:=h
  unfold Zcm at h
  refine sq (rg Z3.f (tq (sq (it h (λay h=>?_) (λay h=>?_)))))
  ·refine sk (tq (kq (sq (bk (sq ?_)))))
   obtain ⟨a6,am,h⟩:=bs h
   refine rg (Z3.u 0 (Zac (ys:=[Zah false a0_.Periods,iv i4]) (h:=Zae eI64 am)) (Z3.u 0 (Zav (sz:=1) (off:=0) (cs:=[.int .i64 a6]) (r:=iv a6) eI64 am) Z3.f)) (tq (sq (rgX ⟨[(1,.loc 1 0),(21,Zah false a0_.Periods),(22,iv ((List.length a0_.Periods:Nat):Int)),(23,iv i4),(32,bv ((decide (a6<1))||(decide (a6>240))))],[(1,(Z2 a0_))],[]⟩ ?_ ?_)))
   ·rcases Bool.eq_false_or_eq_true (decide (a6<1)) with ao|an
    ·exact (EP.u 1 (Zad (c:=(decide (a6<1))) (h:=ao)) (EP.f (by simp only [ao];kernel_rfl)))
    exact (EP.u 1 (Zad (c:=(decide (a6<1))) (h:=an)) (EP.f (by simp only [an];kernel_rfl)))
   refine tq (it h (λax h=>?_) (λax h=>?_))
   ·refine sq (rg Z3.f (tq (rt (br (tr ?_)))))
    cases h
    exact ⟨_,rfl,rfl,ZaD kr⟩
   refine sk (bn (tq (kq (rg Z3.f ?_))))
   cases h
   exact ⟨_,rfl,kr⟩
  refine kq (xq (tx ?_))
  cases h
  exact ⟨_,rfl,rfl,kr⟩
 rintro e s hq
 rcases au with aD|aA
 ·dsimp only at h hq
  obtain ⟨rfl,hR⟩:=hq
  obtain rfl:=hR
  refine bx (tq (sq (sq ?_)))
  obtain ⟨az,av,h⟩:=bs h
  refine rg (Z3.v 2 (ZaE (hc:=Zjs N a0_.Periods az av)) Z3.f) (tq (sq (rg Z3.f (tq (it h (λaw h=>?_) (λaw h=>?_))))))
  ·refine sq (rg Z3.f (tq (rt (tr ?_))))
   cases h
   exact ZaD kr
  refine sk (tq (kq (sq (sq (rg (Z3.u 2 (Zac (ys:=[Zab false a0_.Uses]) (h:=Zas ZaB)) Z3.f) (tq (bk ?_)))))))
  obtain ⟨ak,a7,h⟩:=bs h
  refine Za0 ((ZaM (λ(x:Int) s=>s=⟨[(1,.loc 1 0),(43,Zab false a0_.Uses),(44,iv ((List.length a0_.Uses:Nat):Int)),(45,iv x)],[(1,(Z2 a0_))],[]⟩) (λx:Int=>Zcl N a0_ x) (λ(p:(Unit)⊕(Int)) e s=>match p with|(.inl p)=>e=.exit 2/\(s=⟨[],[],[]⟩)|(.inr p)=>e=.ret/\∃ xs,resL s i23.res=some xs/\ZbZ xs=iv p) ?_ N _ ak _ a7 kr).mono ?_)
  ·clear h a7
   rintro aj o s h hR
   obtain rfl:=hR
   replace h:Zcl N a0_ aj=some o:=h
   unfold Zcl at h
   refine sq (rg Z3.f (tq (sq (it h (λar h=>?_) (λar h=>?_)))))
   ·refine sk (tq (kq (sq (bk (sq ?_)))))
    obtain ⟨a0,a9,h⟩:=bs h
    refine rg (Z3.u 0 (Zac (ys:=[Zab false a0_.Uses,iv aj]) (h:=Zae ZaB a9)) (Z3.u 0 (Zav (sz:=4) (off:=0) (cs:=[.int .i64 a0.Stream,.int .i64 a0.Port,.int .i64 a0.From,.int .i64 a0.Long]) (r:=.agg (ZaK a0)) ZaB a9) Z3.f)) (tq (sq (sq (rgX ⟨[(1,.loc 1 0),(8,.loc 8 0),(43,Zab false a0_.Uses),(44,iv ((List.length a0_.Uses:Nat):Int)),(45,iv aj),(69,bv ((decide (a0.Stream<0))||((decide (a0.Stream≥((List.length a0_.Periods:Nat):Int)))||((decide (a0.Port<0))||(decide (a0.Port≥48))))))],[(1,(Z2 a0_)),(8,(ZaK a0))],[]⟩ ?_ ?_))))
    ·rcases Bool.eq_false_or_eq_true (decide (a0.Stream<0)) with ai|a3
     ·exact (EP.u 2 (Zad (c:=(decide (a0.Stream<0))) (h:=ai)) (EP.f (by simp only [ai];kernel_rfl)))
     refine (EP.u 2 (Zad (c:=(decide (a0.Stream<0))) (h:=a3)) (EP.u 5 (Zac (ys:=[Zah false a0_.Periods]) (h:=Zas eI64)) ?_))
     rcases Bool.eq_false_or_eq_true (decide (a0.Stream≥((List.length a0_.Periods:Nat):Int))) with ag|a5
     ·exact (EP.u 0 (Zad (c:=(decide (a0.Stream≥((List.length a0_.Periods:Nat):Int)))) (h:=ag)) (EP.f (by simp only [a3,ag];kernel_rfl)))
     refine (EP.u 0 (Zad (c:=(decide (a0.Stream≥((List.length a0_.Periods:Nat):Int)))) (h:=a5)) ?_)
     rcases Bool.eq_false_or_eq_true (decide (a0.Port<0)) with af|ae
     ·exact (EP.u 4 (Zad (c:=(decide (a0.Port<0))) (h:=af)) (EP.f (by simp only [a3,a5,af];kernel_rfl)))
     exact (EP.u 4 (Zad (c:=(decide (a0.Port<0))) (h:=ae)) (EP.f (by simp only [a3,a5,ae];kernel_rfl)))
    refine tq (it h (λaq h=>?_) (λaq h=>?_))
    ·refine sq (rg Z3.f (tq (rt (tr (br (tr ?_))))))
     cases h
     exact ⟨_,rfl,rfl,ZaD kr⟩
    refine sk (tq (kq (sq ?_)))
    obtain ⟨a1,a8,h⟩:=bs h
    refine rg (Z3.u 4 (Zac (ys:=[Zah false a0_.Periods,iv a0.Stream]) (h:=Zae eI64 a8)) (Z3.u 0 (Zav (sz:=1) (off:=0) (cs:=[.int .i64 a1]) (r:=iv a1) eI64 a8) Z3.f)) (tq (sq (rgX ⟨[(1,.loc 1 0),(43,Zab false a0_.Uses),(44,iv ((List.length a0_.Uses:Nat):Int)),(45,iv aj),(95,bv ((decide (a0.From<0))||((decide (a0.From≥a1))||((decide (a0.Long<1))||(decide (a0.Long>a1))))))],[(1,(Z2 a0_))],[]⟩ ?_ ?_)))
    ·rcases Bool.eq_false_or_eq_true (decide (a0.From<0)) with ad|a2
     ·exact (EP.u 2 (Zad (c:=(decide (a0.From<0))) (h:=ad)) (EP.f (by simp only [ad];kernel_rfl)))
     refine (EP.u 2 (Zad (c:=(decide (a0.From<0))) (h:=a2)) ?_)
     rcases Bool.eq_false_or_eq_true (decide (a0.From≥a1)) with ac|a4
     ·exact (EP.u 4 (Zad (c:=(decide (a0.From≥a1))) (h:=ac)) (EP.f (by simp only [a2,ac];kernel_rfl)))
     refine (EP.u 4 (Zad (c:=(decide (a0.From≥a1))) (h:=a4)) ?_)
     rcases Bool.eq_false_or_eq_true (decide (a0.Long<1)) with ab|aa
     ·exact (EP.u 4 (Zad (c:=(decide (a0.Long<1))) (h:=ab)) (EP.f (by simp only [a2,a4,ab];kernel_rfl)))
     exact (EP.u 4 (Zad (c:=(decide (a0.Long<1))) (h:=aa)) (EP.f (by simp only [a2,a4,aa];kernel_rfl)))
    refine tq (it h (λap h=>?_) (λap h=>?_))
    ·refine sq (rg Z3.f (tq (rt (br (tr ?_)))))
     cases h
     exact ⟨_,rfl,rfl,ZaD kr⟩
    refine sk (bn (tq (kq (rg Z3.f ?_))))
    cases h
    exact ⟨_,rfl,kr⟩
   refine kq (xq (tx ?_))
   cases h
   exact ⟨_,rfl,rfl,kr⟩
  rintro e s hq
  rcases ak with aC|aB
  ·dsimp only at h hq
   obtain ⟨rfl,hR⟩:=hq
   obtain rfl:=hR
   refine bx (tq (sq (rg Z3.f (tq (rt ?_)))))
   cases h
   exact ZaD kr
  dsimp only at h hq
  obtain ⟨rfl,hq⟩:=hq
  refine br (tr ?_)
  cases h
  exact hq
 dsimp only at h hq
 obtain ⟨rfl,hq⟩:=hq
 refine br (tr ?_)
 cases h
 exact hq
theorem Zg0 (N:Nat)(a0_:Z5)(a1_:Int)(a2_:Int)(a3_:Int)(a4_:Int)(r:Bool)(h:ZcP N a0_ a1_ a2_ a3_ a4_=some r):Zbr Try.prog 36 [.agg (Z2 a0_),iv a1_,iv a2_,iv a3_,iv a4_] (bv r):=by
 unfold ZcP at h
 have hH  := hp0
 refine ZaI Zwt rfl rfl (Zat _ _ _ ?_) rfl
 refine sq ?_
 obtain ⟨id1,H2,hid1,hH2,hH⟩:=HP.newCell hH (Z2 a0_)
 replace hH:HP _ [.cel id1 (Z2 a0_)]:=hH
 obtain ⟨id3,H4,hid3,hH4,hH⟩:=HP.newCell hH [iv a2_]
 replace hH:HP _ [.cel id3 [iv a2_],.cel id1 (Z2 a0_)]:=hH
 obtain ⟨id5,H6,hid5,hH6,hH⟩:=HP.newCell hH [iv a4_]
 replace hH:HP _ [.cel id5 [iv a4_],.cel id3 [iv a2_],.cel id1 (Z2 a0_)]:=hH
 obtain ⟨id7,H8,hid7,hH8,hH⟩:=HP.newCell hH [bv false]
 replace hH:HP _ [.cel id7 [bv false],.cel id5 [iv a4_],.cel id3 [iv a2_],.cel id1 (Z2 a0_)]:=hH
 refine rgS ⟨[(1,iv a1_),(3,iv a3_),(5,.ptr id1 0),(7,.ptr id3 0),(9,.ptr id5 0),(10,.ptr id7 0)],[],H8⟩ (Z3.h 0 (Zfq (H:=[]) (v:=.agg (Z2 a0_)) (hid:=hid1) (hH:=hH2)) (Z3.h 0 (Zfq (H:=H2) (v:=iv a2_) (hid:=hid3) (hH:=hH4)) (Z3.h 0 (Zfq (H:=H4) (v:=iv a4_) (hid:=hid5) (hH:=hH6)) (Z3.h 0 (ZkW (H:=H6) kr hid7 hH8) Z3.f)))) kr (tq (sq (sq ?_)))
 have hlc9:=HP.get hH 3 rfl
 obtain ⟨a8,aA,h⟩:=bs h
 obtain ⟨a7,a6,a5,a4,ak,ao⟩:=Zjr N a0_ a1_ a3_ H8 a8 aA
 replace hH:HP _ [.cel a7 (Z2 a8.1),.cel a6 [iv a8.2.1],.cel a5 [iv a8.2.2],.cel id7 [bv false],.cel id5 [iv a4_],.cel id3 [iv a2_],.cel id1 (Z2 a0_)]:=HP.callee (fp:=[]) (rest:=[.cel id7 [bv false],.cel id5 [iv a4_],.cel id3 [iv a2_],.cel id1 (Z2 a0_)]) hH ao
 refine rgS ⟨[(5,.ptr id1 0),(7,.ptr id3 0),(9,.ptr id5 0),(10,.ptr id7 0),(18,.fn 54 [] [.ptr a7 0,.ptr a6 0,.ptr a5 0])],[],a4⟩ (Z3.u 0 (Zbk (H:=H8) (id:=id1) (off:=0) (cs:=(Z2 a0_)) (c:=(Z2 a0_)) (r:=.agg (Z2 a0_)) (hl:=hlc9)) (Z3.v 2 (Zjh (H:=H8) (ys:=[.agg (Z2 a0_),iv a1_,iv a3_]) kr kr kr ak) Z3.f)) kr (tq (bk ?_))
 obtain ⟨a0,ap,h⟩:=bs h
 have ab:∀ (a3:Zaz) (a2:Zaz) (s:(Bool)×Nat) (r:((Bool)×Nat)×Bool) (H:List HO) (its:List ZaH),(λ(s:(Bool)×Nat) (its:List ZaH)=>its=[.cel id7 [bv s.1],.cel id5 [iv a4_],.cel id3 [iv a2_],.cel id1 (Z2 a0_)]++[.lp (List.length a4) (lcOf Try.prog i36.nt [19,20] ZdS ZdR) [(5,.ptr id1 0),(7,.ptr id3 0),(9,.ptr id5 0),(10,.ptr id7 0)] (stAt [.ready,.done .ret] s.2)]) s its->HP H its->(λ(s:(Bool)×Nat) (a3:Zaz) (a2:Zaz)=>Zhg (λv:Bool=>Za6 N a0_ a2_ a4_ v a3 a2) s) s a3 a2=some r->∃ H' its',Zlt Try.prog (List.length a4) [.agg (ZaK a3),.agg (ZaK a2)] H r.2 H'/\(λ(s:(Bool)×Nat) (its:List ZaH)=>its=[.cel id7 [bv s.1],.cel id5 [iv a4_],.cel id3 [iv a2_],.cel id1 (Z2 a0_)]++[.lp (List.length a4) (lcOf Try.prog i36.nt [19,20] ZdS ZdR) [(5,.ptr id1 0),(7,.ptr id3 0),(9,.ptr id5 0),(10,.ptr id7 0)] (stAt [.ready,.done .ret] s.2)]) r.1 its'/\Fp H H' its its':=by
  clear h
  intro a3 a2 s r ag its hT hH h
  obtain ⟨h0,q,hb,rfl⟩:=ZkU h
  clear h
  obtain ⟨vs,e⟩:=s
  obtain rfl:e=0:=h0
  obtain ⟨b18,rfl⟩:∃ v,v=vs:=⟨vs,rfl⟩
  obtain rfl:=hT
  replace h:Za6 N a0_ a2_ a4_ b18 a3 a2=some q:=hb
  clear hb
  unfold Za6 at h
  replace hH:Fp _ _ _ [.cel id7 [bv b18],.cel id5 [iv a4_],.cel id3 [iv a2_],.cel id1 (Z2 a0_),.lp (List.length a4) (lcOf Try.prog i36.nt [19,20] ZdS ZdR) [(5,.ptr id1 0),(7,.ptr id3 0),(9,.ptr id5 0),(10,.ptr id7 0)] .ready]:=Fp.refl hH
  suffices hs:∃ H',Zlt Try.prog (List.length a4) [.agg (ZaK a3),.agg (ZaK a2)] ag (q.2==0) H'/\∃ its',(λ(s:(Bool)×Nat) (its:List ZaH)=>its=[.cel id7 [bv s.1],.cel id5 [iv a4_],.cel id3 [iv a2_],.cel id1 (Z2 a0_)]++[.lp (List.length a4) (lcOf Try.prog i36.nt [19,20] ZdS ZdR) [(5,.ptr id1 0),(7,.ptr id3 0),(9,.ptr id5 0),(10,.ptr id7 0)] (stAt [.ready,.done .ret] s.2)]) q its'/\Fp ag H' [.cel id7 [bv b18],.cel id5 [iv a4_],.cel id3 [iv a2_],.cel id1 (Z2 a0_),.lp (List.length a4) (lcOf Try.prog i36.nt [19,20] ZdS ZdR) [(5,.ptr id1 0),(7,.ptr id3 0),(9,.ptr id5 0),(10,.ptr id7 0)] .ready] its' by
   obtain ⟨H',h1,its',h2,h3⟩:=hs
   exact ⟨H',its',h1,h2,h3⟩
  refine ZmB (id:=(List.length a4)) (args:=[.agg (ZaK a3),.agg (ZaK a2)]) (H:=ag) (n:=i36.nt) (ps:=[19,20]) (fr0:=[(5,.ptr id1 0),(7,.ptr id3 0),(9,.ptr id5 0),(10,.ptr id7 0)]) (ia:=ZdS) (ib:=ZdR) (q.2==0) (λH'=>∃ its',(λ(s:(Bool)×Nat) (its:List ZaH)=>its=[.cel id7 [bv s.1],.cel id5 [iv a4_],.cel id3 [iv a2_],.cel id1 (Z2 a0_)]++[.lp (List.length a4) (lcOf Try.prog i36.nt [19,20] ZdS ZdR) [(5,.ptr id1 0),(7,.ptr id3 0),(9,.ptr id5 0),(10,.ptr id7 0)] (stAt [.ready,.done .ret] s.2)]) q its'/\Fp ag H' [.cel id7 [bv b18],.cel id5 [iv a4_],.cel id3 [iv a2_],.cel id1 (Z2 a0_),.lp (List.length a4) (lcOf Try.prog i36.nt [19,20] ZdS ZdR) [(5,.ptr id1 0),(7,.ptr id3 0),(9,.ptr id5 0),(10,.ptr id7 0)] .ready] its') (Fp.get hH 4 rfl) rfl (by decide +kernel) rfl ?_
  show vc _ _ _ _ ⟨[(5,.ptr id1 0),(7,.ptr id3 0),(9,.ptr id5 0),(10,.ptr id7 0),(19,.agg (ZaK a3)),(20,.agg (ZaK a2))],[],ag⟩
  refine sq (rgS ⟨[(5,.ptr id1 0),(7,.ptr id3 0),(9,.ptr id5 0),(10,.ptr id7 0),(11,.loc 11 0),(20,.agg (ZaK a2))],[(11,(ZaK a3))],ag⟩ Z3.f kr (tq (rgS ⟨[(5,.ptr id1 0),(7,.ptr id3 0),(9,.ptr id5 0),(10,.ptr id7 0),(11,.loc 11 0),(12,.loc 12 0)],[(11,(ZaK a3)),(12,(ZaK a2))],ag⟩ Z3.f kr (ZoV (k:=4) hH rfl ?_))))
  intro a1 hH
  replace hH:Fp _ _ _ [.cel id7 [bv b18],.cel id5 [iv a4_],.cel id3 [iv a2_],.cel id1 (Z2 a0_),.lp (List.length a4) (lcOf Try.prog i36.nt [19,20] ZdS ZdR) [(5,.ptr id1 0),(7,.ptr id3 0),(9,.ptr id5 0),(10,.ptr id7 0)] .busy]:=hH
  show vc _ _ _ _ ⟨[(5,.ptr id1 0),(7,.ptr id3 0),(9,.ptr id5 0),(10,.ptr id7 0),(11,.loc 11 0),(12,.loc 12 0)],[(11,(ZaK a3)),(12,(ZaK a2))],a1⟩
  refine bk (sq (sq (rgS ⟨[(5,.ptr id1 0),(7,.ptr id3 0),(9,.ptr id5 0),(10,.ptr id7 0),(11,.loc 11 0),(12,.loc 12 0),(23,bv ((a3.Stream==a2.Stream)&&((a3.Port==a2.Port)&&((a3.From==a2.From)&&((a3.Long==a2.Long)&&true)))))],[(11,(ZaK a3)),(12,(ZaK a2))],a1⟩ Z3.f kr (tq (it h (λav h=>?_) (λav h=>?_))))))
  ·refine sq ?_
   obtain ⟨aC,ay,hH⟩:=Fp.setCell (k:=0) (off:=0) (cs:=[bv b18]) (vs:=[bv true]) (cs':=[bv true]) hH rfl kr
   replace hH:Fp _ _ _ [.cel id7 [bv true],.cel id5 [iv a4_],.cel id3 [iv a2_],.cel id1 (Z2 a0_),.lp (List.length a4) (lcOf Try.prog i36.nt [19,20] ZdS ZdR) [(5,.ptr id1 0),(7,.ptr id3 0),(9,.ptr id5 0),(10,.ptr id7 0)] .busy]:=hH
   refine rgS ⟨[],[],aC⟩ (Z3.o 0 (ZcI (H:=a1) (v:=bv true) (hw:=ay)) Z3.f) kr (tq (rt (tr (br ?_))))
   cases h
   exact rbd (k:=4) (.done .ret) hH rfl rfl (λH6 hH=>⟨_,(Eq.refl _),(Fp.pick hH [0,1,2,3,4] rfl)⟩)
  refine sk (tq (kq (sq ?_)))
  have af:=Fp.get hH 3 rfl
  have ae:=Fp.get hH 2 rfl
  obtain ⟨aj,an,h⟩:=bs h
  have ad:=Fp.get hH 3 rfl
  have ac:=Fp.get hH 1 rfl
  obtain ⟨ai,am,h⟩:=bs h
  obtain ⟨aa,al,h⟩:=bs h
  refine rqS ⟨[(10,.ptr id7 0),(13,bv aa.1)],[],a1⟩ (Z3.u 0 (ZaV (Zbk (H:=a1) (id:=id1) (off:=0) (cs:=(Z2 a0_)) (c:=(Z2 a0_)) (r:=.agg (Z2 a0_)) (hl:=af))) (Z3.u 1 (ZaV (Zbk (H:=a1) (id:=id3) (off:=0) (cs:=[iv a2_]) (c:=[iv a2_]) (r:=iv a2_) (hl:=ae))) (Z3.u 0 (ZfI (hc:=Zeu N a0_ a3 a2_ aj an)) (Z3.u 0 (ZaV (Zbk (H:=a1) (id:=id1) (off:=0) (cs:=(Z2 a0_)) (c:=(Z2 a0_)) (r:=.agg (Z2 a0_)) (hl:=ad))) (Z3.u 1 (ZaV (Zbk (H:=a1) (id:=id5) (off:=0) (cs:=[iv a4_]) (c:=[iv a4_]) (r:=iv a4_) (hl:=ac))) (Z3.v 0 (ZaE (hc:=Zeu N a0_ a2 a4_ ai am)) (Z3.v 0 (ZaE (hc:=ZgV N aj ai aa al)) Z3.f))))))) kr (tq (sq (rgS ⟨[(10,.ptr id7 0),(37,bv (!aa.1))],[],a1⟩ Z3.f kr (tq (it h (λau h=>?_) (λau h=>?_))))))
  ·refine sq ?_
   obtain ⟨aB,ax,hH⟩:=Fp.setCell (k:=0) (off:=0) (cs:=[bv b18]) (vs:=[bv true]) (cs':=[bv true]) hH rfl kr
   replace hH:Fp _ _ _ [.cel id7 [bv true],.cel id5 [iv a4_],.cel id3 [iv a2_],.cel id1 (Z2 a0_),.lp (List.length a4) (lcOf Try.prog i36.nt [19,20] ZdS ZdR) [(5,.ptr id1 0),(7,.ptr id3 0),(9,.ptr id5 0),(10,.ptr id7 0)] .busy]:=hH
   refine rgS ⟨[],[],aB⟩ (Z3.o 0 (ZcI (H:=a1) (v:=bv true) (hw:=ax)) Z3.f) kr (tq (rt (br ?_)))
   cases h
   exact rbd (k:=4) (.done .ret) hH rfl rfl (λH6 hH=>⟨_,(Eq.refl _),(Fp.pick hH [0,1,2,3,4] rfl)⟩)
  refine sk (bn ?_)
  cases h
  exact rbd (k:=4) (.ready) hH rfl rfl (λH6 hH=>⟨_,(Eq.refl _),(Fp.pick hH [0,1,2,3,4] rfl)⟩)
 refine ZnT (s:=⟨[(5,.ptr id1 0),(7,.ptr id3 0),(9,.ptr id5 0),(10,.ptr id7 0),(18,.fn 54 [] [.ptr a7 0,.ptr a6 0,.ptr a5 0])],[],a4⟩) [(5,.ptr id1 0),(7,.ptr id3 0),(9,.ptr id5 0),(10,.ptr id7 0)] (FrOK.cons kr kr (FrOK.cons kr kr (FrOK.cons kr kr (FrOK.cons kr kr FrOK.nil)))) kr (λH=>rfl) (capT:=[.cel a7 (Z2 a8.1),.cel a6 [iv a8.2.1],.cel a5 [iv a8.2.2]]) (cells0:=[.cel id7 [bv false],.cel id5 [iv a4_],.cel id3 [iv a2_],.cel id1 (Z2 a0_)]) (rest:=[]) (HP.now (HP.pick hH [0,1,2,3,4,5,6] rfl)) (λ(s:(Bool)×Nat) (its:List ZaH)=>its=[.cel id7 [bv s.1],.cel id5 [iv a4_],.cel id3 [iv a2_],.cel id1 (Z2 a0_)]++[.lp (List.length a4) (lcOf Try.prog i36.nt [19,20] ZdS ZdR) [(5,.ptr id1 0),(7,.ptr id3 0),(9,.ptr id5 0),(10,.ptr id7 0)] (stAt [.ready,.done .ret] s.2)]) (false,0) a0 (by exact (Eq.refl _)) (λH its hT hH=>ZhH N (λ(s:(Bool)×Nat) (a3:Zaz) (a2:Zaz)=>Zhg (λv:Bool=>Za6 N a0_ a2_ a4_ v a3 a2) s) a8.1 a8.2.1 a8.2.2 (false,0) a7 a6 a5 (List.length a4) (λ(s:(Bool)×Nat) (its:List ZaH)=>its=[.cel id7 [bv s.1],.cel id5 [iv a4_],.cel id3 [iv a2_],.cel id1 (Z2 a0_)]++[.lp (List.length a4) (lcOf Try.prog i36.nt [19,20] ZdS ZdR) [(5,.ptr id1 0),(7,.ptr id3 0),(9,.ptr id5 0),(10,.ptr id7 0)] (stAt [.ready,.done .ret] s.2)]) ab H its hT hH a0 ap) ?_
 rintro its hT
 obtain rfl:=hT
 refine ⟨_,_,rfl,?_⟩
 intro a9 hF
 replace hH:HP _ [.cel a7 (Z2 a8.1),.cel a6 [iv a8.2.1],.cel a5 [iv a8.2.2],.cel id7 [bv a0.1],.cel id5 [iv a4_],.cel id3 [iv a2_],.cel id1 (Z2 a0_)]:=HP.after (HP.pick hH [0,1,2,3,4,5,6] rfl) hF
 rcases ZaJ h with ⟨ar,h⟩|⟨_,h⟩
 ·refine Zm1 (S:=⟨[(5,.ptr id1 0),(7,.ptr id3 0),(9,.ptr id5 0),(10,.ptr id7 0),(18,.fn 54 [] [.ptr a7 0,.ptr a6 0,.ptr a5 0])],[],a9⟩) (e:=.normal) ar rfl (bn (tq (kq ?_)))
  replace hH:HP _ [.cel id7 [bv a0.1]]:=HP.pick hH [3] rfl
  refine sq ?_
  obtain ⟨az,aw,hH⟩:=HP.setCell (k:=0) (off:=0) (cs:=[bv a0.1]) (vs:=[bv false]) (cs':=[bv false]) hH rfl kr
  replace hH:HP _ [.cel id7 [bv false]]:=hH
  refine rgS ⟨[(10,.ptr id7 0)],[],az⟩ (Z3.o 0 (ZcI (H:=a9) (v:=bv false) (hw:=aw)) Z3.f) kr (tq (rt ?_))
  obtain rfl:=Zao h
  exact ZeF (H:=az) (ys:=[bv false]) (xs:=[bv false]) kr (ZlJ (r:=.cell 10 1 false) (v:=bv false) (ZlI (id:=id7) (off:=0) (cs:=[bv false]) (c:=[bv false]) kr (HP.get hH 0 rfl) kr kr) ZlK) (ZbX rfl ZcA) kr
 rcases ZaJ h with ⟨aq,h⟩|⟨_,h⟩
 ·refine Zm1 (S:=⟨[(5,.ptr id1 0),(7,.ptr id3 0),(9,.ptr id5 0),(10,.ptr id7 0),(18,.fn 54 [] [.ptr a7 0,.ptr a6 0,.ptr a5 0])],[],a9⟩) (e:=.ret) aq rfl (br (tr ?_))
  obtain rfl:=Zao h
  exact ZeF (H:=a9) (ys:=[bv a0.1]) (xs:=[bv a0.1]) kr (ZlJ (r:=.cell 10 1 false) (v:=bv a0.1) (ZlI (id:=id7) (off:=0) (cs:=[bv a0.1]) (c:=[bv a0.1]) kr (HP.get hH 3 rfl) kr kr) ZlK) (ZbX rfl ZcA) kr
 cases h
theorem Zg1 (N:Nat)(a0_:Z5)(a1_:Int)(a2_:Int)(a3_:Int)(a4_:Int)(r:Bool×Int)(h:ZcQ N a0_ a1_ a2_ a3_ a4_=some r):Zbr Try.prog 21 [.agg (Z2 a0_),iv a1_,iv a2_,iv a3_,iv a4_] (.tup [bv r.1,iv r.2]):=by
 unfold ZcQ at h
 have hH  := hp0
 refine ZaI ZwC rfl rfl (Zat _ _ _ ?_) rfl
 refine sq (rg Z3.f (tq (sq (sq ?_))))
 obtain ⟨r1,hr1,h⟩:=bs h
 refine rg (Z3.v 1 (ZaE (hc:=ZfP N a0_ r1 hr1)) Z3.f) (tq (sq (rg Z3.f (tq (it h (λhc2 h=>?_) (λhc2 h=>?_))))))
 ·refine sq (rg Z3.f (tq (rt (tr ?_))))
  cases h
  exact ZaD kr
 refine sk (tq (kq (sq (sq (rgX ⟨[(1,iv a1_),(2,iv a2_),(3,iv a3_),(4,iv a4_),(5,.loc 5 0),(37,bv ((decide (a1_<0))||((decide (a1_≥((List.length a0_.Periods:Nat):Int)))||((decide (a3_<0))||(decide (a3_≥((List.length a0_.Periods:Nat):Int)))))))],[(5,(Z2 a0_))],[]⟩ ?_ ?_)))))
 ·rcases Bool.eq_false_or_eq_true (decide (a1_<0)) with hc3|hc4
  ·exact (EP.u 1 (Zad (c:=(decide (a1_<0))) (h:=hc3)) (EP.f (by simp only [hc3];kernel_rfl)))
  refine (EP.u 1 (Zad (c:=(decide (a1_<0))) (h:=hc4)) (EP.u 4 (Zac (ys:=[Zah false a0_.Periods]) (h:=Zas eI64)) ?_))
  rcases Bool.eq_false_or_eq_true (decide (a1_≥((List.length a0_.Periods:Nat):Int))) with hc5|hc6
  ·exact (EP.u 0 (Zad (c:=(decide (a1_≥((List.length a0_.Periods:Nat):Int)))) (h:=hc5)) (EP.f (by simp only [hc4,hc5];kernel_rfl)))
  refine (EP.u 0 (Zad (c:=(decide (a1_≥((List.length a0_.Periods:Nat):Int)))) (h:=hc6)) ?_)
  rcases Bool.eq_false_or_eq_true (decide (a3_<0)) with hc7|hc8
  ·exact (EP.u 3 (Zad (c:=(decide (a3_<0))) (h:=hc7)) (EP.f (by simp only [hc4,hc6,hc7];kernel_rfl)))
  exact (EP.u 3 (Zad (c:=(decide (a3_<0))) (h:=hc8)) (EP.u 5 (Zac (ys:=[Zah false a0_.Periods]) (h:=Zas eI64)) (EP.f (by simp only [hc4,hc6,hc8];kernel_rfl))))
 refine tq (it h (λhc9 h=>?_) (λhc9 h=>?_))
 ·refine sq (rg Z3.f (tq (rt (tr ?_))))
  cases h
  exact ZaD kr
 refine sk (tq (kq (sq (sq ?_))))
 obtain ⟨ad,hj,h⟩:=bs h
 refine rgR (λs=>s=⟨[(1,iv a1_),(2,iv a2_),(3,iv a3_),(4,iv a4_),(5,.loc 5 0),(59,bv ad)],[(5,(Z2 a0_))],[]⟩) ?_ ?_
 ·clear h
  obtain ⟨a1,a4,hj⟩:=bs hj
  refine (EP.v 3 (ZaE (hc:=Zfl N a0_ a1_ a2_ a1 a4)) ?_)
  rcases ZaJ hj with ⟨ab,hj⟩|⟨aa,hj⟩
  ·obtain rfl:=Zao hj
   exact (EP.u 0 (Zad (c:=(!a1)) (h:=ab)) (EP.f kr))
  refine (EP.u 0 (Zad (c:=(!a1)) (h:=aa)) ?_)
  obtain ⟨a0,a3,hj⟩:=bs hj
  refine (EP.v 4 (ZaE (hc:=Zfl N a0_ a3_ a4_ a0 a3)) ?_)
  rcases ZaJ hj with ⟨a9,hj⟩|⟨a8,hj⟩
  ·obtain rfl:=Zao hj
   exact (EP.u 0 (Zad (c:=(!a0)) (h:=a9)) (EP.f kr))
  refine (EP.u 0 (Zad (c:=(!a0)) (h:=a8)) ?_)
  rcases ZaJ hj with ⟨a7,hj⟩|⟨a6,hj⟩
  ·obtain rfl:=Zao hj
   exact (EP.u 4 (Zad (c:=(a1_==a3_)) (h:=a7)) (EP.f kr))
  obtain rfl:=Zao hj
  exact (EP.u 4 (Zad (c:=(a1_==a3_)) (h:=a6)) (EP.f kr))
 clear hj
 rintro s hR
 obtain rfl:=hR
 refine tq (it h (λa5 h=>?_) (λa5 h=>?_))
 ·refine sq (rg Z3.f (tq (rt (tr ?_))))
  cases h
  exact ZaD kr
 refine sk (tq (kq (sq ?_)))
 obtain ⟨ac,a2,h⟩:=bs h
 refine rg (Z3.v 5 (ZaE (hc:=Zg0 N a0_ a1_ a2_ a3_ a4_ ac a2)) Z3.f) (tq (rt ?_))
 cases h
 exact ZaD kr
theorem Zio (N:Nat)(a0_:Z5)(a1_:(List Z4))(r:Bool)(h:ZdH N a0_ a1_=some r):Zbr Try.prog 25 [.agg (Z2 a0_),Z6 false a1_] (bv r):=by
 unfold ZdH at h
 have hH  := hp0
 refine ZaI Zwz rfl rfl (Zat _ _ _ ?_) rfl
 refine sq (rg Z3.f (tq (sq ?_)))
 obtain ⟨r1,hr1,h⟩:=bs h
 obtain ⟨id3,id4,idm5,H2,hvr1,hpr1⟩:=ZfN N a0_ [] r1 hr1
 replace hH:HP _ [.cel id3 (Z2 r1.1),.cel id4 [.map idm5],mpT idm5 3 (encE Z7 bv r1.2)]:=HP.callee (fp:=[]) (rest:=[]) hH hpr1
 refine rg (Z3.v 1 (Zjh (H:=[]) (ys:=[.agg (Z2 a0_)]) kr kr kr hvr1) Z3.f) (tq (sq ?_))
 obtain ⟨id6,H7,hid6,hH7,hH⟩:=HP.newCell hH [Zb2 true []]
 replace hH:HP _ [.cel id6 [Zb2 true []],.cel id3 (Z2 r1.1),.cel id4 [.map idm5],mpT idm5 3 (encE Z7 bv r1.2)]:=hH
 refine rg (Z3.h 0 (ZkW (H:=H2) kr hid6 hH7) Z3.f) (tq (sq (rg Z3.f (tq (sq (rg Z3.f (tq (sq (sq (rg Z3.f (tq (bk ?_))))))))))))
 obtain ⟨cf,cc,h⟩:=bs h
 refine Za0 ((ZaM (λ(x:Int×Z8) s=>s=⟨[(1,Z6 false a1_),(5,.fn 51 [] [.ptr id3 0,.ptr id4 0]),(6,.ptr id6 0),(7,.fn 40 [] [.ptr id6 0]),(8,.loc 8 0),(18,iv x.1)],[(8,(Zay x.2))],H7⟩) (λx:Int×Z8=>Zcq N x.1 x.2) (λ(p:Z8) e s=>e=.exit 0/\(s=⟨[(1,Z6 false a1_),(5,.fn 51 [] [.ptr id3 0,.ptr id4 0]),(6,.ptr id6 0),(7,.fn 40 [] [.ptr id6 0]),(8,.loc 8 0)],[(8,(Zay p))],H7⟩)) ?_ N _ cf _ cc kr).mono ?_)
 ·clear h cc
  rintro ⟨i8,l9⟩ o s h hR
  obtain rfl:=hR
  replace h:Zcq N i8 l9=some o:=h
  unfold Zcq at h
  refine sq (rg Z3.f (tq (sq (it h (λcR h=>?_) (λcR h=>?_)))))
  ·refine sk (tq (kq (sq (bk (sq (rg Z3.f (tq ?_)))))))
   obtain ⟨de,cd,h⟩:=bs h
   refine rg (Z3.u 1 (Zac (ys:=[.loc 8 0,iv i8]) (h:=Zde (l:=l9.l) cd rfl)) (Z3.o 0 (ZiB (t:=8) (off:=0) (cs:=(Zay l9)) (l:=l9.l) (λx=>iv x) [] [] (y:=(-1)) (cs':=(Zay (Z8.set l9 i8 (-1)))) cd kr kr kr rfl rfl (ZnC (Z8.c_set l9 i8 (-1)) (by show (Zay (Z8.set l9 i8 (-1)))=[]++(Zay (Z8.set l9 i8 (-1))++[]);rfl))) Z3.f)) (bn (tq (rg Z3.f ?_)))
   cases h
   exact ⟨_,rfl,kr⟩
  refine kq (xq (tx ?_))
  cases h
  exact ⟨_,rfl,rfl,kr⟩
 rintro e s hq
 obtain ⟨rfl,hR⟩:=hq
 obtain rfl:=hR
 refine bx (tq (sq ?_))
 obtain ⟨c5,cl,h⟩:=bs h
 have bp:∀ (aG:Int) (aE:Z8) (s:(List Zaf)) (r:(((List Zaf)))) (H:List HO) (its:List ZaH),(λ(s:(List Zaf)) (its:List ZaH)=>∃ (a7:AV),its=[.arr a7 13 false (List.map Z9 s),.cel id6 [a7],.cel id3 (Z2 r1.1),.cel id4 [.map idm5],mpT idm5 3 (encE Z7 bv r1.2)]) s its->HP H its->(λ(s:(List Zaf)) (aG:Int) (aE:Z8)=>Zcs N s aG aE) s aG aE=some r->∃ H' its',Zix Try.prog (.fn 40 [] [.ptr id6 0]) [iv aG,.agg (Zay aE)] H (.tup []) H'/\(λ(s:(List Zaf)) (its:List ZaH)=>∃ (a7:AV),its=[.arr a7 13 false (List.map Z9 s),.cel id6 [a7],.cel id3 (Z2 r1.1),.cel id4 [.map idm5],mpT idm5 3 (encE Z7 bv r1.2)]) r its'/\Fp H H' its its':=by
  clear h
  intro aG aE s q aR its hT hH h
  obtain ⟨bj,rfl⟩:∃ v,v=s:=⟨s,rfl⟩
  obtain ⟨a7,rfl⟩:=hT
  replace h:Zcs N bj aG aE=some q:=h
  unfold Zcs at h
  replace hH:Fp _ _ _ [.arr a7 13 false (List.map Z9 bj),.cel id6 [a7],.cel id3 (Z2 r1.1),.cel id4 [.map idm5],mpT idm5 3 (encE Z7 bv r1.2)]:=Fp.refl hH
  have ae:=Zbv (Fp.get hH 0 rfl)
  suffices hs:∃ H',Zcb Try.prog 40 [iv aG,.agg (Zay aE),.ptr id6 0] aR (.tup []) H'/\∃ its',(λ(s:(List Zaf)) (its:List ZaH)=>∃ (a7:AV),its=[.arr a7 13 false (List.map Z9 s),.cel id6 [a7],.cel id3 (Z2 r1.1),.cel id4 [.map idm5],mpT idm5 3 (encE Z7 bv r1.2)]) q its'/\Fp aR H' [.arr a7 13 false (List.map Z9 bj),.cel id6 [a7],.cel id3 (Z2 r1.1),.cel id4 [.map idm5],mpT idm5 3 (encE Z7 bv r1.2)] its' by
   obtain ⟨H',h1,its',h2,h3⟩:=hs
   exact ⟨H',its',Zix.of kr h1,h2,h3⟩
  refine ZeY ZqX (λH'=>∃ its',(λ(s:(List Zaf)) (its:List ZaH)=>∃ (a7:AV),its=[.arr a7 13 false (List.map Z9 s),.cel id6 [a7],.cel id3 (Z2 r1.1),.cel id4 [.map idm5],mpT idm5 3 (encE Z7 bv r1.2)]) q its'/\Fp aR H' [.arr a7 13 false (List.map Z9 bj),.cel id6 [a7],.cel id3 (Z2 r1.1),.cel id4 [.map idm5],mpT idm5 3 (encE Z7 bv r1.2)] its') rfl rfl rfl ?_
  show vc _ _ _ _ ⟨[(0,iv aG),(1,.agg (Zay aE)),(2,.ptr id6 0)],[],aR⟩
  refine sq (rg Z3.f (tq ?_))
  have bT:=Fp.get hH 1 rfl
  obtain ⟨cb,co,h⟩:=bs h
  obtain ⟨ay,d0,cB,hH⟩:=Fp.app (k:=0) (a:=a7) (sz:=13) (frz:=false) Z9 hH rfl co
  replace hH:Fp _ _ _ [.arr ay 13 false (List.map Z9 cb),.cel id6 [a7],.cel id3 (Z2 r1.1),.cel id4 [.map idm5],mpT idm5 3 (encE Z7 bv r1.2)]:=hH
  have an:=Zbv (Fp.get hH 0 rfl)
  obtain ⟨cZ,cI,hH⟩:=Fp.setCell (k:=1) (off:=0) (cs:=[a7]) (vs:=[ay]) (cs':=[ay]) hH rfl kr
  replace hH:Fp _ _ _ [.arr ay 13 false (List.map Z9 cb),.cel id6 [ay],.cel id3 (Z2 r1.1),.cel id4 [.map idm5],mpT idm5 3 (encE Z7 bv r1.2)]:=hH
  refine rgS ⟨[],[],cZ⟩ (Z3.u 0 (Zbk (H:=aR) (id:=id6) (off:=0) (cs:=[a7]) (c:=[a7]) (r:=a7) (by cases ae<;>kernel_rfl) (by cases ae<;>kernel_rfl) bT (by cases ae<;>kernel_rfl) (by cases ae<;>kernel_rfl) (by cases ae<;>kernel_rfl)) (Z3.h 4 (ZdO (H:=aR) (a:=a7) (b:=Zb2 true [(Zaf.mk aG aE)]) (by cases ae<;>kernel_rfl) (by cases ae<;>kernel_rfl) (by cases ae<;>kernel_rfl) (by cases ae<;>kernel_rfl) cB) (Z3.o 0 (ZbK (H:=d0) (v:=ay) (cs:=[ay]) (by cases an<;>kernel_rfl) (by cases an<;>kernel_rfl) (by cases an<;>kernel_rfl) (by cases an<;>kernel_rfl) (by cases an<;>kernel_rfl) cI) Z3.f))) (by cases an<;>cases ae<;>kernel_rfl) ?_
  cases h
  exact ⟨[],kr,kr,_,⟨ay,Eq.refl _⟩,(Fp.pk hH [0,1,2,3,4] rfl)⟩
 obtain ⟨cY,cL,bu,bZ,c2⟩:=bp 0 cf [] c5 H7 [.arr (.p (.sl 13 true [])) 13 false (List.map Z9 []),.cel id6 [Zb2 true []],.cel id3 (Z2 r1.1),.cel id4 [.map idm5],mpT idm5 3 (encE Z7 bv r1.2)] (by exact ⟨(.p (.sl 13 true [])),Eq.refl _⟩) (HP.now (HP.pick (HP.nilArr hH 13 false) [0,1,2,3,4] rfl)) cl
 obtain ⟨a7,rfl⟩:=bZ
 replace hH:HP _ [.arr a7 13 false (List.map Z9 c5),.cel id6 [a7],.cel id3 (Z2 r1.1),.cel id4 [.map idm5],mpT idm5 3 (encE Z7 bv r1.2)]:=HP.callee (fp:=[.arr (.p (.sl 13 true [])) 13 false (List.map Z9 []),.cel id6 [Zb2 true []],.cel id3 (Z2 r1.1),.cel id4 [.map idm5],mpT idm5 3 (encE Z7 bv r1.2)]) (rest:=[]) (HP.pick (HP.nilArr hH 13 false) [0,1,2,3,4] rfl) c2
 have ae:=Zbv (HP.get hH 0 rfl)
 refine rg (Z3.v 2 (Zjf (H:=H7) (fv:=.fn 40 [] [.ptr id6 0]) (ys:=[iv 0,.agg (Zay cf)]) (hc:=bu)) Z3.f) (tq (sq (bk ?_)))
 obtain ⟨c7,aU,h⟩:=bs h
 refine Za0 ((ZaM (λ(x:(List Zaf)×(List (Zag×Bool))) s=>∃ (a2:AV) (af:List HO),s=⟨[(1,Z6 false a1_),(5,.fn 51 [] [.ptr id3 0,.ptr id4 0]),(6,.ptr id6 0),(7,.fn 40 [] [.ptr id6 0])],[],af⟩/\HP af [.arr a2 13 false (List.map Z9 x.1),.cel id3 (Z2 r1.1),.cel id4 [.map idm5],.cel id6 [a2],mpT idm5 3 (encE Z7 bv x.2)]) (λx:(List Zaf)×(List (Zag×Bool))=>ZbG N a1_ r1 x.1 x.2) (λ(p:(Unit)⊕(Bool)) e s=>match p with|(.inl p)=>e=.exit 2/\(∃ (bi:List HO),s=⟨[],[],bi⟩/\HP bi [])|(.inr p)=>e=.ret/\∃ xs,resL s i25.res=some xs/\ZbZ xs=bv p) ?_ N _ c7 _ aU ⟨a7,cY,kr,(HP.pick hH [0,2,3,1,4] rfl)⟩).mono ?_)
 ·clear h aU
  rintro ⟨az,aK⟩ o s h hR
  obtain ⟨a2,af,rfl,hH⟩:=hR
  replace hH:HP _ [.arr a2 13 false (List.map Z9 az),.cel id3 (Z2 r1.1),.cel id4 [.map idm5],.cel id6 [a2],mpT idm5 3 (encE Z7 bv aK)]:=hH
  have a0:=Zbv (HP.get hH 0 rfl)
  replace h:ZbG N a1_ r1 az aK=some o:=h
  unfold ZbG at h
  refine sq (sq ?_)
  have bR:=HP.get hH 3 rfl
  have bA:=HP.len (k:=0) (a:=a2) (sz:=13) (frz:=false) (l:=az) Z9 hH rfl
  refine rgS ⟨[(1,Z6 false a1_),(5,.fn 51 [] [.ptr id3 0,.ptr id4 0]),(6,.ptr id6 0),(7,.fn 40 [] [.ptr id6 0]),(29,bv (decide (((List.length az:Nat):Int)>0)))],[],af⟩ (Z3.u 0 (Zbk (H:=af) (id:=id6) (off:=0) (cs:=[a2]) (c:=[a2]) (r:=a2) (by cases a0<;>kernel_rfl) (by cases a0<;>kernel_rfl) bR (by cases a0<;>kernel_rfl) (by cases a0<;>kernel_rfl) (by cases a0<;>kernel_rfl)) (Z3.u 0 (Zac (ys:=[a2]) (by cases a0<;>kernel_rfl) bA) Z3.f)) (by cases a0<;>kernel_rfl) (tq (it h (λcy h=>?_) (λcy h=>?_)))
  ·refine sk (tq (kq (bk (sq ?_))))
   have bQ:=HP.get hH 3 rfl
   have bM:=HP.get hH 3 rfl
   have bz:=HP.len (k:=0) (a:=a2) (sz:=13) (frz:=false) (l:=az) Z9 hH rfl
   obtain ⟨a4,bd,h⟩:=bs h
   obtain ⟨d8,d2,_,cM,bV,cQ,aZ⟩:=HP.elem (k:=0) (a:=a2) (sz:=13) (frz:=false) Z9 hH rfl bd
   refine rgS ⟨[(1,Z6 false a1_),(5,.fn 51 [] [.ptr id3 0,.ptr id4 0]),(6,.ptr id6 0),(7,.fn 40 [] [.ptr id6 0]),(10,.loc 10 0)],[(10,(ZcF a4))],af⟩ (Z3.u 0 (Zbk (H:=af) (id:=id6) (off:=0) (cs:=[a2]) (c:=[a2]) (r:=a2) (by cases a0<;>kernel_rfl) (by cases a0<;>kernel_rfl) bQ (by cases a0<;>kernel_rfl) (by cases a0<;>kernel_rfl) (by cases a0<;>kernel_rfl)) (Z3.u 0 (Zbk (H:=af) (id:=id6) (off:=0) (cs:=[a2]) (c:=[a2]) (r:=a2) (by cases a0<;>kernel_rfl) (by cases a0<;>kernel_rfl) bM (by cases a0<;>kernel_rfl) (by cases a0<;>kernel_rfl) (by cases a0<;>kernel_rfl)) (Z3.u 0 (Zac (ys:=[a2]) (by cases a0<;>kernel_rfl) bz) (Z3.u 1 (Zac (ys:=[a2,iv (w64 (((List.length az:Nat):Int)-1))]) (by cases a0<;>kernel_rfl) (aZ .i64)) (Z3.u 0 (Zei (H:=af) (off:=0) (cs:=([.int .i64 a4.choice]++Zh6 a4.given)) (r:=.agg (ZcF a4)) Z9 bd bV) (Z3.f (h:=(by cases a0<;>kernel_rfl)))))))) (by cases a0<;>kernel_rfl) (tq (sq ?_))
   have bL:=HP.get hH 3 rfl
   have bK:=HP.get hH 3 rfl
   have bw:=HP.len (k:=0) (a:=a2) (sz:=13) (frz:=false) (l:=az) Z9 hH rfl
   obtain ⟨ca,cn,h⟩:=bs h
   obtain ⟨d7,d1,ax,cX,aY,bU,aX,cG,cA,hH⟩:=HP.pop (k:=0) Z9 hH rfl cn
   replace hH:HP _ [.arr ax 13 false (List.map Z9 ca),.cel id3 (Z2 r1.1),.cel id4 [.map idm5],.cel id6 [a2],mpT idm5 3 (encE Z7 bv aK)]:=hH
   have am:=Zbv (HP.get hH 0 rfl)
   obtain ⟨ce,cE,hH⟩:=HP.setCell (k:=3) (off:=0) (cs:=[a2]) (vs:=[ax]) (cs':=[ax]) hH rfl kr
   replace hH:HP _ [.arr ax 13 false (List.map Z9 ca),.cel id3 (Z2 r1.1),.cel id4 [.map idm5],.cel id6 [ax],mpT idm5 3 (encE Z7 bv aK)]:=hH
   refine rgS ⟨[(1,Z6 false a1_),(5,.fn 51 [] [.ptr id3 0,.ptr id4 0]),(6,.ptr id6 0),(7,.fn 40 [] [.ptr id6 0]),(10,.loc 10 0)],[(10,(ZcF a4))],ce⟩ (Z3.u 0 (Zbk (H:=af) (id:=id6) (off:=0) (cs:=[a2]) (c:=[a2]) (r:=a2) (by cases a0<;>kernel_rfl) (by cases a0<;>kernel_rfl) bL (by cases a0<;>kernel_rfl) (by cases a0<;>kernel_rfl) (by cases a0<;>kernel_rfl)) (Z3.u 0 (Zbk (H:=af) (id:=id6) (off:=0) (cs:=[a2]) (c:=[a2]) (r:=a2) (by cases a0<;>kernel_rfl) (by cases a0<;>kernel_rfl) bK (by cases a0<;>kernel_rfl) (by cases a0<;>kernel_rfl) (by cases a0<;>kernel_rfl)) (Z3.u 0 (Zac (ys:=[a2]) (by cases a0<;>kernel_rfl) bw) (Z3.h 1 (ZoE (H:=af) (av:=a2) (by cases a0<;>kernel_rfl) (by cases a0<;>kernel_rfl) (by cases a0<;>kernel_rfl) aY bU aX cG cA) (Z3.o 0 (ZbK (H:=cX) (v:=ax) (cs:=[ax]) (by cases am<;>kernel_rfl) (by cases am<;>kernel_rfl) (by cases am<;>kernel_rfl) (by cases am<;>kernel_rfl) (by cases am<;>kernel_rfl) cE) Z3.f))))) (by cases a0<;>cases am<;>kernel_rfl) (tq (sq ?_))
   obtain ⟨ad,bc,h⟩:=bs h
   refine rg (Z3.u 3 (Zac (ys:=[Z6 false a1_,iv a4.choice]) (h:=Zae Zai bc)) (Z3.u 1 (Zav (sz:=2) (off:=0) (cs:=[.int .i64 ad.Stream]) (r:=iv ad.Stream) Zai bc) Z3.f)) (tq (sq (sq ?_)))
   obtain ⟨dd,bb,h⟩:=bs h
   refine rg (Z3.u 2 (Zac (ys:=[.loc 10 1,iv ad.Stream]) (h:=Zde (l:=a4.given.l) bb rfl)) (Z3.o 0 (Zho (t:=10) (off:=1) (cs:=(ZcF a4)) (l:=a4.given.l) (λx=>iv x) [iv a4.choice] [] bb kr kr rfl rfl) Z3.f)) (tq (it h (λcw h=>?_) (λcw h=>?_)))
   ·refine sq (rg Z3.f ?_)
    replace hH:HP _ []:=HP.pick hH [] rfl
    refine tq (rt (tr (br ?_)))
    cases h
    exact ⟨_,rfl,rfl,ZaD kr⟩
   refine sk (tq (kq (sq ?_)))
   obtain ⟨ao,ba,h⟩:=bs h
   refine rg (Z3.u 3 (Zac (ys:=[Z6 false a1_,iv a4.choice]) (h:=Zae Zai ba)) (Z3.u 1 (Zav (sz:=2) (off:=1) (cs:=[.sl 4 false (List.map Zaj ao.Arms)]) (r:=Zap false ao.Arms) Zai ba) (Z3.u 0 (Zac (ys:=[Zap false ao.Arms]) (h:=Zas Zaj)) Z3.f))) (tq (bk ?_))
   obtain ⟨c8,aV,h⟩:=bs h
   refine Za0 ((ZaM (λ(x:Int×(List Zaf)×(List (Zag×Bool))) s=>∃ (ac:AV) (ar:List HO),s=⟨[(1,Z6 false a1_),(5,.fn 51 [] [.ptr id3 0,.ptr id4 0]),(6,.ptr id6 0),(7,.fn 40 [] [.ptr id6 0]),(10,.loc 10 0),(11,iv ad.Stream),(57,Zap false ao.Arms),(58,iv ((List.length ao.Arms:Nat):Int)),(59,iv x.1)],[(10,(ZcF a4))],ar⟩/\HP ar [.arr ac 13 false (List.map Z9 x.2.1),.cel id3 (Z2 r1.1),.cel id4 [.map idm5],.cel id6 [ac],mpT idm5 3 (encE Z7 bv x.2.2)]) (λx:Int×(List Zaf)×(List (Zag×Bool))=>ZbF N r1 a4 ad ao x.1 x.2.1 x.2.2) (λ(p:((List Zaf)×(List (Zag×Bool)))⊕(Bool)) e s=>match p with|(.inl p)=>e=.exit 4/\(∃ (aC:AV) (aQ:List HO),s=⟨[(1,Z6 false a1_),(5,.fn 51 [] [.ptr id3 0,.ptr id4 0]),(6,.ptr id6 0),(7,.fn 40 [] [.ptr id6 0])],[],aQ⟩/\HP aQ [.arr aC 13 false (List.map Z9 p.1),.cel id3 (Z2 r1.1),.cel id4 [.map idm5],.cel id6 [aC],mpT idm5 3 (encE Z7 bv p.2)])|(.inr p)=>e=.ret/\∃ xs,resL s i25.res=some xs/\ZbZ xs=bv p) ?_ N _ c8 _ aV ⟨ax,ce,kr,(HP.pick hH [0,1,2,3,4] rfl)⟩).mono ?_)
   ·clear h aV
    rintro ⟨aT,a5,ab⟩ o s h hR
    obtain ⟨ac,ar,rfl,hH⟩:=hR
    replace hH:HP _ [.arr ac 13 false (List.map Z9 a5),.cel id3 (Z2 r1.1),.cel id4 [.map idm5],.cel id6 [ac],mpT idm5 3 (encE Z7 bv ab)]:=hH
    have d6:=Zbv (HP.get hH 0 rfl)
    replace h:ZbF N r1 a4 ad ao aT a5 ab=some o:=h
    unfold ZbF at h
    refine sq (rg Z3.f (tq (sq (it h (λcv h=>?_) (λcv h=>?_)))))
    ·refine sk (tq (kq (sq (bk (sq ?_)))))
     obtain ⟨a9,b2,h⟩:=bs h
     refine rg (Z3.u 0 (Zac (ys:=[Zap false ao.Arms,iv aT]) (h:=Zae Zaj b2)) (Z3.u 0 (Zav (sz:=4) (off:=0) (cs:=[.int .i64 a9.From,.int .i64 a9.To,.int .i64 a9.By,.int .i64 a9.Next]) (r:=.agg (Zbc a9)) Zaj b2) Z3.f)) (tq (bk (sq (rg Z3.f (tq (it h (λcu h=>?_) (λcu h=>?_)))))))
     ·refine sq (rg Z3.f (tq (sq ?_)))
      obtain ⟨dc,b1,h⟩:=bs h
      refine rg (Z3.u 3 (Zac (ys:=[.loc 14 0,iv ad.Stream]) (h:=Zde (l:=a4.given.l) b1 rfl)) (Z3.o 0 (ZiB (t:=14) (off:=0) (cs:=(Zay a4.given)) (l:=a4.given.l) (λx=>iv x) [] [] (y:=a9.From) (cs':=(Zay (Z8.set a4.given ad.Stream a9.From))) b1 kr kr kr rfl rfl (ZnC (Z8.c_set a4.given ad.Stream a9.From) (by show (Zay (Z8.set a4.given ad.Stream a9.From))=[]++(Zay (Z8.set a4.given ad.Stream a9.From)++[]);rfl))) Z3.f)) (tq ?_)
      obtain ⟨c4,ck,h⟩:=bs h
      have bm:∀ (aq:Int) (ap:Z8) (s:(List Zaf)) (r:(((List Zaf)))) (H:List HO) (its:List ZaH),(λ(s:(List Zaf)) (its:List ZaH)=>∃ (a3:AV),its=[.arr a3 13 false (List.map Z9 s),.cel id3 (Z2 r1.1),.cel id4 [.map idm5],.cel id6 [a3],mpT idm5 3 (encE Z7 bv ab)]) s its->HP H its->(λ(s:(List Zaf)) (aq:Int) (ap:Z8)=>Zcr N s aq ap) s aq ap=some r->∃ H' its',Zix Try.prog (.fn 40 [] [.ptr id6 0]) [iv aq,.agg (Zay ap)] H (.tup []) H'/\(λ(s:(List Zaf)) (its:List ZaH)=>∃ (a3:AV),its=[.arr a3 13 false (List.map Z9 s),.cel id3 (Z2 r1.1),.cel id4 [.map idm5],.cel id6 [a3],mpT idm5 3 (encE Z7 bv ab)]) r its'/\Fp H H' its its':=by
       clear h
       intro aq ap s q aD its hT hH h
       obtain ⟨aJ,rfl⟩:∃ v,v=s:=⟨s,rfl⟩
       obtain ⟨a3,rfl⟩:=hT
       replace h:Zcr N aJ aq ap=some q:=h
       unfold Zcr at h
       replace hH:Fp _ _ _ [.arr a3 13 false (List.map Z9 aJ),.cel id3 (Z2 r1.1),.cel id4 [.map idm5],.cel id6 [a3],mpT idm5 3 (encE Z7 bv ab)]:=Fp.refl hH
       have a6:=Zbv (Fp.get hH 0 rfl)
       suffices hs:∃ H',Zcb Try.prog 40 [iv aq,.agg (Zay ap),.ptr id6 0] aD (.tup []) H'/\∃ its',(λ(s:(List Zaf)) (its:List ZaH)=>∃ (a3:AV),its=[.arr a3 13 false (List.map Z9 s),.cel id3 (Z2 r1.1),.cel id4 [.map idm5],.cel id6 [a3],mpT idm5 3 (encE Z7 bv ab)]) q its'/\Fp aD H' [.arr a3 13 false (List.map Z9 aJ),.cel id3 (Z2 r1.1),.cel id4 [.map idm5],.cel id6 [a3],mpT idm5 3 (encE Z7 bv ab)] its' by
        obtain ⟨H',h1,its',h2,h3⟩:=hs
        exact ⟨H',its',Zix.of kr h1,h2,h3⟩
       refine ZeY ZqX (λH'=>∃ its',(λ(s:(List Zaf)) (its:List ZaH)=>∃ (a3:AV),its=[.arr a3 13 false (List.map Z9 s),.cel id3 (Z2 r1.1),.cel id4 [.map idm5],.cel id6 [a3],mpT idm5 3 (encE Z7 bv ab)]) q its'/\Fp aD H' [.arr a3 13 false (List.map Z9 aJ),.cel id3 (Z2 r1.1),.cel id4 [.map idm5],.cel id6 [a3],mpT idm5 3 (encE Z7 bv ab)] its') rfl rfl rfl ?_
       show vc _ _ _ _ ⟨[(0,iv aq),(1,.agg (Zay ap)),(2,.ptr id6 0)],[],aD⟩
       refine sq (rg Z3.f (tq ?_))
       have bJ:=Fp.get hH 3 rfl
       obtain ⟨c9,cm,h⟩:=bs h
       obtain ⟨aw,cW,cz,hH⟩:=Fp.app (k:=0) (a:=a3) (sz:=13) (frz:=false) Z9 hH rfl cm
       replace hH:Fp _ _ _ [.arr aw 13 false (List.map Z9 c9),.cel id3 (Z2 r1.1),.cel id4 [.map idm5],.cel id6 [a3],mpT idm5 3 (encE Z7 bv ab)]:=hH
       have al:=Zbv (Fp.get hH 0 rfl)
       obtain ⟨cV,cD,hH⟩:=Fp.setCell (k:=3) (off:=0) (cs:=[a3]) (vs:=[aw]) (cs':=[aw]) hH rfl kr
       replace hH:Fp _ _ _ [.arr aw 13 false (List.map Z9 c9),.cel id3 (Z2 r1.1),.cel id4 [.map idm5],.cel id6 [aw],mpT idm5 3 (encE Z7 bv ab)]:=hH
       refine rgS ⟨[],[],cV⟩ (Z3.u 0 (Zbk (H:=aD) (id:=id6) (off:=0) (cs:=[a3]) (c:=[a3]) (r:=a3) (by cases a6<;>kernel_rfl) (by cases a6<;>kernel_rfl) bJ (by cases a6<;>kernel_rfl) (by cases a6<;>kernel_rfl) (by cases a6<;>kernel_rfl)) (Z3.h 4 (ZdO (H:=aD) (a:=a3) (b:=Zb2 true [(Zaf.mk aq ap)]) (by cases a6<;>kernel_rfl) (by cases a6<;>kernel_rfl) (by cases a6<;>kernel_rfl) (by cases a6<;>kernel_rfl) cz) (Z3.o 0 (ZbK (H:=cW) (v:=aw) (cs:=[aw]) (by cases al<;>kernel_rfl) (by cases al<;>kernel_rfl) (by cases al<;>kernel_rfl) (by cases al<;>kernel_rfl) (by cases al<;>kernel_rfl) cD) Z3.f))) (by cases a6<;>cases al<;>kernel_rfl) ?_
       cases h
       exact ⟨[],kr,kr,_,⟨aw,Eq.refl _⟩,(Fp.pk hH [0,1,2,3,4] rfl)⟩
      obtain ⟨cU,cK,bt,bY,c1⟩:=bm a9.Next (Z8.set a4.given ad.Stream a9.From) a5 c4 ar [.arr ac 13 false (List.map Z9 a5),.cel id3 (Z2 r1.1),.cel id4 [.map idm5],.cel id6 [ac],mpT idm5 3 (encE Z7 bv ab)] (by exact ⟨ac,Eq.refl _⟩) (HP.now (HP.pick hH [0,1,2,3,4] rfl)) ck
      obtain ⟨a3,rfl⟩:=bY
      replace hH:HP _ [.arr a3 13 false (List.map Z9 c4),.cel id3 (Z2 r1.1),.cel id4 [.map idm5],.cel id6 [a3],mpT idm5 3 (encE Z7 bv ab)]:=HP.callee (fp:=[.arr ac 13 false (List.map Z9 a5),.cel id3 (Z2 r1.1),.cel id4 [.map idm5],.cel id6 [ac],mpT idm5 3 (encE Z7 bv ab)]) (rest:=[]) (HP.pick hH [0,1,2,3,4] rfl) c1
      have a6:=Zbv (HP.get hH 0 rfl)
      refine rg (Z3.v 4 (Zjf (H:=ar) (fv:=.fn 40 [] [.ptr id6 0]) (ys:=[iv a9.Next,.agg (Zay (Z8.set a4.given ad.Stream a9.From))]) (hc:=bt)) Z3.f) (bn (bn (tq (kq (rg Z3.f ?_)))))
      cases h
      exact ⟨_,rfl,⟨a3,cU,kr,(HP.pick hH [0,1,2,3,4] rfl)⟩⟩
     refine sq ?_
     obtain ⟨aS,hj,h⟩:=bs h
     refine rgR (λs=>∃ (aA:AV) (aM:List HO),s=⟨[(1,Z6 false a1_),(5,.fn 51 [] [.ptr id3 0,.ptr id4 0]),(6,.ptr id6 0),(7,.fn 40 [] [.ptr id6 0]),(10,.loc 10 0),(11,iv ad.Stream),(57,Zap false ao.Arms),(58,iv ((List.length ao.Arms:Nat):Int)),(59,iv aT),(78,bv aS.1)],[(10,(ZcF a4))],aM⟩/\HP aM [.arr aA 13 false (List.map Z9 a5),.cel id3 (Z2 r1.1),.cel id4 [.map idm5],.cel id6 [aA],mpT idm5 3 (encE Z7 bv aS.2)]) ?_ ?_
     ·clear h
      rcases ZaJ hj with ⟨ct,hj⟩|⟨cq,hj⟩
      ·refine (EP.u 2 (Zad (c:=(decide (a9.By≥0))) (h:=ct)) ?_)
       obtain ⟨c3,cg,hj⟩:=bs hj
       have bl:∀ (a8:Int) (aj:Int) (aa:Int) (ai:Int) (s:(List (Zag×Bool))) (r:(((List (Zag×Bool)))×Bool)) (H:List HO) (its:List ZaH),(λ(s:(List (Zag×Bool))) (its:List ZaH)=>∃ (a1:AV),its=[.arr a1 13 false (List.map Z9 a5),.cel id3 (Z2 r1.1),.cel id4 [.map idm5],.cel id6 [a1],mpT idm5 3 (encE Z7 bv s)]) s its->HP H its->(λ(s:(List (Zag×Bool))) (a8:Int) (aj:Int) (aa:Int) (ai:Int)=>Zbi N r1 s a8 aj aa ai) s a8 aj aa ai=some r->∃ H' its',Zix Try.prog (.fn 51 [] [.ptr id3 0,.ptr id4 0]) [iv a8,iv aj,iv aa,iv ai] H (bv r.2) H'/\(λ(s:(List (Zag×Bool))) (its:List ZaH)=>∃ (a1:AV),its=[.arr a1 13 false (List.map Z9 a5),.cel id3 (Z2 r1.1),.cel id4 [.map idm5],.cel id6 [a1],mpT idm5 3 (encE Z7 bv s)]) r.1 its'/\Fp H H' its its':=by
        clear h
        intro a8 aj aa ai s q ag its hT hH h
        obtain ⟨ak,rfl⟩:∃ v,v=s:=⟨s,rfl⟩
        obtain ⟨a1,rfl⟩:=hT
        replace h:Zbi N r1 ak a8 aj aa ai=some q:=h
        unfold Zbi at h
        replace hH:Fp _ _ _ [.arr a1 13 false (List.map Z9 a5),.cel id3 (Z2 r1.1),.cel id4 [.map idm5],.cel id6 [a1],mpT idm5 3 (encE Z7 bv ak)]:=Fp.refl hH
        have bW:=Zbv (Fp.get hH 0 rfl)
        suffices hs:∃ H',Zcb Try.prog 51 [iv a8,iv aj,iv aa,iv ai,.ptr id3 0,.ptr id4 0] ag (bv q.2) H'/\∃ its',(λ(s:(List (Zag×Bool))) (its:List ZaH)=>∃ (a1:AV),its=[.arr a1 13 false (List.map Z9 a5),.cel id3 (Z2 r1.1),.cel id4 [.map idm5],.cel id6 [a1],mpT idm5 3 (encE Z7 bv s)]) q.1 its'/\Fp ag H' [.arr a1 13 false (List.map Z9 a5),.cel id3 (Z2 r1.1),.cel id4 [.map idm5],.cel id6 [a1],mpT idm5 3 (encE Z7 bv ak)] its' by
         obtain ⟨H',h1,its',h2,h3⟩:=hs
         exact ⟨H',its',Zix.of kr h1,h2,h3⟩
        refine ZeY Zwi (λH'=>∃ its',(λ(s:(List (Zag×Bool))) (its:List ZaH)=>∃ (a1:AV),its=[.arr a1 13 false (List.map Z9 a5),.cel id3 (Z2 r1.1),.cel id4 [.map idm5],.cel id6 [a1],mpT idm5 3 (encE Z7 bv s)]) q.1 its'/\Fp ag H' [.arr a1 13 false (List.map Z9 a5),.cel id3 (Z2 r1.1),.cel id4 [.map idm5],.cel id6 [a1],mpT idm5 3 (encE Z7 bv ak)] its') rfl rfl rfl ?_
        show vc _ _ _ _ ⟨[(0,iv a8),(1,iv aj),(2,iv aa),(3,iv ai),(4,.ptr id3 0),(5,.ptr id4 0)],[],ag⟩
        refine sq (rg Z3.f (tq (sq ?_)))
        have bI:=Fp.get hH 1 rfl
        obtain ⟨be,b0,h⟩:=bs h
        obtain ⟨au,cj,h⟩:=bs h
        refine rg (Z3.u 5 (Zbk (H:=ag) (id:=id3) (off:=0) (cs:=(Z2 r1.1)) (c:=[Zah false r1.1.Periods]) (r:=Zah false r1.1.Periods) (hl:=bI)) (Z3.u 1 (Zac (ys:=[Zah false r1.1.Periods,iv a8]) (h:=Zae eI64 b0)) (Z3.u 0 (Zav (sz:=1) (off:=0) (cs:=[.int .i64 be]) (r:=iv be) eI64 b0) (Z3.v 0 (ZaE (hc:=Zgz N (w64 (aj-ai)) be au cj)) Z3.f)))) (tq (sq ?_))
        have bG:=Fp.get hH 2 rfl
        have bC:=Fp.get hH 4 rfl
        refine rg (Z3.u 0 (Zbk (H:=ag) (id:=id4) (off:=0) (cs:=[.map idm5]) (c:=[.map idm5]) (r:=.map idm5) (hl:=bG)) (Z3.u 1 (ZmO (H:=ag) (id:=idm5) (kn:=3) (ke:=Z7) (ve:=bv) (l:=ak) (x:=(Zag.mk a8 au aa)) (z:=false) (r:=.tup [bv (Zm9 ak (Zag.mk a8 au aa) false),bv (mhas ak (Zag.mk a8 au aa))]) kr kr bC kr kr (λ_=>rfl)) Z3.f)) (tq ?_)
        obtain ⟨aL,aW,h⟩:=bs h
        refine ZfE [12] (λs=>∃ (aB:AV) (bf:List HO),s=⟨[(12,bv aL.1)],[],bf⟩/\Fp ag bf [.arr a1 13 false (List.map Z9 a5),.cel id3 (Z2 r1.1),.cel id4 [.map idm5],.cel id6 [a1],mpT idm5 3 (encE Z7 bv ak)] [.arr aB 13 false (List.map Z9 a5),.cel id3 (Z2 r1.1),.cel id4 [.map idm5],.cel id6 [aB],mpT idm5 3 (encE Z7 bv aL.2)]) ?_ ?_
        ·clear h
         have h:=aW
         refine sq (rg Z3.f (tq (it h (λcr h=>?_) (λcr h=>?_))))
         ·refine sq ?_
          have bE:=Fp.get hH 1 rfl
          obtain ⟨aI,ci,h⟩:=bs h
          refine rg (Z3.u 0 (Zbk (H:=ag) (id:=id3) (off:=0) (cs:=(Z2 r1.1)) (c:=(Z2 r1.1)) (r:=.agg (Z2 r1.1)) (hl:=bE)) (Z3.v 6 (ZaE (hc:=Zg1 N r1.1 a8 au aa 0 aI ci)) Z3.f)) (tq ?_)
          have bD:=Fp.get hH 2 rfl
          have bB:=Fp.get hH 4 rfl
          obtain ⟨cT,cC,hH⟩:=Fp.setMp (k:=4) hH rfl (encE Z7 bv (Zfx ak (Zag.mk a8 au aa) aI.1))
          replace hH:Fp _ _ _ [.arr a1 13 false (List.map Z9 a5),.cel id3 (Z2 r1.1),.cel id4 [.map idm5],.cel id6 [a1],mpT idm5 3 (encE Z7 bv (Zfx ak (Zag.mk a8 au aa) aI.1))]:=hH
          refine rg (Z3.u 0 (Zbk (H:=ag) (id:=id4) (off:=0) (cs:=[.map idm5]) (c:=[.map idm5]) (r:=.map idm5) (hl:=bD)) (Z3.o 2 (ZoF (H:=ag) (id:=idm5) (kn:=3) (ke:=Z7) (ve:=bv) (l:=ak) (x:=(Zag.mk a8 au aa)) (v:=aI.1) (y:=bv aI.1) kr kr bB kr kr cC) Z3.f)) ?_
          cases h
          exact ⟨rfl,⟨a1,cT,kr,(Fp.pick hH [0,1,2,3,4] rfl)⟩⟩
         refine sk ?_
         cases h
         exact ⟨rfl,⟨a1,ag,kr,(Fp.pick hH [0,1,2,3,4] rfl)⟩⟩
        clear aW
        rintro s hR
        obtain ⟨aB,bf,rfl,hH⟩:=hR
        replace hH:Fp _ _ _ [.arr aB 13 false (List.map Z9 a5),.cel id3 (Z2 r1.1),.cel id4 [.map idm5],.cel id6 [aB],mpT idm5 3 (encE Z7 bv aL.2)]:=hH
        have d4:=Zbv (Fp.get hH 0 rfl)
        refine sq (rg Z3.f (tq (rt ?_)))
        cases h
        exact ⟨[bv aL.1],kr,kr,_,⟨aB,Eq.refl _⟩,(Fp.pk hH [0,1,2,3,4] rfl)⟩
       obtain ⟨cS,cJ,bq,bX,c0⟩:=ZgY N (λ(s:(List (Zag×Bool))) (a8:Int) (aj:Int) (aa:Int) (ai:Int)=>Zbi N r1 s a8 aj aa ai) ad.Stream a4.given a9 ab 51 [] [.ptr id3 0,.ptr id4 0] kr (λ(s:(List (Zag×Bool))) (its:List ZaH)=>∃ (a1:AV),its=[.arr a1 13 false (List.map Z9 a5),.cel id3 (Z2 r1.1),.cel id4 [.map idm5],.cel id6 [a1],mpT idm5 3 (encE Z7 bv s)]) bl ar [.arr ac 13 false (List.map Z9 a5),.cel id3 (Z2 r1.1),.cel id4 [.map idm5],.cel id6 [ac],mpT idm5 3 (encE Z7 bv ab)] (by exact ⟨ac,Eq.refl _⟩) (HP.now (HP.pick hH [0,1,2,3,4] rfl)) c3 cg
       obtain ⟨a1,rfl⟩:=bX
       replace hH:HP _ [.arr a1 13 false (List.map Z9 a5),.cel id3 (Z2 r1.1),.cel id4 [.map idm5],.cel id6 [a1],mpT idm5 3 (encE Z7 bv c3.1)]:=HP.callee (fp:=[.arr ac 13 false (List.map Z9 a5),.cel id3 (Z2 r1.1),.cel id4 [.map idm5],.cel id6 [ac],mpT idm5 3 (encE Z7 bv ab)]) (rest:=[]) (HP.pick hH [0,1,2,3,4] rfl) c0
       have bW:=Zbv (HP.get hH 0 rfl)
       obtain rfl:=Zao hj
       exact (EP.v 6 (Zjh (H:=ar) (ys:=[.fn 51 [] [.ptr id3 0,.ptr id4 0],iv ad.Stream,.agg (Zay a4.given),.agg (Zbc a9)]) kr kr kr bq) (EP.f ⟨a1,cS,kr,(HP.pick hH [0,1,2,3,4] rfl)⟩))
      obtain rfl:=Zao hj
      exact (EP.u 2 (Zad (c:=(decide (a9.By≥0))) (h:=cq)) (EP.f ⟨ac,ar,kr,(HP.pick hH [0,1,2,3,4] rfl)⟩))
     clear hj
     rintro s hR
     obtain ⟨aA,aM,rfl,hH⟩:=hR
     replace hH:HP _ [.arr aA 13 false (List.map Z9 a5),.cel id3 (Z2 r1.1),.cel id4 [.map idm5],.cel id6 [aA],mpT idm5 3 (encE Z7 bv aS.2)]:=hH
     have d3:=Zbv (HP.get hH 0 rfl)
     refine tq (it h (λcp h=>?_) (λcp h=>?_))
     ·refine sq (rg Z3.f ?_)
      replace hH:HP _ []:=HP.pick hH [] rfl
      refine tq (rt (br (br (tr ?_))))
      cases h
      exact ⟨_,rfl,rfl,ZaD kr⟩
     refine sk (bn (bn (tq (kq (rg Z3.f ?_)))))
     cases h
     exact ⟨_,rfl,⟨aA,aM,kr,(HP.pick hH [0,1,2,3,4] rfl)⟩⟩
    refine kq (xq (tx ?_))
    cases h
    exact ⟨_,rfl,rfl,⟨ac,ar,kr,(HP.pick hH [0,1,2,3,4] rfl)⟩⟩
   rintro e s hq
   rcases c8 with c6|db
   ·dsimp only at h hq
    obtain ⟨rfl,hR⟩:=hq
    obtain ⟨aC,aQ,rfl,hH⟩:=hR
    replace hH:HP _ [.arr aC 13 false (List.map Z9 c6.1),.cel id3 (Z2 r1.1),.cel id4 [.map idm5],.cel id6 [aC],mpT idm5 3 (encE Z7 bv c6.2)]:=hH
    have d5:=Zbv (HP.get hH 0 rfl)
    refine bx (bn ?_)
    cases h
    exact ⟨_,rfl,⟨aC,aQ,kr,(HP.pick hH [0,1,2,3,4] rfl)⟩⟩
   dsimp only at h hq
   obtain ⟨rfl,hq⟩:=hq
   refine br (br ?_)
   cases h
   exact ⟨_,rfl,rfl,hq⟩
  refine kq ?_
  replace hH:HP _ []:=HP.pick hH [] rfl
  refine xq (tx ?_)
  cases h
  exact ⟨_,rfl,rfl,⟨af,kr,(HP.pick hH [] rfl)⟩⟩
 rintro e s hq
 rcases c7 with da|d9
 ·dsimp only at h hq
  obtain ⟨rfl,hR⟩:=hq
  obtain ⟨bi,rfl,hH⟩:=hR
  replace hH:HP _ []:=hH
  refine bx (tq (sq (rg Z3.f (tq (rt ?_)))))
  cases h
  exact ZaD kr
 dsimp only at h hq
 obtain ⟨rfl,hq⟩:=hq
 refine br (tr ?_)
 cases h
 exact hq
theorem Zbu (N:Nat)(a0_:Z5)(a1_:(List Z4))(r:Int)(h:Zbd N a0_ a1_=some r):Zbr Try.prog 10 [.agg (Z2 a0_),Z6 false a1_] (iv r):=by
 unfold Zbd at h
 have hH  := hp0
 refine ZaI ZwJ rfl rfl (Zat _ _ _ ?_) rfl
 refine sq (rg Z3.f (tq (sq (sq ?_))))
 obtain ⟨r1,hr1,h⟩:=bs h
 refine rg (Z3.v 1 (ZaE (hc:=ZfP N a0_ r1 hr1)) Z3.f) (tq (sq (rg Z3.f (tq (it h (λhc2 h=>?_) (λhc2 h=>?_))))))
 ·refine sq (rg Z3.f (tq (rt (tr ?_))))
  cases h
  exact ZaD kr
 refine sk (tq (kq (sq (sq ?_))))
 obtain ⟨r3,hr3,h⟩:=bs h
 refine rg (Z3.v 2 (ZaE (hc:=ZhD N a0_ a1_ r3 hr3)) Z3.f) (tq (it h (λhc4 h=>?_) (λhc4 h=>?_)))
 ·refine sq (rg Z3.f (tq (rt (tr ?_))))
  cases h
  exact ZaD kr
 refine sk (tq (kq (sq (sq ?_))))
 obtain ⟨r5,hr5,h⟩:=bs h
 refine rg (Z3.v 2 (ZaE (hc:=Zio N a0_ a1_ r5 hr5)) Z3.f) (tq (it h (λhc6 h=>?_) (λhc6 h=>?_)))
 ·refine sq (rg Z3.f (tq (rt (tr ?_))))
  cases h
  exact ZaD kr
 refine sk (tq (kq (sq (rg Z3.f (tq (rt ?_))))))
 cases h
 exact ZaD kr
theorem ZdE (N:Nat)(a0_:(List Int))(H:List HO)(hH:HP H [])(r:(List Int))(h:ZbL N a0_=some r):∃ (or_0_0_:AV) (H':List HO),Zcb Try.prog 29 [Zah false a0_] H (or_0_0_) H'/\Fp H H' [] [.arr or_0_0_ 1 false (List.map eI64 r)]:=by
 suffices hs:∃ r' H',Zcb Try.prog 29 [Zah false a0_] H r' H'/\∃ (or_0_0_:AV),r'=or_0_0_/\Fp H H' [] [.arr or_0_0_ 1 false (List.map eI64 r)] by
  obtain ⟨_,H',h1,or_0_0_,he,h2⟩:=hs
  exact ⟨or_0_0_,H',he ▸ h1,h2⟩
 unfold ZbL at h
 replace hH:=Fp.refl hH
 refine Zls Zwy [] (λr' H'=>∃ (or_0_0_:AV),r'=or_0_0_/\Fp H H' [] [.arr or_0_0_ 1 false (List.map eI64 r)]) (λr' H' q=>by obtain ⟨or_0_0_,e,hp⟩:=q;subst e;have hfor_0_0_:=Zbv (Fp.get hp 0 rfl);show ZaA _=true;cases hfor_0_0_<;>rfl) rfl kr (sq (rgS ⟨[(0,Zah false a0_)],[],H⟩ Z3.f kr (tq (sq (sq ?_)))))
 obtain ⟨u1,hu1,h⟩:=bs h
 refine rgS ⟨[(0,Zah false a0_),(4,bv false)],[],H⟩ (Z3.u 1 (Zac (ys:=[Zah false a0_]) (h:=ZkV (neg:=false) (Zn8 hu1))) Z3.f) kr (tq (ZnU kr (sk (tq (kq (sq ?_))))))
 obtain ⟨l4,hl4,h⟩:=bs h
 obtain ⟨a2,H3,ha2,hH⟩:=ZjL (sz:=1) eI64 hH hl4
 replace hH:Fp _ _ _ [.arr a2 1 false (List.map eI64 l4)]:=hH
 have hfa2:=Zbv (Fp.get hH 0 rfl)
 refine rgS ⟨[(2,a2)],[],H3⟩ (Z3.h 2 (ZdO (H:=H) (a:=Zah true []) (b:=Zah false a0_) kr kr kr kr ha2) Z3.f) (by cases hfa2<;>kernel_rfl) (tq (rt ?_))
 cases h
 exact ⟨[a2],(by cases hfa2<;>kernel_rfl),a2,(by cases hfa2<;>kernel_rfl),Fp.pk hH [0] rfl⟩
theorem Zkc (N:Nat)(a0_:Z5)(a1_:(List Z4))(a2_:(List Int))(r:Int×Int×Int)(h:ZhG N a0_ a1_ a2_=some r):Zbr Try.prog 14 [.agg (Z2 a0_),Z6 false a1_,Zah false a2_] (.tup [iv r.1,iv r.2.1,iv r.2.2]):=by
 unfold ZhG at h
 have hH  := hp0
 refine ZaI ZwH rfl rfl (Zat _ _ _ ?_) rfl
 refine sq (rg Z3.f (tq (Zlx (EvI.scope (sq (sq ?_))))))
 obtain ⟨r1,hr1,h⟩:=bs h
 refine rg (Z3.v 2 (ZaE (hc:=Zbu N a0_ a1_ r1 hr1)) Z3.f) (tq (sq (rg Z3.f (tq (it h (λhc2 h=>?_) (λhc2 h=>?_))))))
 ·refine sq (rg Z3.f (tq (rt (tr (nr ?_)))))
  cases h
  exact ZaD kr
 refine sk (tq (kq (sq (sq (rg (Z3.u 1 (Zac (ys:=[Zah false a2_]) (h:=Zas eI64)) (Z3.u 2 (Zac (ys:=[Zah false a0_.Periods]) (h:=Zas eI64)) Z3.f)) (tq (it h (λhc3 h=>?_) (λhc3 h=>?_))))))))
 ·refine sq (rg Z3.f (tq (rt (tr (nr ?_)))))
  cases h
  exact ZaD kr
 refine sk (tq (kq (sq (sq (rg (Z3.u 1 (Zac (ys:=[Zah false a2_]) (h:=Zas eI64)) Z3.f) (tq (bk ?_)))))))
 obtain ⟨b2,aM,h⟩:=bs h
 refine Za0 ((ZaM (λ(x:Int) s=>s=⟨[(1,Z6 false a1_),(2,Zah false a2_),(3,.loc 3 0),(29,Zah false a2_),(30,iv ((List.length a2_:Nat):Int)),(31,iv x)],[(3,(Z2 a0_))],[]⟩) (λx:Int=>ZdW N a0_ a2_ x) (λ(p:(Unit)⊕(Int×Int×Int)) e s=>match p with|(.inl p)=>e=.exit 0/\(s=⟨[(1,Z6 false a1_),(2,Zah false a2_),(3,.loc 3 0)],[(3,(Z2 a0_))],[]⟩)|(.inr p)=>e=.ret/\∃ xs,resL s i14.res=some xs/\ZbZ xs=.tup [iv p.1,iv p.2.1,iv p.2.2]) ?_ N _ b2 _ aM kr).mono ?_)
 ·clear h aM
  rintro i4 o s h hR
  obtain rfl:=hR
  replace h:ZdW N a0_ a2_ i4=some o:=h
  unfold ZdW at h
  refine sq (rg Z3.f (tq (sq (it h (λbm h=>?_) (λbm h=>?_)))))
  ·refine sk (tq (kq (sq (bk (sq ?_)))))
   obtain ⟨aJ,aR,h⟩:=bs h
   refine rg (Z3.u 1 (Zac (ys:=[Zah false a2_,iv i4]) (h:=Zae eI64 aR)) (Z3.u 0 (Zav (sz:=1) (off:=0) (cs:=[.int .i64 aJ]) (r:=iv aJ) eI64 aR) Z3.f)) (tq (sq ?_))
   obtain ⟨bw,hj,h⟩:=bs h
   refine rgR (λs=>s=⟨[(1,Z6 false a1_),(2,Zah false a2_),(3,.loc 3 0),(29,Zah false a2_),(30,iv ((List.length a2_:Nat):Int)),(31,iv i4),(46,bv bw)],[(3,(Z2 a0_))],[]⟩) ?_ ?_
   ·clear h
    rcases ZaJ hj with ⟨bl,hj⟩|⟨bj,hj⟩
    ·obtain rfl:=Zao hj
     exact (EP.u 1 (Zad (c:=(decide (aJ<0))) (h:=bl)) (EP.f kr))
    refine (EP.u 1 (Zad (c:=(decide (aJ<0))) (h:=bj)) ?_)
    obtain ⟨bp,aQ,hj⟩:=bs hj
    obtain rfl:=Zao hj
    exact (EP.u 5 (Zac (ys:=[Zah false a0_.Periods,iv i4]) (h:=Zae eI64 aQ)) (EP.u 0 (Zav (sz:=1) (off:=0) (cs:=[.int .i64 bp]) (r:=iv bp) eI64 aQ) (EP.f kr)))
   clear hj
   rintro s hR
   obtain rfl:=hR
   refine tq (it h (λbi h=>?_) (λbi h=>?_))
   ·refine sq (rg Z3.f (tq (rt (br (tr ?_)))))
    cases h
    exact ⟨_,rfl,rfl,ZaD kr⟩
   refine sk (bn (tq (kq (rg Z3.f ?_))))
   cases h
   exact ⟨_,rfl,kr⟩
  refine kq (xq (tx ?_))
  cases h
  exact ⟨_,rfl,rfl,kr⟩
 rintro e s hq
 rcases b2 with bE|bC
 ·dsimp only at h hq
  obtain ⟨rfl,hR⟩:=hq
  obtain rfl:=hR
  refine bx (tq (sq ?_))
  obtain ⟨b1,bb,h⟩:=bs h
  obtain ⟨aK,b0,aS,aV⟩:=ZdE N a2_    [] (HP.now (HP.pick hH [] rfl)) b1 bb
  replace hH:HP _ [.arr aK 1 false (List.map eI64 b1)]:=HP.callee (fp:=[]) (rest:=[]) (HP.pick hH [] rfl) aV
  have ae:=Zbv (HP.get hH 0 rfl)
  refine rgS ⟨[(1,Z6 false a1_),(3,.loc 3 0),(12,aK)],[(3,(Z2 a0_))],b0⟩ (Z3.v 1 (Zjg (H:=[]) (ys:=[Zah false a2_]) kr kr [[]] (Ze4 (Zkf rfl) passL_nil') aS) Z3.f) (by cases ae<;>kernel_rfl) (tq (sq (rgS ⟨[(1,Z6 false a1_),(3,.loc 3 0),(12,aK),(13,iv 0)],[(3,(Z2 a0_))],b0⟩ Z3.f (by cases ae<;>kernel_rfl) (tq (sq (Zly (tq (sq (bk ?_)))))))))
  obtain ⟨ba,aj,h⟩:=bs h
  refine Za0 ((ZaM (λ(x:Int×(List Int)) s=>∃ (a4:AV) (a7:List HO),s=⟨[(1,Z6 false a1_),(3,.loc 3 0),(12,a4),(13,iv x.1)],[(3,(Z2 a0_))],a7⟩/\HP a7 [.arr a4 1 false (List.map eI64 x.2)]) (λx:Int×(List Int)=>ZdV N a0_ a1_ x.1 x.2) (λ(p:Int×Int) e s=>e=.exit 2/\(∃ (aB:List HO),s=⟨[(6,iv p.1),(7,iv p.2)],[],aB⟩/\HP aB [])) ?_ N _ ba _ aj ⟨aK,b0,(by show _=_;cases ae<;>kernel_rfl),(HP.pick hH [0] rfl)⟩).mono ?_)
  ·clear h aj
   rintro ⟨a9,ab⟩ o s h hR
   obtain ⟨a4,a7,rfl,hH⟩:=hR
   replace hH:HP _ [.arr a4 1 false (List.map eI64 ab)]:=hH
   have a0:=Zbv (HP.get hH 0 rfl)
   replace h:ZdV N a0_ a1_ a9 ab=some o:=h
   unfold ZdV at h
   refine bk (sq ?_)
   obtain ⟨a8,ax,h⟩:=bs h
   refine rgS ⟨[(1,Z6 false a1_),(3,.loc 3 0),(6,iv a8.Stream),(12,a4),(13,iv a9)],[(3,(Z2 a0_))],a7⟩ (Z3.u 2 (Zac (ys:=[Z6 false a1_,iv a9]) (h:=Zae Zai ax)) (Z3.u 1 (Zav (sz:=2) (off:=0) (cs:=[.int .i64 a8.Stream]) (r:=iv a8.Stream) Zai ax) Z3.f)) (by cases a0<;>kernel_rfl) (tq (sq ?_))
   obtain ⟨a1,aw,h⟩:=bs h
   obtain ⟨bB,bu,_,be,aG,bf,ap⟩:=HP.elem (k:=0) (a:=a4) (sz:=1) (frz:=false) eI64 hH rfl aw
   refine rgS ⟨[(1,Z6 false a1_),(3,.loc 3 0),(6,iv a8.Stream),(12,a4),(13,iv a9),(14,iv a1)],[(3,(Z2 a0_))],a7⟩ (Z3.u 2 (Zac (ys:=[a4,iv a8.Stream]) (by cases a0<;>kernel_rfl) (ap .i64)) (Z3.u 0 (Zei (H:=a7) (off:=0) (cs:=[.int .i64 a1]) (r:=iv a1) eI64 aw aG) Z3.f)) (by cases a0<;>kernel_rfl) (tq (sq ?_))
   obtain ⟨af,av,h⟩:=bs h
   obtain ⟨a5,aU,h⟩:=bs h
   refine rgS ⟨[(1,Z6 false a1_),(3,.loc 3 0),(6,iv a8.Stream),(12,a4),(13,iv a9),(14,iv a1),(15,.loc 15 0)],[(3,(Z2 a0_)),(15,(Zbc a5))],a7⟩ (Z3.u 2 (Zac (ys:=[Z6 false a1_,iv a9]) (h:=Zae Zai av)) (Z3.u 0 (Zav (sz:=2) (off:=0) (cs:=[.int .i64 af.Stream,.sl 4 false (List.map Zaj af.Arms)]) (r:=.agg (Zdm af)) Zai av) (Z3.v 1 (ZaE (hc:=Zkb N af a1 a5 aU)) (Z3.f (h:=(by cases a0<;>kernel_rfl)))))) (by cases a0<;>kernel_rfl) (tq (sq (rgS ⟨[(1,Z6 false a1_),(3,.loc 3 0),(6,iv a8.Stream),(12,a4),(13,iv a9),(14,iv a1),(15,.loc 15 0),(66,iv a5.By)],[(3,(Z2 a0_)),(15,(Zbc a5))],a7⟩ Z3.f (by cases a0<;>kernel_rfl) (tq (bk (sq (rgS ⟨[(1,Z6 false a1_),(3,.loc 3 0),(6,iv a8.Stream),(12,a4),(13,iv a9),(14,iv a1),(15,.loc 15 0),(66,iv a5.By),(69,bv (a5.By==(-2)))],[(3,(Z2 a0_)),(15,(Zbc a5))],a7⟩ Z3.f (by cases a0<;>kernel_rfl) (tq (it h (λaY h=>?_) (λaY h=>?_))))))))))
   ·refine sq ?_
    have aC:=HP.len (k:=0) (a:=a4) (sz:=1) (frz:=false) (l:=ab) eI64 hH rfl
    refine rgS ⟨[(1,Z6 false a1_),(3,.loc 3 0),(12,a4),(13,iv a9),(14,iv a1),(72,iv ((List.length ab:Nat):Int)),(73,iv 0)],[(3,(Z2 a0_))],a7⟩ (Z3.u 1 (Zac (ys:=[a4]) (by cases a0<;>kernel_rfl) aC) Z3.f) (by cases a0<;>kernel_rfl) (tq (bk ?_))
    obtain ⟨aL,ak,h⟩:=bs h
    refine Za0 ((ZaM (λ(x:Int×(List Int)) s=>∃ (a2:AV) (aa:List HO),s=⟨[(1,Z6 false a1_),(3,.loc 3 0),(12,a2),(13,iv a9),(14,iv a1),(72,iv ((List.length ab:Nat):Int)),(73,iv x.1)],[(3,(Z2 a0_))],aa⟩/\HP aa [.arr a2 1 false (List.map eI64 x.2)]) (λx:Int×(List Int)=>ZdU N a0_ ab a1 x.1 x.2) (λ(p:(List Int)) e s=>e=.exit 5/\(∃ (ad:AV) (ag:List HO),s=⟨[(1,Z6 false a1_),(3,.loc 3 0),(12,ad),(13,iv a9)],[(3,(Z2 a0_))],ag⟩/\HP ag [.arr ad 1 false (List.map eI64 p)])) ?_ N _ aL _ ak ⟨a4,a7,(by show _=_;cases a0<;>kernel_rfl),(HP.pick hH [0] rfl)⟩).mono ?_)
    ·clear h ak
     rintro ⟨a6,ai⟩ o s h hR
     obtain ⟨a2,aa,rfl,hH⟩:=hR
     replace hH:HP _ [.arr a2 1 false (List.map eI64 ai)]:=hH
     have a3:=Zbv (HP.get hH 0 rfl)
     replace h:ZdU N a0_ ab a1 a6 ai=some o:=h
     unfold ZdU at h
     refine sq (rgS ⟨[(1,Z6 false a1_),(3,.loc 3 0),(12,a2),(13,iv a9),(14,iv a1),(72,iv ((List.length ab:Nat):Int)),(73,iv a6),(74,bv (decide (a6<((List.length ab:Nat):Int))))],[(3,(Z2 a0_))],aa⟩ Z3.f (by cases a3<;>kernel_rfl) (tq (sq (it h (λaX h=>?_) (λaX h=>?_)))))
     ·refine sk (tq (kq (sq (bk (sq (rgS ⟨[(1,Z6 false a1_),(3,.loc 3 0),(12,a2),(13,iv a9),(14,iv a1),(16,iv a6),(72,iv ((List.length ab:Nat):Int)),(73,iv a6)],[(3,(Z2 a0_))],aa⟩ Z3.f (by cases a3<;>kernel_rfl) (tq ?_)))))))
      obtain ⟨az,au,h⟩:=bs h
      obtain ⟨bA,bt,_,bc,aE,bd,ao⟩:=HP.elem (k:=0) (a:=a2) (sz:=1) (frz:=false) eI64 hH rfl au
      obtain ⟨ay,ar,h⟩:=bs h
      obtain ⟨ac,aT,h⟩:=bs h
      obtain ⟨bD,aq,h⟩:=bs h
      obtain ⟨bz,bq,_,am,aD,an,al⟩:=HP.elem (k:=0) (a:=a2) (sz:=1) (frz:=false) eI64 hH rfl aq
      obtain ⟨aA,aZ,hH⟩:=HP.setRow (k:=0) (off:=0) (cs:=[iv ac]) (ps:=[.int .i64 ac]) (e':=ac) eI64 hH rfl an aD (am rfl) aq kr kr
      replace hH:HP _ [.arr a2 1 false (List.map eI64 (List.set ai (Int.toNat a6) ac))]:=hH
      refine rqS ⟨[(1,Z6 false a1_),(3,.loc 3 0),(12,a2),(13,iv a9),(14,iv a1),(72,iv ((List.length ab:Nat):Int)),(73,iv a6)],[(3,(Z2 a0_))],aA⟩ (Z3.u 4 (Zac (ys:=[a2,iv a6]) (by cases a3<;>kernel_rfl) (ao .i64)) (Z3.u 0 (ZaV (Zei (H:=aa) (off:=0) (cs:=[.int .i64 az]) (r:=iv az) eI64 au aE)) (Z3.u 5 (Zac (ys:=[Zah false a0_.Periods,iv a6]) (h:=Zae eI64 ar)) (Z3.u 0 (ZaV (Zav (sz:=1) (off:=0) (cs:=[.int .i64 ay]) (r:=iv ay) eI64 ar)) (Z3.u 0 (ZfI (hc:=Zgz N (w64 (az-a1)) ay ac aT)) (Z3.u 0 (Zac (ys:=[a2,iv a6]) (by cases a3<;>kernel_rfl) (al .i64)) (Z3.o 0 (Zgv (ZcI (H:=aa) (v:=iv ac) (hw:=aZ)) kr) Z3.f))))))) (by cases a3<;>kernel_rfl) (bn (tq (rgS ⟨[(1,Z6 false a1_),(3,.loc 3 0),(12,a2),(13,iv a9),(14,iv a1),(72,iv ((List.length ab:Nat):Int)),(73,iv (w64 (a6+1)))],[(3,(Z2 a0_))],aA⟩ Z3.f (by cases a3<;>kernel_rfl) ?_)))
      cases h
      exact ⟨_,rfl,⟨a2,aA,(by show _=_;cases a3<;>kernel_rfl),(HP.pick hH [0] rfl)⟩⟩
     refine kq (xq (tx ?_))
     cases h
     exact ⟨_,rfl,rfl,⟨a2,aa,(by show _=_;cases a3<;>kernel_rfl),(HP.pick hH [0] rfl)⟩⟩
    rintro e s hq
    obtain ⟨rfl,hR⟩:=hq
    obtain ⟨ad,ag,rfl,hH⟩:=hR
    replace hH:HP _ [.arr ad 1 false (List.map eI64 aL)]:=hH
    have aI:=Zbv (HP.get hH 0 rfl)
    refine bx (bn (bn ?_))
    cases h
    exact ⟨_,rfl,⟨ad,ag,(by show _=_;cases aI<;>kernel_rfl),(HP.pick hH [0] rfl)⟩⟩
   refine sq (rgS ⟨[(1,Z6 false a1_),(3,.loc 3 0),(6,iv a8.Stream),(12,a4),(15,.loc 15 0),(92,bv (a5.By==(-1)))],[(3,(Z2 a0_)),(15,(Zbc a5))],a7⟩ Z3.f (by cases a0<;>kernel_rfl) (tq (it h (λaW h=>?_) (λaW h=>?_))))
   ·refine rgS ⟨[(1,Z6 false a1_),(3,.loc 3 0),(12,a4),(13,iv a5.Next)],[(3,(Z2 a0_))],a7⟩ Z3.f (by cases a0<;>kernel_rfl) (bn (bn ?_))
    cases h
    exact ⟨_,rfl,⟨a4,a7,(by show _=_;cases a0<;>kernel_rfl),(HP.pick hH [0] rfl)⟩⟩
   refine sq (rgS ⟨[(6,iv a8.Stream),(7,iv a5.By)],[],a7⟩ Z3.f (by cases a0<;>kernel_rfl) ?_)
   replace hH:HP _ []:=HP.pick hH [] rfl
   refine tq (kq (xq (bo (bo ?_))))
   cases h
   exact ⟨_,rfl,rfl,⟨a7,kr,(HP.pick hH [] rfl)⟩⟩
  rintro e s hq
  obtain ⟨rfl,hR⟩:=hq
  obtain ⟨aB,rfl,hH⟩:=hR
  replace hH:HP _ []:=hH
  refine bx (tq (sq (rg Z3.f (tq (rt (nr ?_))))))
  cases h
  exact ZaD kr
 dsimp only at h hq
 obtain ⟨rfl,hq⟩:=hq
 refine br (tr (nr ?_))
 cases h
 exact hq
theorem Ziv (N:Nat)(r:Bool)(h:ZdJ N=some r):Zbr Try.prog 12 [] (bv r):=by
 unfold ZdJ at h
 have hH  := hp0
 refine ZaI ZwI rfl rfl (Zat _ _ _ ?_) rfl
 refine sq (rg Z3.f (tq (sq ?_)))
 obtain ⟨r1,hr1,h⟩:=bs h
 refine rg (Z3.v 0 (ZaE (hc:=Ziw N  r1 hr1)) Z3.f) (tq (sq ?_))
 obtain ⟨r2,hr2,h⟩:=bs h
 obtain ⟨r3,hr3,h⟩:=bs h
 refine rg (Z3.v 3 (ZaE (hc:=ZbA N 0 ([(ZaZ.mk 0 1 (-1) 1),(ZaZ.mk 1 2 (-2) 0)]) r2 hr2)) (Z3.v 2 (ZaE (hc:=ZbA N 1 ([(ZaZ.mk 0 2 0 0)]) r3 hr3)) Z3.f)) (tq (sq ?_))
 obtain ⟨r4,hr4,h⟩:=bs h
 refine rg (Z3.v 2 (ZaE (hc:=ZbA N 0 ([(ZaZ.mk 0 2 1 0)]) r4 hr4)) Z3.f) (tq (sq ?_))
 obtain ⟨r5,hr5,h⟩:=bs h
 obtain ⟨r6,hr6,h⟩:=bs h
 refine rg (Z3.v 3 (ZaE (hc:=ZbA N 0 ([(ZaZ.mk 0 1 (-1) 1),(ZaZ.mk 1 2 (-1) 1)]) r5 hr5)) (Z3.v 2 (ZaE (hc:=ZbA N 1 ([(ZaZ.mk 0 2 0 0)]) r6 hr6)) Z3.f)) (tq (sq ?_))
 obtain ⟨r7,hr7,h⟩:=bs h
 obtain ⟨r8,hr8,h⟩:=bs h
 refine rg (Z3.v 3 (ZaE (hc:=ZbA N 0 ([(ZaZ.mk 0 1 (-1) 1),(ZaZ.mk 1 2 (-2) 0)]) r7 hr7)) (Z3.v 2 (ZaE (hc:=ZbA N 1 ([(ZaZ.mk 0 1 0 0)]) r8 hr8)) Z3.f)) (tq (sq ?_))
 obtain ⟨r9,hr9,h⟩:=bs h
 refine rg (Z3.v 3 (ZaE (hc:=Zkc N r1 ([r2,r3]) ([1,1]) r9 hr9)) Z3.f) (tq (sq ?_))
 obtain ⟨al,hj,h⟩:=bs h
 refine rgR (λs=>s=⟨[(0,bv al)],[],[]⟩) ?_ ?_
 ·clear h
  obtain ⟨a3,a7,hj⟩:=bs hj
  refine (EP.v 2 (ZaE (hc:=Zbu N r1 ([r2,r3]) a3 a7)) ?_)
  rcases ZaJ hj with ⟨ak,hj⟩|⟨a8,hj⟩
  ·refine (EP.u 0 (Zad (c:=(a3==0)) (h:=ak)) ?_)
   obtain ⟨a2,a6,hj⟩:=bs hj
   refine (EP.v 3 (ZaE (hc:=Zbu N r1 ([r4]) a2 a6)) ?_)
   rcases ZaJ hj with ⟨aj,hj⟩|⟨a9,hj⟩
   ·refine (EP.u 0 (Zad (c:=(a2==351)) (h:=aj)) ?_)
    obtain ⟨a1,a5,hj⟩:=bs hj
    refine (EP.v 4 (ZaE (hc:=Zbu N r1 ([r5,r6]) a1 a5)) ?_)
    rcases ZaJ hj with ⟨ai,hj⟩|⟨aa,hj⟩
    ·refine (EP.u 0 (Zad (c:=(a1==350)) (h:=ai)) ?_)
     obtain ⟨a0,a4,hj⟩:=bs hj
     refine (EP.v 4 (ZaE (hc:=Zbu N r1 ([r7,r8]) a0 a4)) ?_)
     rcases ZaJ hj with ⟨ag,hj⟩|⟨ab,hj⟩
     ·refine (EP.u 0 (Zad (c:=(a0==350)) (h:=ag)) ?_)
      rcases ZaJ hj with ⟨af,hj⟩|⟨ac,hj⟩
      ·refine (EP.u 3 (Zad (c:=(r9.1==1)) (h:=af)) ?_)
       rcases ZaJ hj with ⟨ae,hj⟩|⟨ad,hj⟩
       ·obtain rfl:=Zao hj
        exact (EP.u 3 (Zad (c:=(r9.2.1==0)) (h:=ae)) (EP.f kr))
       obtain rfl:=Zao hj
       exact (EP.u 3 (Zad (c:=(r9.2.1==0)) (h:=ad)) (EP.f kr))
      obtain rfl:=Zao hj
      exact (EP.u 3 (Zad (c:=(r9.1==1)) (h:=ac)) (EP.f kr))
     obtain rfl:=Zao hj
     exact (EP.u 0 (Zad (c:=(a0==350)) (h:=ab)) (EP.f kr))
    obtain rfl:=Zao hj
    exact (EP.u 0 (Zad (c:=(a1==350)) (h:=aa)) (EP.f kr))
   obtain rfl:=Zao hj
   exact (EP.u 0 (Zad (c:=(a2==351)) (h:=a9)) (EP.f kr))
  obtain rfl:=Zao hj
  exact (EP.u 0 (Zad (c:=(a3==0)) (h:=a8)) (EP.f kr))
 clear hj
 rintro s hR
 obtain rfl:=hR
 refine tq (rt ?_)
 cases h
 exact ZaD kr
end Go.Sh

