/- Part of the proof. -/
import Derived.Test.YtddgnfnfojoljaaProofReasonsOk1
set_option linter.all false
namespace Go.Sh
open Go Go.Eng Go.Proofs
set_option maxRecDepth 100000
set_option maxHeartbeats 4000000
attribute [local irreducible] vc ev ZfE opsD opsF ZgP upd updH updO
theorem Zmk {H:List HO}{f0:List ZaR}{H1:List HO}{a:AV}{u:Bool}{cs:List PC}{l:List Z7}(hF:Fp H H1 f0 [.deep a 4 u cs (l.map dpC)]):∃ H2,ZoA a H1 H2/\HP H2 [.arr a 2 false (l.map Zab)]:=by
 obtain ⟨H2,hs2,hF2⟩:=Fp.deepSeal (k:=0) hF rfl
 refine ⟨H2,hs2,?_⟩
 have:=hF2.now
 rw [Zoo] at this
 exact this
theorem ZpF {Q:Exit->St->Prop}{H1:List HO}{f0:List ZaR}{a:AV}{u:Bool}{cs:List PC}{l:List Z7}{b:ZaV}(hF:Fp [] H1 f0 [.deep a 4 u cs (l.map dpC)])(hQ:∀ s:St,(∃ xs,resL s i17.res=some xs/\ZbC xs=Z5 false l)->Q .ret s) :
  vc Try.prog i17.nt (Re ZrP [4] .ret) Q ⟨[(2,.loc 2 0),(5,a)],[(2,ZaG b)],H1⟩:=by
 have hfa:=ZeA (Fp.get hF 0 rfl)
 obtain ⟨H2,hs2,hF2⟩:=Zmk hF
 exact sq (rgS ⟨[(4,a)],[],H2⟩ (Z6.h (hm:=by cases hfa<;>kernel_rfl) 1 (Zkc (H:=H1) (b:=a) (by cases hfa<;>kernel_rfl) (by cases hfa<;>kernel_rfl) (by cases hfa<;>rfl) hs2) (Z6.f (h:=by cases hfa<;>kernel_rfl))) (by cases hfa<;>kernel_rfl) (tq (rt (hQ _ (ZeS (H:=H2) (ys:=[a]) (xs:=[Z5 false l]) (by cases hfa<;>kernel_rfl) (by cases hfa<;>kernel_rfl) (ZbI (HP.pure (k:=0) (frz:=false) Zab hF2 rfl).2 ZcB) kr)))))
theorem ZoU {Q:Exit->St->Prop}{H1:List HO}{f0:List ZaR}{a:AV}{u:Bool}{cs:List PC}{l:List Z7}{bx:List (Nat×List AV)}(hF:Fp [] H1 f0 [.deep a 4 u cs (l.map dpC)])(hbx:bx=[])(hQ:∀ s:St,(∃ xs,resL s i17.res=some xs/\ZbC xs=Z5 false l)->Q .ret s) :
  vc Try.prog i17.nt (Re Zpj [4] .ret) Q ⟨[(5,a)],bx,H1⟩:=by
 subst hbx
 have hfa:=ZeA (Fp.get hF 0 rfl)
 obtain ⟨H2,hs2,hF2⟩:=Zmk hF
 exact sq (rgS ⟨[(4,a)],[],H2⟩ (Z6.h (hm:=by cases hfa<;>kernel_rfl) 1 (Zkc (H:=H1) (b:=a) (by cases hfa<;>kernel_rfl) (by cases hfa<;>kernel_rfl) (by cases hfa<;>rfl) hs2) (Z6.f (h:=by cases hfa<;>kernel_rfl))) (by cases hfa<;>kernel_rfl) (tq (rt (hQ _ (ZeS (H:=H2) (ys:=[a]) (xs:=[Z5 false l]) (by cases hfa<;>kernel_rfl) (by cases hfa<;>kernel_rfl) (ZbI (HP.pure (k:=0) (frz:=false) Zab hF2 rfl).2 ZcB) kr)))))
theorem ZeK {Q:Exit->St->Prop}{H1:List HO}{f0:List ZaR}{a:AV}{u:Bool}{cs:List PC}{l:List Z7}{bx:List (Nat×List AV)}(hF:Fp [] H1 f0 [.deep a 4 u cs (l.map dpC)])(hbx:bx=[])(hQ:∀ s:St,(∃ xs,resL s i17.res=some xs/\ZbC xs=Z5 false l)->Q .ret s) :
  vc Try.prog i17.nt (Re Zpi [4] .ret) Q ⟨[(5,a)],bx,H1⟩:=by
 subst hbx
 have hfa:=ZeA (Fp.get hF 0 rfl)
 obtain ⟨H2,hs2,hF2⟩:=Zmk hF
 exact sq (rgS ⟨[(4,a)],[],H2⟩ (Z6.h (hm:=by cases hfa<;>kernel_rfl) 1 (Zkc (H:=H1) (b:=a) (by cases hfa<;>kernel_rfl) (by cases hfa<;>kernel_rfl) (by cases hfa<;>rfl) hs2) (Z6.f (h:=by cases hfa<;>kernel_rfl))) (by cases hfa<;>kernel_rfl) (tq (rt (hQ _ (ZeS (H:=H2) (ys:=[a]) (xs:=[Z5 false l]) (by cases hfa<;>kernel_rfl) (by cases hfa<;>kernel_rfl) (ZbI (HP.pure (k:=0) (frz:=false) Zab hF2 rfl).2 ZcB) kr)))))
theorem slHi {q v n:Nat}{k:Int}(h0:0<=k)(h1:k.toNat<=n):ZaI (.slice 4 false true false) [.osl 4 q v 0 n,iv k]=some (.osl 4 q v 0 k.toNat):=by
 simp [ZaI,ZeE,Zdl,h0,h1]
theorem slLo {H:List HO}{q v:Nat}{k:Int}{rows:List (List PC)}(hq:H[q]?=some (.arr 4 v false rows))(h0:0<=k)(h1:k.toNat<=rows.length) :
  ∃ y,ZaI (.slice 4 true false false) [.osl 4 q v 0 rows.length,iv k]=some y/\ZhL y=true/\ZdI H 4 y=some (rows.drop k.toNat)/\((∃ o l,y=.osl 4 q v o l)∨y=.p (.sl 4 false [])):=by
 by_cases h:k=0∨k.toNat<rows.length
 ·refine ⟨.osl 4 q v k.toNat (rows.length-k.toNat),?_,rfl,?_,.inl ⟨_,_,rfl⟩⟩
  ·have h':k.toNat=0∨k.toNat<rows.length:=by omega
   simp only [ZaI,ZeE,Zdl,Z3,Z2 h0,ZU,Zf,Z0,ZT]
   rw [Z2 (by refine ⟨?_,?_,?_,?_,?_,?_⟩<;>first|rfl|trivial|exact h1|exact h' | omega)]
  simp only [ZdI,hq,and_self,Z3,sub]
  rw [Z2 (by omega)]
  congr 1
  exact List.take_of_length_le (by simp)
 have e:k.toNat=rows.length:=by omega
 refine ⟨.p (.sl 4 false []),?_,rfl,?_,.inr rfl⟩
 ·have hn:¬ (k.toNat=0∨k.toNat<rows.length):=by omega
  simp only [ZaI,ZeE,Zdl,Z3,Z2 h0,ZU,Zf,Z0]
  rw [Z1 (λ⟨_,_,_,_,h,_⟩=>hn h),Z2 (by refine ⟨?_,?_,?_,?_,?_⟩<;>first|rfl|trivial|exact e)]
 rw [e,List.drop_length];rfl
theorem Zmi {α:Type}{l:List α}{i:Int}{x y:α}(h:idx l i=some x):idx (l.set i.toNat y) i=some y:=by
 obtain ⟨h0,h1,_⟩:=ZgL h
 unfold idx
 rw [Z2 h0,List.getElem?_set_self h1]
theorem Zec (N:Nat)(b_:ZaV)(a1_:List Z7)(r:List Z7)(h:Zcn N b_ a1_=some r):Za9 Try.prog 17 [.agg (ZaG b_),Z5 false a1_] (Z5 false r):=by
 unfold Zcn at h
 have hH  := hp0
 refine ZaC ZAC rfl rfl (Zat _ _ _ ?_) rfl
 refine sq (rg Z6.f (tq (sq (rg Z6.f (tq (sq (sq (rg Z6.f (tq (bk ?_))))))))))
 obtain ⟨o1,ho1,h⟩:=bs h
 refine ZaN ((ZaA (λ(x:Int×List Z7) s=>∃ (a1:AV) (cs:List PC) (H2:List HO),s=⟨[(1,Z5 false a1_),(2,.loc 2 0),(5,a1),(6,iv x.1)],[(2,ZaG b_)],H2⟩/\Fp [] H2 [] [.deep a1 4 true cs (x.2.map dpC)]) (λx:Int×List Z7=>Zbu a1_ x.1 x.2)
  (λ(p:List Z7) e s=>e=.exit 0/\∃ (a1:AV) (cs:List PC) (H2:List HO),s=⟨[(2,.loc 2 0),(5,a1)],[(2,ZaG b_)],H2⟩/\Fp [] H2 [] [.deep a1 4 true cs (p.map dpC)]) ?_ N _ o1 _ ho1 ⟨.p (.sl 2 true []),[],[],kr,Fp.deepNil (Fp.refl hH) 4⟩).mono ?_)
 ·clear h ho1
  rintro ⟨i3,l4⟩ o s h hR
  obtain ⟨a1,cs1,H1,rfl,hF1⟩:=hR
  have hfa1:=ZeA (Fp.get hF1 0 rfl)
  replace h:Zbu a1_ i3 l4=some o:=h
  unfold Zbu at h
  refine sq (sq (rgS ⟨[(1,Z5 false a1_),(2,.loc 2 0),(5,a1),(6,iv i3),(12,bv (decide (i3<((List.length a1_:Nat):Int))))],[(2,ZaG b_)],H1⟩ (Z6.u (hm:=by cases hfa1<;>kernel_rfl) 2 (Zac (ys:=[Z5 false a1_]) (by cases hfa1<;>kernel_rfl) (Zap Zab)) (Z6.f (h:=by cases hfa1<;>kernel_rfl))) (by cases hfa1<;>kernel_rfl) (tq (it h (λhc1 h=>?_) (λhc1 h=>?_) (hx:=by cases hfa1<;>kernel_rfl)))))
  ·refine sk (tq (kq (sq (bk ?_))))
   obtain ⟨e1,he1,h⟩:=bs h
   obtain ⟨l1,hl1,h⟩:=bs h
   obtain ⟨out,hout,h⟩:=bs h
   cases h
   obtain ⟨a2,H2,ha2,hF2⟩:=ZkP (sz:=4) Zah hF1 hl1
   have hfa2:=Za8 (Fp.get hF2 0 rfl)
   obtain ⟨rfl,hb1,hb2⟩:=ZfL hout
   obtain ⟨c3,a3,H3,hrw,hap,hF3⟩:=Fp.deepApp (k:=1) (j:=0) (bytes:=32) hF2 rfl rfl (by decide) e1.Stream (by simpa using hb1) (by simpa using hb2)
   replace hF3:Fp [] H3 [] [.deep a3 4 true (cs1++[c3]) ((l4++[Z7.mk e1.Stream l1]).map dpC)]:=by
    have:=Fp.pick hF3 [1] rfl
    rw [ZL]
    exact this
   have hfa3:=ZeA (Fp.get hF3 0 rfl)
   refine rqS (hs:=by cases hfa1<;>kernel_rfl) ⟨[(1,Z5 false a1_),(2,.loc 2 0),(5,a3),(6,iv i3)],[(2,ZaG b_)],H3⟩
    (Z6.u (hm:=by cases hfa1<;>kernel_rfl) 3 (Zac (ys:=[Z5 false a1_,iv i3]) (by cases hfa1<;>kernel_rfl) (Zaa Zab he1))
    (Z6.u (hm:=by cases hfa1<;>kernel_rfl) 1 (ZaK (Zao (sz:=2) (off:=0) (cs:=[.int .i64 e1.Stream]) (r:=iv e1.Stream) Zab he1 (by cases hfa1<;>kernel_rfl) kr kr) (by cases hfa1<;>kernel_rfl))
    (Z6.u (hm:=by cases hfa1<;>kernel_rfl) 3 (Zac (ys:=[Z5 false a1_,iv i3]) (by cases hfa1<;>kernel_rfl) (Zaa Zab he1))
    (Z6.u (hm:=by cases hfa1<;>kernel_rfl) 1 (ZaK (Zao (sz:=2) (off:=1) (cs:=[.sl 4 false (List.map Zah e1.Arms)]) (r:=Zak false e1.Arms) Zab he1 (by cases hfa1<;>kernel_rfl) kr kr) (by cases hfa1<;>kernel_rfl))
    (Z6.h (hm:=by cases hfa1<;>kernel_rfl) 0 (ZpV (Zee (H:=H1) (a:=Zak true []) (b:=Zak false e1.Arms) (by cases hfa1<;>kernel_rfl) (by cases hfa1<;>kernel_rfl) (by cases hfa1<;>kernel_rfl) kr ha2) (by cases hfa1<;>kernel_rfl))
    (Z6.h (hm:=by cases hfa1<;>cases hfa2<;>kernel_rfl) 1 (ZlY (H:=H2) (ys:=[.agg [iv e1.Stream,a2]]) (by cases hfa1<;>cases hfa2<;>kernel_rfl) (by cases hfa1<;>cases hfa2<;>kernel_rfl) hrw rfl rfl)
    (Z6.h (hm:=by cases hfa1<;>cases hfa2<;>kernel_rfl) 0 (Zee (H:=H2++[.arr 2 0 false [[.int .i64 e1.Stream,c3]]]) (a:=a1) (b:=.osl 2 H2.length 0 0 1) (by cases hfa1<;>cases hfa2<;>kernel_rfl) (by cases hfa1<;>cases hfa2<;>kernel_rfl) (by cases hfa1<;>cases hfa2<;>kernel_rfl) (ZiN _ _) hap) (Z6.f (h:=by cases hfa3<;>cases hfa1<;>cases hfa2<;>kernel_rfl)))))))))
    (by cases hfa3<;>cases hfa1<;>cases hfa2<;>kernel_rfl) ?_
   exact bn (tq (rgS ⟨[(1,Z5 false a1_),(2,.loc 2 0),(5,a3),(6,iv (w64 (i3+1)))],[(2,ZaG b_)],H3⟩ (Z6.f (h:=by cases hfa3<;>kernel_rfl)) (by cases hfa3<;>kernel_rfl) (⟨_,rfl,a3,_,H3,(by show _=_;cases hfa3<;>kernel_rfl),hF3⟩)))
  refine kq (xq (tx ?_))
  cases h
  exact ⟨_,rfl,rfl,a1,cs1,H1,(by show _=_;cases hfa1<;>kernel_rfl),hF1⟩
 rintro e s hq
 obtain ⟨rfl,a1,cs1,H1,rfl,hF1⟩:=hq
 clear ho1
 have hfa1:=ZeA (Fp.get hF1 0 rfl)
 refine bx (tq ?_)
 replace hF1:Fp [] H1 [] [.deep a1 4 true cs1 (o1.map dpC)]:=hF1
 generalize o1=out at h hF1
 refine sq (sq (rgS ⟨[(2,.loc 2 0),(5,a1),(33,bv (((List.length out:Nat):Int)==0))],[(2,ZaG b_)],H1⟩ (Z6.u (hm:=by cases hfa1<;>kernel_rfl) 1 (Zac (ys:=[a1]) (by cases hfa1<;>kernel_rfl) (ZfK (Fp.get hF1 0 rfl))) (Z6.f (h:=by cases hfa1<;>kernel_rfl))) (by cases hfa1<;>kernel_rfl) (tq (it h (λhc1 h=>?_) (λhc1 h=>?_) (hx:=by cases hfa1<;>kernel_rfl)))))
 ·have hqr:=Zan h
  subst hqr
  exact Eq.mp (congrArg _ (show ⟨[(2,.loc 2 0),(5,a1)],[(2,ZaG b_)],H1⟩=_ by cases hfa1<;>kernel_rfl)) (ZpF hF1 (λ_ hs=>tr hs))
 refine sk (tq (kq (sq ?_)))
 obtain ⟨c,hc,h⟩:=bs h
 obtain ⟨fc,hfc,h⟩:=bs h
 obtain ⟨id,ver,cc,bb,ha1,hcc,hbb,hidv,hfbb,hlbb,hr0,hr1,hr2⟩:=Ze6 (Fp.get hF1 0 rfl) (ZbZ dpC hfc)
 clear hfa1
 subst ha1
 have hpb:HP H1 [.arr bb 4 false (fc.Arms.map Zah)]:=hp1 hlbb
 have hle:=ZfK (Fp.get hF1 0 rfl)
 refine rgS ⟨[(2,.loc 2 0),(5,(.osl 2 id ver 0 (out.map dpC).length)),(7,.optr 2 id ver (0+c.toNat) 0)],[(2,ZaG b_)],H1⟩ (Z6.u 5 (Zac (ys:=[(.osl 2 id ver 0 (out.map dpC).length)]) (h:=hle)) (Z6.u 0 (Zac (ys:=[iv (w64 b_.Choice),iv ((List.length out:Nat):Int)]) (h:=Za6 hc)) (Z6.u 0 (Zac (ys:=[(.osl 2 id ver 0 (out.map dpC).length),iv c]) (h:=hidv .i64)) Z6.f))) kr (tq (sq ?_))
 obtain ⟨m,hm,h⟩:=bs h
 refine sq (rgX ⟨[(2,.loc 2 0),(5,(.osl 2 id ver 0 (out.map dpC).length)),(7,.optr 2 id ver (0+c.toNat) 0),(54,bv ((m==0)||(((List.length fc.Arms:Nat):Int)==0)))],[(2,ZaG b_)],H1⟩ ?_ ?_)
 ·refine EP.u 2 (Zac (ys:=[.p (.int .u8 b_.What),.p (.int .u8 8)]) (h:=Za6 hm)) ?_
  rcases Bool.eq_false_or_eq_true (m==0) with hc2|hc2
  ·exact EP.u 0 (Z9 (c:=(m==0)) (h:=hc2)) (EP.f (by simp only [hc2];kernel_rfl))
  exact EP.u 0 (Z9 (c:=(m==0)) (h:=hc2)) (EP.u (hm:=by cases hfbb<;>kernel_rfl) 4 (ZcS (H:=H1) (r:=bb) (p:=.optr 2 id ver (0+c.toNat) 1) (by cases hfbb<;>kernel_rfl) (by cases hfbb<;>kernel_rfl) hr1 (by cases hfbb<;>kernel_rfl) (by cases hfbb<;>kernel_rfl)) (EP.u (hm:=by cases hfbb<;>kernel_rfl) 0 (Zac (ys:=[bb]) (by cases hfbb<;>kernel_rfl) (HP.len (k:=0) (frz:=false) Zah hpb rfl)) (EP.f (h:=by cases hfbb<;>kernel_rfl) (by simp only [hc2];cases hfbb<;>kernel_rfl))))
 refine tq (it h (λhc2 h=>?_) (λhc2 h=>?_))
 ·cases h
  obtain ⟨id3,ver3,H3,ha3,hw3,hF3⟩:=Fp.deepFst (k:=0) hF1 rfl (ZbZ dpC hfc) b_.N_
  cases ha3
  replace hF3:Fp [] H3 [] [.deep (.osl 2 id ver 0 (out.map dpC).length) 4 true cs1 ((out.set c.toNat ⟨b_.N_,fc.Arms⟩).map dpC)]:=by
   rw [ZO]
   exact hF3
  exact sq (rgS ⟨[(5,(.osl 2 id ver 0 (out.map dpC).length))],[],H3⟩ (Z6.o 5 (Zb1 (H:=H1) (v:=iv b_.N_) (cs:=[iv b_.N_]) (p:=.optr 2 id ver (0+c.toNat) 0) rfl kr kr kr rfl hw3) Z6.f) kr (tq (ZoU hF3 rfl (λ_ hs=>tr hs))))
 refine sk (tq (kq (sq ?_)))
 obtain ⟨k,hk,h⟩:=bs h
 refine rqS ⟨[(2,.loc 2 0),(5,(.osl 2 id ver 0 (out.map dpC).length)),(7,.optr 2 id ver (0+c.toNat) 0),(8,iv k)],[(2,ZaG b_)],H1⟩ (Z6.u (hm:=by cases hfbb<;>kernel_rfl) 6 (ZaK (ZcS (H:=H1) (r:=bb) (p:=.optr 2 id ver (0+c.toNat) 1) (by cases hfbb<;>kernel_rfl) (by cases hfbb<;>kernel_rfl) hr1 (by cases hfbb<;>kernel_rfl) (by cases hfbb<;>kernel_rfl)) (by cases hfbb<;>kernel_rfl)) (Z6.u (hm:=by cases hfbb<;>kernel_rfl) 0 (Zac (ys:=[bb]) (by cases hfbb<;>kernel_rfl) (HP.len (k:=0) (frz:=false) Zah hpb rfl)) (Z6.u (hm:=by cases hfbb<;>kernel_rfl) 0 (Zac (ys:=[iv (w64 b_.Arm),iv ((List.length fc.Arms:Nat):Int)]) (by cases hfbb<;>kernel_rfl) (Za6 hk)) (Z6.f (h:=by cases hfbb<;>kernel_rfl))))) (by cases hfbb<;>kernel_rfl) (tq (sq (sq (rgS ⟨[(2,.loc 2 0),(5,(.osl 2 id ver 0 (out.map dpC).length)),(7,.optr 2 id ver (0+c.toNat) 0),(8,iv k),(72,.p (.int .u8 m))],[(2,ZaG b_)],H1⟩ (Z6.u 2 (Zac (ys:=[.p (.int .u8 b_.What),.p (.int .u8 8)]) (h:=Za6 hm)) Z6.f) kr (tq (bk ?_))))))
 unfold Zeb at h
 refine sq (rgS ⟨[(2,.loc 2 0),(5,(.osl 2 id ver 0 (out.map dpC).length)),(7,.optr 2 id ver (0+c.toNat) 0),(8,iv k),(72,.p (.int .u8 m)),(79,bv (m==1))],[(2,ZaG b_)],H1⟩ Z6.f kr (tq (it h (λhc3 h=>?_) (λhc3 h=>?_))))
 ·obtain ⟨e,he,h⟩:=bs h
  cases h
  obtain ⟨id7,ver7,H7,hid7a,hid7v,hw7,hF7⟩:=Fp.deepRow (k:=0) (vs:=[iv b_.N_]) (off:=0) (e':=Zah { e with From:=b_.N_ }) hF1 rfl (ZbZ dpC hfc) hcc hbb (ZbZ Zah he) rfl rfl
  replace hF7:Fp [] H7 [] [.deep (.osl 2 id ver 0 (out.map dpC).length) 4 true cs1 ((out.set c.toNat ⟨fc.Stream,fc.Arms.set k.toNat { e with From:=b_.N_ }⟩).map dpC)]:=by
   rw [ZO]
   simp only [dpC,ZO]
   exact hF7
  exact rqS ⟨[(5,(.osl 2 id ver 0 (out.map dpC).length))],[],H7⟩ (Z6.u (hm:=by cases hfbb<;>kernel_rfl) 3 (ZaK (ZcS (H:=H1) (r:=bb) (p:=.optr 2 id ver (0+c.toNat) 1) (by cases hfbb<;>kernel_rfl) (by cases hfbb<;>kernel_rfl) hr1 (by cases hfbb<;>kernel_rfl) (by cases hfbb<;>kernel_rfl)) (by cases hfbb<;>kernel_rfl)) (Z6.u (hm:=by cases hfbb<;>kernel_rfl) 3 (Zac (ys:=[bb,iv k]) (by cases hfbb<;>kernel_rfl) (hid7v .i64)) (Z6.o (hm:=by cases hfbb<;>kernel_rfl) 1 (Zgy (Zb1 (H:=H1) (v:=iv b_.N_) (cs:=[iv b_.N_]) (p:=.optr 4 id7 ver7 (0+k.toNat) 0) rfl (by cases hfbb<;>kernel_rfl) (by cases hfbb<;>kernel_rfl) (by cases hfbb<;>kernel_rfl) rfl hw7) (by cases hfbb<;>kernel_rfl)) (Z6.f (h:=by cases hfbb<;>kernel_rfl))))) (by cases hfbb<;>kernel_rfl) (bn (tq (kq (Eq.mp (congrArg _ (show ⟨[(5,(.osl 2 id ver 0 (out.map dpC).length))],[],H7⟩=_ by kernel_rfl)) (ZeK hF7 rfl (λ_ hs=>hs))))))
 refine sq (rgS ⟨[(2,.loc 2 0),(5,(.osl 2 id ver 0 (out.map dpC).length)),(7,.optr 2 id ver (0+c.toNat) 0),(8,iv k),(72,.p (.int .u8 m)),(90,bv (m==2))],[(2,ZaG b_)],H1⟩ Z6.f kr (tq (it h (λhc3 h=>?_) (λhc3 h=>?_))))
 ·obtain ⟨e,he,h⟩:=bs h
  cases h
  obtain ⟨id7,ver7,H7,hid7a,hid7v,hw7,hF7⟩:=Fp.deepRow (k:=0) (vs:=[iv b_.N_]) (off:=1) (e':=Zah { e with To:=b_.N_ }) hF1 rfl (ZbZ dpC hfc) hcc hbb (ZbZ Zah he) rfl rfl
  replace hF7:Fp [] H7 [] [.deep (.osl 2 id ver 0 (out.map dpC).length) 4 true cs1 ((out.set c.toNat ⟨fc.Stream,fc.Arms.set k.toNat { e with To:=b_.N_ }⟩).map dpC)]:=by
   rw [ZO]
   simp only [dpC,ZO]
   exact hF7
  exact rqS ⟨[(5,(.osl 2 id ver 0 (out.map dpC).length))],[],H7⟩ (Z6.u (hm:=by cases hfbb<;>kernel_rfl) 3 (ZaK (ZcS (H:=H1) (r:=bb) (p:=.optr 2 id ver (0+c.toNat) 1) (by cases hfbb<;>kernel_rfl) (by cases hfbb<;>kernel_rfl) hr1 (by cases hfbb<;>kernel_rfl) (by cases hfbb<;>kernel_rfl)) (by cases hfbb<;>kernel_rfl)) (Z6.u (hm:=by cases hfbb<;>kernel_rfl) 3 (Zac (ys:=[bb,iv k]) (by cases hfbb<;>kernel_rfl) (hid7v .i64)) (Z6.o (hm:=by cases hfbb<;>kernel_rfl) 1 (Zgy (Zb1 (H:=H1) (v:=iv b_.N_) (cs:=[iv b_.N_]) (p:=.optr 4 id7 ver7 (0+k.toNat) 1) rfl (by cases hfbb<;>kernel_rfl) (by cases hfbb<;>kernel_rfl) (by cases hfbb<;>kernel_rfl) rfl hw7) (by cases hfbb<;>kernel_rfl)) (Z6.f (h:=by cases hfbb<;>kernel_rfl))))) (by cases hfbb<;>kernel_rfl) (bn (tq (kq (Eq.mp (congrArg _ (show ⟨[(5,(.osl 2 id ver 0 (out.map dpC).length))],[],H7⟩=_ by kernel_rfl)) (ZeK hF7 rfl (λ_ hs=>hs))))))
 refine sq (rgS ⟨[(2,.loc 2 0),(5,(.osl 2 id ver 0 (out.map dpC).length)),(7,.optr 2 id ver (0+c.toNat) 0),(8,iv k),(72,.p (.int .u8 m)),(101,bv (m==3))],[(2,ZaG b_)],H1⟩ Z6.f kr (tq (it h (λhc3 h=>?_) (λhc3 h=>?_))))
 ·obtain ⟨e,he,h⟩:=bs h
  cases h
  obtain ⟨id7,ver7,H7,hid7a,hid7v,hw7,hF7⟩:=Fp.deepRow (k:=0) (vs:=[iv b_.N_]) (off:=2) (e':=Zah { e with By:=b_.N_ }) hF1 rfl (ZbZ dpC hfc) hcc hbb (ZbZ Zah he) rfl rfl
  replace hF7:Fp [] H7 [] [.deep (.osl 2 id ver 0 (out.map dpC).length) 4 true cs1 ((out.set c.toNat ⟨fc.Stream,fc.Arms.set k.toNat { e with By:=b_.N_ }⟩).map dpC)]:=by
   rw [ZO]
   simp only [dpC,ZO]
   exact hF7
  exact rqS ⟨[(5,(.osl 2 id ver 0 (out.map dpC).length))],[],H7⟩ (Z6.u (hm:=by cases hfbb<;>kernel_rfl) 3 (ZaK (ZcS (H:=H1) (r:=bb) (p:=.optr 2 id ver (0+c.toNat) 1) (by cases hfbb<;>kernel_rfl) (by cases hfbb<;>kernel_rfl) hr1 (by cases hfbb<;>kernel_rfl) (by cases hfbb<;>kernel_rfl)) (by cases hfbb<;>kernel_rfl)) (Z6.u (hm:=by cases hfbb<;>kernel_rfl) 3 (Zac (ys:=[bb,iv k]) (by cases hfbb<;>kernel_rfl) (hid7v .i64)) (Z6.o (hm:=by cases hfbb<;>kernel_rfl) 1 (Zgy (Zb1 (H:=H1) (v:=iv b_.N_) (cs:=[iv b_.N_]) (p:=.optr 4 id7 ver7 (0+k.toNat) 2) rfl (by cases hfbb<;>kernel_rfl) (by cases hfbb<;>kernel_rfl) (by cases hfbb<;>kernel_rfl) rfl hw7) (by cases hfbb<;>kernel_rfl)) (Z6.f (h:=by cases hfbb<;>kernel_rfl))))) (by cases hfbb<;>kernel_rfl) (bn (tq (kq (Eq.mp (congrArg _ (show ⟨[(5,(.osl 2 id ver 0 (out.map dpC).length))],[],H7⟩=_ by kernel_rfl)) (ZeK hF7 rfl (λ_ hs=>hs))))))
 refine sq (rgS ⟨[(2,.loc 2 0),(5,(.osl 2 id ver 0 (out.map dpC).length)),(7,.optr 2 id ver (0+c.toNat) 0),(8,iv k),(72,.p (.int .u8 m)),(112,bv (m==4))],[(2,ZaG b_)],H1⟩ Z6.f kr (tq (it h (λhc3 h=>?_) (λhc3 h=>?_))))
 ·obtain ⟨e,he,h⟩:=bs h
  cases h
  obtain ⟨id7,ver7,H7,hid7a,hid7v,hw7,hF7⟩:=Fp.deepRow (k:=0) (vs:=[iv b_.N_]) (off:=3) (e':=Zah { e with Next:=b_.N_ }) hF1 rfl (ZbZ dpC hfc) hcc hbb (ZbZ Zah he) rfl rfl
  replace hF7:Fp [] H7 [] [.deep (.osl 2 id ver 0 (out.map dpC).length) 4 true cs1 ((out.set c.toNat ⟨fc.Stream,fc.Arms.set k.toNat { e with Next:=b_.N_ }⟩).map dpC)]:=by
   rw [ZO]
   simp only [dpC,ZO]
   exact hF7
  exact rqS ⟨[(5,(.osl 2 id ver 0 (out.map dpC).length))],[],H7⟩ (Z6.u (hm:=by cases hfbb<;>kernel_rfl) 3 (ZaK (ZcS (H:=H1) (r:=bb) (p:=.optr 2 id ver (0+c.toNat) 1) (by cases hfbb<;>kernel_rfl) (by cases hfbb<;>kernel_rfl) hr1 (by cases hfbb<;>kernel_rfl) (by cases hfbb<;>kernel_rfl)) (by cases hfbb<;>kernel_rfl)) (Z6.u (hm:=by cases hfbb<;>kernel_rfl) 3 (Zac (ys:=[bb,iv k]) (by cases hfbb<;>kernel_rfl) (hid7v .i64)) (Z6.o (hm:=by cases hfbb<;>kernel_rfl) 1 (Zgy (Zb1 (H:=H1) (v:=iv b_.N_) (cs:=[iv b_.N_]) (p:=.optr 4 id7 ver7 (0+k.toNat) 3) rfl (by cases hfbb<;>kernel_rfl) (by cases hfbb<;>kernel_rfl) (by cases hfbb<;>kernel_rfl) rfl hw7) (by cases hfbb<;>kernel_rfl)) (Z6.f (h:=by cases hfbb<;>kernel_rfl))))) (by cases hfbb<;>kernel_rfl) (bn (tq (kq (Eq.mp (congrArg _ (show ⟨[(5,(.osl 2 id ver 0 (out.map dpC).length))],[],H7⟩=_ by kernel_rfl)) (ZeK hF7 rfl (λ_ hs=>hs))))))
 refine sq (rgS ⟨[(2,.loc 2 0),(5,(.osl 2 id ver 0 (out.map dpC).length)),(7,.optr 2 id ver (0+c.toNat) 0),(8,iv k),(72,.p (.int .u8 m)),(123,bv (m==5))],[(2,ZaG b_)],H1⟩ Z6.f kr (tq (it h (λhc3 h=>?_) (λhc3 h=>?_))))
 ·obtain ⟨e,he,h⟩:=bs h
  obtain ⟨l6,hl6,h⟩:=bs h
  obtain ⟨l7,hl7,h⟩:=bs h
  cases h
  obtain ⟨hk0,hk1,_⟩:=ZgL he
  have hw:w64 (k+1)=k+1:=by
   split at hl7
   ·assumption
   cases hl7
  rw [Z2 hw] at hl7
  obtain rfl:=Zan hl7
  obtain ⟨rfl,hb1,hb2⟩:=ZfL hl6
  have hlm:((dpC fc).2).length=fc.Arms.length:=by simp [dpC]
  obtain ⟨q9,v9,id9,ver9,H9,hbq,hq9,ha9,hw9,hF9⟩:=Fp.deepCut (k:=0) (m:=k.toNat) (new:=(dpC fc).2.drop (k+1).toNat) hF1 rfl (ZbZ dpC hfc) hcc hbb (by intro e0;rw [e0] at hlm;simp at hlm;omega) (by omega)
  cases ha9
  subst hbq
  have hk2:(k+1).toNat=k.toNat+1:=by omega
  have hdl:((dpC fc).2.drop (k+1).toNat).length=(fc.Arms.drop (k.toNat+1)).length:=by simp [dpC,hk2]
  have htl:(fc.Arms.take k.toNat).length=k.toNat:=by simp;omega
  obtain ⟨y,hy1,hy2,hy3,hy4⟩:=slLo (k:=k+1) hq9 (by omega) (by omega)
  replace hF9:Fp [] H9 [] [.deep (.osl 2 id ver 0 (out.map dpC).length) 4 true (cs1.set c.toNat (.ow 4 q9 (v9+2) (k.toNat+((dpC fc).2.drop (k+1).toNat).length))) ((out.set c.toNat ⟨fc.Stream,fc.Arms.take k.toNat++fc.Arms.drop (k.toNat+1)⟩).map dpC)]:=by
   rw [ZO]
   have e0:dpC ⟨fc.Stream,fc.Arms.take k.toNat++fc.Arms.drop (k.toNat+1)⟩=((dpC fc).1,(dpC fc).2.take k.toNat++(dpC fc).2.drop (k+1).toNat):=by simp [dpC,hk2,List.map_take,List.map_drop]
   rw [e0]
   exact hF9
  refine rqS ⟨[(5,(.osl 2 id ver 0 (out.map dpC).length))],[],H9⟩
   (Z6.u 4 (ZaK (ZcS (H:=H1) (r:=.osl 4 q9 v9 0 (dpC fc).2.length) (p:=.optr 2 id ver (0+c.toNat) 1) kr kr hr1 kr kr))
   (Z6.u 1 (Zac (ys:=[.osl 4 q9 v9 0 (dpC fc).2.length,iv k]) (h:=slHi hk0 (by omega)))
   (Z6.u 3 (ZaK (ZcS (H:=H1) (r:=.osl 4 q9 v9 0 (dpC fc).2.length) (p:=.optr 2 id ver (0+c.toNat) 1) kr kr hr1 kr kr))
   (Z6.u 2 (Zac (ys:=[.osl 4 q9 v9 0 (dpC fc).2.length,iv (w64 (k+1))]) (h:=hw.symm ▸ hy1))
   (Z6.h (hm:=by rcases hy4 with ⟨o,l,rfl⟩|rfl<;>kernel_rfl) 0 (Zpy (H:=H1) (m:=k.toNat) (by rcases hy4 with ⟨o,l,rfl⟩|rfl<;>kernel_rfl) (by rcases hy4 with ⟨o,l,rfl⟩|rfl<;>kernel_rfl) rfl (by rcases hy4 with ⟨o,l,rfl⟩|rfl<;>kernel_rfl) hy2 hy3 hq9 (by omega) (by rw [hdl];rw [htl] at hb1;exact hb1) (by rw [hdl];rw [htl] at hb2;exact hb2) rfl)
   (Z6.o (hm:=by rcases hy4 with ⟨o,l,rfl⟩|rfl<;>kernel_rfl) 2 (Zgy (Zb1 (cs:=[.osl 4 q9 (v9+2) 0 (k.toNat+((dpC fc).2.drop (k+1).toNat).length)]) (v:=.osl 4 q9 (v9+2) 0 (k.toNat+((dpC fc).2.drop (k+1).toNat).length)) (p:=.optr 2 id ver (0+c.toNat) 1) rfl (by rcases hy4 with ⟨o,l,rfl⟩|rfl<;>kernel_rfl) (by rcases hy4 with ⟨o,l,rfl⟩|rfl<;>kernel_rfl) (by rcases hy4 with ⟨o,l,rfl⟩|rfl<;>kernel_rfl) rfl hw9) (by rcases hy4 with ⟨o,l,rfl⟩|rfl<;>kernel_rfl))
   (Z6.f (h:=by rcases hy4 with ⟨o,l,rfl⟩|rfl<;>kernel_rfl)))))))) (by rcases hy4 with ⟨o,l,rfl⟩|rfl<;>kernel_rfl) ?_
  exact bn (tq (kq (Eq.mp (congrArg _ (show ⟨[(5,(.osl 2 id ver 0 (out.map dpC).length))],[],H9⟩=_ by kernel_rfl)) (ZeK hF9 rfl (λ_ hs=>hs)))))
 refine sq (rgS ⟨[(2,.loc 2 0),(5,(.osl 2 id ver 0 (out.map dpC).length)),(7,.optr 2 id ver (0+c.toNat) 0),(8,iv k),(142,bv (m==6))],[(2,ZaG b_)],H1⟩ Z6.f kr (tq (it h (λhc3 h=>?_) (λhc3 h=>?_))))
 ·refine sq (rgS ⟨[(2,.loc 2 0),(5,(.osl 2 id ver 0 (out.map dpC).length)),(7,.optr 2 id ver (0+c.toNat) 0),(8,iv k),(151,bv (decide (w64 (k+1)<((List.length fc.Arms:Nat):Int))))],[(2,ZaG b_)],H1⟩ (Z6.u (hm:=by cases hfbb<;>kernel_rfl) 5 (ZcS (H:=H1) (r:=bb) (p:=.optr 2 id ver (0+c.toNat) 1) (by cases hfbb<;>kernel_rfl) (by cases hfbb<;>kernel_rfl) hr1 (by cases hfbb<;>kernel_rfl) (by cases hfbb<;>kernel_rfl)) (Z6.u (hm:=by cases hfbb<;>kernel_rfl) 0 (Zac (ys:=[bb]) (by cases hfbb<;>kernel_rfl) (HP.len (k:=0) (frz:=false) Zah hpb rfl)) (Z6.f (h:=by cases hfbb<;>kernel_rfl)))) (by cases hfbb<;>kernel_rfl) (tq (it h (λhc4 h=>?_) (λhc4 h=>?_))))
  ·obtain ⟨e,he,h⟩:=bs h
   obtain ⟨e',he',h⟩:=bs h
   cases h
   obtain ⟨id7,ver7,H7,hid7a,hid7v,hw7,hF7⟩:=Fp.deepRow (k:=0) (vs:=[iv b_.N_]) (off:=1) (e':=Zah { e with To:=b_.N_ }) hF1 rfl (ZbZ dpC hfc) hcc hbb (ZbZ Zah he) rfl rfl
   replace hF7:Fp [] H7 [] [.deep (.osl 2 id ver 0 (out.map dpC).length) 4 true cs1 ((out.set c.toNat ⟨fc.Stream,fc.Arms.set k.toNat { e with To:=b_.N_ }⟩).map dpC)]:=by
    rw [ZO]
    simp only [dpC,ZO]
    exact hF7
   obtain ⟨id8,ver8,H8,hid8a,hid8v,hw8,hF8⟩:=Fp.deepRow (k:=0) (vs:=[iv b_.N_]) (off:=0) (e':=Zah { e' with From:=b_.N_ }) hF7 rfl (ZbZ dpC (Zmi hfc)) hcc hbb (ZbZ Zah he') rfl rfl
   replace hF8:Fp [] H8 [] [.deep (.osl 2 id ver 0 (out.map dpC).length) 4 true cs1 ((out.set c.toNat ⟨fc.Stream,(fc.Arms.set k.toNat { e with To:=b_.N_ }).set (w64 (k+1)).toNat { e' with From:=b_.N_ }⟩).map dpC)]:=by
    rw [ZO]
    simp only [dpC,ZO,List.set_set] at hF8 ⊢
    exact hF8
   refine rqS ⟨[(5,(.osl 2 id ver 0 (out.map dpC).length))],[],H8⟩ (Z6.u (hm:=by cases hfbb<;>kernel_rfl) 3 (ZaK (ZcS (H:=H1) (r:=bb) (p:=.optr 2 id ver (0+c.toNat) 1) (by cases hfbb<;>kernel_rfl) (by cases hfbb<;>kernel_rfl) hr1 (by cases hfbb<;>kernel_rfl) (by cases hfbb<;>kernel_rfl)) (by cases hfbb<;>kernel_rfl)) (Z6.u (hm:=by cases hfbb<;>kernel_rfl) 4 (ZaK (ZcS (H:=H1) (r:=bb) (p:=.optr 2 id ver (0+c.toNat) 1) (by cases hfbb<;>kernel_rfl) (by cases hfbb<;>kernel_rfl) hr1 (by cases hfbb<;>kernel_rfl) (by cases hfbb<;>kernel_rfl)) (by cases hfbb<;>kernel_rfl)) (Z6.u (hm:=by cases hfbb<;>kernel_rfl) 6 (Zac (ys:=[bb,iv k]) (by cases hfbb<;>kernel_rfl) (hid7v .i64)) (Z6.o (hm:=by cases hfbb<;>kernel_rfl) 1 (Zgy (Zb1 (H:=H1) (v:=iv b_.N_) (cs:=[iv b_.N_]) (p:=.optr 4 id7 ver7 (0+k.toNat) 1) rfl (by cases hfbb<;>kernel_rfl) (by cases hfbb<;>kernel_rfl) (by cases hfbb<;>kernel_rfl) rfl hw7) (by cases hfbb<;>kernel_rfl))
    (Z6.u (hm:=by cases hfbb<;>kernel_rfl) 0 (Zac (ys:=[bb,iv (w64 (k+1))]) (by cases hfbb<;>kernel_rfl) (hid8v .i64)) (Z6.o (hm:=by cases hfbb<;>kernel_rfl) 1 (Zgy (Zb1 (H:=H7) (v:=iv b_.N_) (cs:=[iv b_.N_]) (p:=.optr 4 id8 ver8 (0+(w64 (k+1)).toNat) 0) rfl (by cases hfbb<;>kernel_rfl) (by cases hfbb<;>kernel_rfl) (by cases hfbb<;>kernel_rfl) rfl hw8) (by cases hfbb<;>kernel_rfl)) (Z6.f (h:=by cases hfbb<;>kernel_rfl)))))))) (by cases hfbb<;>kernel_rfl) ?_
   exact bn (tq (kq (Eq.mp (congrArg _ (show ⟨[(5,(.osl 2 id ver 0 (out.map dpC).length))],[],H8⟩=_ by kernel_rfl)) (ZeK hF8 rfl (λ_ hs=>hs)))))
  have hqr:=Zan h
  subst hqr
  exact sk (bn (tq (kq (Eq.mp (congrArg _ (show ⟨[(5,(.osl 2 id ver 0 (out.map dpC).length))],[],H1⟩=_ by kernel_rfl)) (ZeK hF1 rfl (λ_ hs=>hs))))))
 obtain ⟨rfl,hb1,hb2⟩:=ZfL h
 obtain ⟨a3,H3,hrw,hap,hF3⟩:=Fp.deepDup (k:=0) (bytes:=32) hF1 rfl (ZbZ dpC hfc) hcc hbb (by simpa using hb1) (by simpa using hb2)
 replace hF3:Fp [] H3 [] [.deep a3 4 false (cs1++[cc]) ((out++[fc]).map dpC)]:=by
  rw [ZL]
  exact hF3
 have hfa3:=ZeA (Fp.get hF3 0 rfl)
 refine rgS ⟨[(5,a3)],[],H3⟩ (Z6.u (hm:=by cases hfbb<;>kernel_rfl) 3 (ZcS (H:=H1) (r:=.agg [iv fc.Stream,bb]) (p:=.optr 2 id ver (0+c.toNat) 0) (by cases hfbb<;>kernel_rfl) (by cases hfbb<;>kernel_rfl) hr2 (by cases hfbb<;>kernel_rfl) (by cases hfbb<;>kernel_rfl)) (Z6.h (hm:=by cases hfbb<;>kernel_rfl) 0 (ZlY (H:=H1) (ys:=[.agg [iv fc.Stream,bb]]) (by cases hfbb<;>kernel_rfl) (by cases hfbb<;>kernel_rfl) hrw rfl rfl)
  (Z6.h (hm:=by cases hfbb<;>kernel_rfl) 0 (Zee (H:=H1++[.arr 2 0 false [[.int .i64 fc.Stream,cc]]]) (a:=(.osl 2 id ver 0 (out.map dpC).length)) (b:=.osl 2 H1.length 0 0 1) (by cases hfbb<;>kernel_rfl) (by cases hfbb<;>kernel_rfl) (by cases hfbb<;>kernel_rfl) (ZiN _ _) hap) (Z6.f (h:=by cases hfa3<;>cases hfbb<;>kernel_rfl))))) (by cases hfa3<;>cases hfbb<;>kernel_rfl) ?_
 exact bn (tq (kq (Eq.mp (congrArg _ (show ⟨[(5,a3)],[],H3⟩=_ by cases hfa3<;>kernel_rfl)) (ZeK hF3 rfl (λ_ hs=>hs)))))
theorem ZhU (N:Nat)(rec_:Z8->((List Z7))->Int->Zad->Option (Bool))(hrec_:∀ (a0_:Z8) (a1_:(List Z7)) (a2_:Int) (a3_:Zad) (r:Bool),rec_ a0_ a1_ a2_ a3_=some r->Za9 Try.prog 28 [.agg (Z4 a0_),Z5 false a1_,iv a2_,.agg (Zaq a3_)] (bv r))(a0_:Z8)(a1_:(List Z7))(a2_:Int)(a3_:Zad)(r:Bool)(h:Zdr N rec_ a0_ a1_ a2_ a3_=some r):Za9 Try.prog 28 [.agg (Z4 a0_),Z5 false a1_,iv a2_,.agg (Zaq a3_)] (bv r):=by
 unfold Zdr at h
 have hH  := hp0
 refine ZaC ZAs rfl rfl (Zat _ _ _ ?_) rfl
 refine sq (rg Z6.f (tq (sq ?_)))
 obtain ⟨e1,he1,h⟩:=bs h
 refine rg (Z6.u 2 (Zac (ys:=[Z5 false a1_,iv a2_]) (h:=Zaa Zab he1)) (Z6.u 1 (Zao (sz:=2) (off:=0) (cs:=[.int .i64 e1.Stream]) (r:=iv e1.Stream) Zab he1) Z6.f)) (tq (sq (sq ?_)))
 obtain ⟨e2,he2,h⟩:=bs h
 refine rg (Z6.u 1 (Zac (ys:=[.loc 7 0,iv e1.Stream]) (h:=ZbQ (l:=a3_.l) he2 rfl)) (Z6.o 0 (Zft (t:=7) (off:=0) (cs:=(Zaq a3_)) (l:=a3_.l) (λx=>iv x) [] [] he2 kr kr rfl rfl) Z6.f)) (tq (it h (λhc3 h=>?_) (λhc3 h=>?_)))
 ·refine sq (rg Z6.f (tq (rt (tr ?_))))
  cases h
  exact Zar kr
 refine sk (tq (kq (sq (sq (rg Z6.f (tq (bk ?_)))))))
 obtain ⟨a9,a3,h⟩:=bs h
 refine ZaN ((ZaA (λ(x:Int) s=>s=⟨[(1,Z5 false a1_),(2,iv a2_),(4,.loc 4 0),(7,.loc 7 0),(9,iv e1.Stream),(10,iv x)],[(4,(Z4 a0_)),(7,(Zaq a3_))],[]⟩) (λx:Int=>Zcu N rec_ a0_ a1_ a2_ a3_ e1 x) (λ(p:(Unit)⊕(Bool)) e s=>match p with|(.inl p)=>e=.exit 0/\(s=⟨[],[],[]⟩)|(.inr p)=>e=.ret/\∃ xs,resL s i28.res=some xs/\ZbC xs=bv p) ?_ N _ a9 _ a3 kr).mono ?_)
 ·clear h a3
  rintro i4 o s h hR
  obtain rfl:=hR
  replace h:Zcu N rec_ a0_ a1_ a2_ a3_ e1 i4=some o:=h
  unfold Zcu at h
  refine sq (sq ?_)
  obtain ⟨an,ae,h⟩:=bs h
  refine rg (Z6.u 3 (Zac (ys:=[Z5 false a1_,iv a2_]) (h:=Zaa Zab ae)) (Z6.u 1 (Zao (sz:=2) (off:=1) (cs:=[.sl 4 false (List.map Zah an.Arms)]) (r:=Zak false an.Arms) Zab ae) (Z6.u 0 (Zac (ys:=[Zak false an.Arms]) (h:=Zap Zah)) Z6.f))) (tq (it h (λav h=>?_) (λav h=>?_)))
  ·refine sk (tq (kq (sq (bk (sq ?_)))))
   obtain ⟨am,ad,h⟩:=bs h
   obtain ⟨a0,ac,h⟩:=bs h
   refine rg (Z6.u 2 (Zac (ys:=[Z5 false a1_,iv a2_]) (h:=Zaa Zab ad)) (Z6.u 1 (Zao (sz:=2) (off:=1) (cs:=[.sl 4 false (List.map Zah am.Arms)]) (r:=Zak false am.Arms) Zab ad) (Z6.u 1 (Zac (ys:=[Zak false am.Arms,iv i4]) (h:=Zaa Zah ac)) (Z6.u 0 (Zao (sz:=4) (off:=0) (cs:=[.int .i64 a0.From,.int .i64 a0.To,.int .i64 a0.By,.int .i64 a0.Next]) (r:=.agg (ZaH a0)) Zah ac) Z6.f)))) (tq (sq (sq (rg Z6.f (tq (it h (λau h=>?_) (λau h=>?_)))))))
   ·refine sq (rg Z6.f (tq (sq ?_)))
    obtain ⟨aC,ab,h⟩:=bs h
    refine rg (Z6.u 3 (Zac (ys:=[.loc 12 0,iv e1.Stream]) (h:=ZbQ (l:=a3_.l) ab rfl)) (Z6.o 0 (ZfO (t:=12) (off:=0) (cs:=(Zaq a3_)) (l:=a3_.l) (λx=>iv x) [] [] (y:=a0.From) (cs':=(Zaq (Zad.set a3_ e1.Stream a0.From))) ab kr kr kr rfl rfl (ZkO (Zad.c_set a3_ e1.Stream a0.From) (by show (Zaq (Zad.set a3_ e1.Stream a0.From))=[]++(Zaq (Zad.set a3_ e1.Stream a0.From)++[]);rfl))) Z6.f)) (tq (sq (sq ?_)))
    obtain ⟨aw,aq,h⟩:=bs h
    refine rg (Z6.v 5 (Zaw (hc:=hrec_ a0_ a1_ a0.Next (Zad.set a3_ e1.Stream a0.From) aw aq)) Z6.f) (tq (it h (λar h=>?_) (λar h=>?_)))
    ·refine sq (rg Z6.f (tq (rt (tr (tr (br (tr ?_)))))))
     cases h
     exact ⟨_,rfl,rfl,Zar kr⟩
    refine sk (tq (kq (xq (tx (bx (tq (kq (rg Z6.f ?_))))))))
    cases h
    exact ⟨_,rfl,kr⟩
   refine sk (tq (kq (sq (rg Z6.f (tq (bk ?_))))))
   obtain ⟨aa,a4,h⟩:=bs h
   refine ZaN ((ZaA (λ(x:Int) s=>s=⟨[(1,Z5 false a1_),(2,iv a2_),(4,.loc 4 0),(7,.loc 7 0),(9,iv e1.Stream),(10,iv i4),(11,.loc 11 0),(13,iv x)],[(4,(Z4 a0_)),(7,(Zaq a3_)),(11,(ZaH a0))],[]⟩) (λx:Int=>Zbp N a0_ a3_ e1 a0 x) (λ(p:(Unit)⊕(Bool)) e s=>match p with|(.inl p)=>e=.exit 2/\(s=⟨[(1,Z5 false a1_),(2,iv a2_),(4,.loc 4 0),(7,.loc 7 0),(9,iv e1.Stream),(10,iv i4)],[(4,(Z4 a0_)),(7,(Zaq a3_))],[]⟩)|(.inr p)=>e=.ret/\∃ xs,resL s i28.res=some xs/\ZbC xs=bv p) ?_ N _ aa _ a4 kr).mono ?_)
   ·clear h a4
    rintro a1 o s h hR
    obtain rfl:=hR
    replace h:Zbp N a0_ a3_ e1 a0 a1=some o:=h
    unfold Zbp at h
    refine sq (sq (rgX ⟨[(1,Z5 false a1_),(2,iv a2_),(4,.loc 4 0),(7,.loc 7 0),(9,iv e1.Stream),(10,iv i4),(11,.loc 11 0),(13,iv a1),(67,bv ((decide (a1<a0.To))&&(decide (a0.By≥0))))],[(4,(Z4 a0_)),(7,(Zaq a3_)),(11,(ZaH a0))],[]⟩ ?_ ?_))
    ·rcases Bool.eq_false_or_eq_true (decide (a1<a0.To)) with a8|a7
     ·exact (EP.u 3 (Z9 (c:=(decide (a1<a0.To))) (h:=a8)) (EP.f (by simp only [a8];kernel_rfl)))
     exact (EP.u 3 (Z9 (c:=(decide (a1<a0.To))) (h:=a7)) (EP.f (by simp only [a7];kernel_rfl)))
    refine tq (it h (λal h=>?_) (λal h=>?_))
    ·refine sk (tq (kq (sq (bk (sq ?_)))))
     obtain ⟨aB,a6,h⟩:=bs h
     refine rg (Z6.u 2 (Zac (ys:=[.loc 7 0,iv a0.By]) (h:=ZbQ (l:=a3_.l) a6 rfl)) (Z6.o 0 (Zft (t:=7) (off:=0) (cs:=(Zaq a3_)) (l:=a3_.l) (λx=>iv x) [] [] a6 kr kr rfl rfl) Z6.f)) (tq ?_)
     obtain ⟨a2,a5,h⟩:=bs h
     refine ZdQ [1,2,4,7,9,10,11,13,14] (λs=>s=⟨[(1,Z5 false a1_),(2,iv a2_),(4,.loc 4 0),(7,.loc 7 0),(9,iv e1.Stream),(10,iv i4),(11,.loc 11 0),(13,iv a1),(14,iv a2)],[(4,(Z4 a0_)),(7,(Zaq a3_)),(11,(ZaH a0))],[]⟩) ?_ ?_
     ·clear h
      have h:=a5
      refine sq (rg Z6.f (tq (it h (λak h=>?_) (λak h=>?_))))
      ·refine rg Z6.f ?_
       cases h
       exact ⟨rfl,kr⟩
      refine sk ?_
      cases h
      exact ⟨rfl,kr⟩
     clear a5
     rintro s hR
     obtain rfl:=hR
     refine sq ?_
     obtain ⟨ap,hj,h⟩:=bs h
     refine rgR (λs=>s=⟨[(1,Z5 false a1_),(2,iv a2_),(4,.loc 4 0),(7,.loc 7 0),(9,iv e1.Stream),(10,iv i4),(11,.loc 11 0),(13,iv a1),(90,bv ap)],[(4,(Z4 a0_)),(7,(Zaq a3_)),(11,(ZaH a0))],[]⟩) ?_ ?_
     ·clear h
      rcases ZaD hj with ⟨aj,hj⟩|⟨ai,hj⟩
      ·obtain rfl:=Zan hj
       exact (EP.u 1 (Z9 (c:=(decide (a2<0))) (h:=aj)) (EP.f kr))
      refine (EP.u 1 (Z9 (c:=(decide (a2<0))) (h:=ai)) ?_)
      obtain ⟨ao,af,hj⟩:=bs hj
      obtain rfl:=Zan hj
      exact (EP.v 7 (Zaw (hc:=Zf9 N a0_ e1.Stream a1 a0.By a2 ao af)) (EP.f kr))
     clear hj
     rintro s hR
     obtain rfl:=hR
     refine tq (it h (λag h=>?_) (λag h=>?_))
     ·refine sq (rg Z6.f (tq (rt (br (tr ?_)))))
      cases h
      exact ⟨_,rfl,rfl,Zar kr⟩
     refine sk (bn (tq (kq (rg Z6.f ?_))))
     cases h
     exact ⟨_,rfl,kr⟩
    refine kq (xq (tx ?_))
    cases h
    exact ⟨_,rfl,rfl,kr⟩
   rintro e s hq
   rcases aa with aA|az
   ·dsimp only at h hq
    obtain ⟨rfl,hR⟩:=hq
    obtain rfl:=hR
    refine bx (bn (tq (kq (rg Z6.f ?_))))
    cases h
    exact ⟨_,rfl,kr⟩
   dsimp only at h hq
   obtain ⟨rfl,hq⟩:=hq
   refine br (br (tr ?_))
   cases h
   exact ⟨_,rfl,rfl,hq⟩
  refine kq (xq (tx ?_))
  cases h
  exact ⟨_,rfl,rfl,kr⟩
 rintro e s hq
 rcases a9 with ay|ax
 ·dsimp only at h hq
  obtain ⟨rfl,hR⟩:=hq
  obtain rfl:=hR
  refine bx (tq (sq (rg Z6.f (tq (rt ?_)))))
  cases h
  exact Zar kr
 dsimp only at h hq
 obtain ⟨rfl,hq⟩:=hq
 refine br (tr ?_)
 cases h
 exact hq
theorem Zf8:∀ (N:Nat) (a0_:Z8) (a1_:(List Z7)) (a2_:Int) (a3_:Zad) (r:Bool) (h:ZdL N a0_ a1_ a2_ a3_=some r),Za9 Try.prog 28 [.agg (Z4 a0_),Z5 false a1_,iv a2_,.agg (Zaq a3_)] (bv r)
 | 0,a0_,a1_,a2_,a3_,r,h=>by cases h
 | N+1,a0_,a1_,a2_,a3_,r,h=>ZhU N (ZdL N) (λa0_ a1_ a2_ a3_ r h=>Zf8 N a0_ a1_ a2_ a3_ r h) a0_ a1_ a2_ a3_ r h
theorem Zkw (N:Nat)(a0_:(List Int))(r:Int×Int)(h:Zej N a0_=some r):Za9 Try.prog 37 [Zaf false a0_] (.tup [iv r.1,iv r.2]):=by
 unfold Zej at h
 have hH  := hp0
 refine ZaC ZAj rfl rfl (Zat _ _ _ ?_) rfl
 refine sq (rg Z6.f (tq (sq ?_)))
 obtain ⟨l3,hl3,h⟩:=bs h
 obtain ⟨a1,H2,ha1,hH2,ha1b,hH⟩:=HP.make ZaZ hH hl3
 replace hH:HP _ [.arr a1 3 false (List.map ZaZ l3)]:=hH
 have hfa1:=Za8 (HP.get hH 0 rfl)
 refine rgS ⟨[(0,Zaf false a0_),(4,a1)],[],H2⟩ (Z6.u 1 (Zac (ys:=[Zaf false a0_]) (h:=Zap eI64)) (Z6.h 0 (Zkd (H:=[]) (zero:=[.int .i64 0,.int .i64 0,.int .i64 0]) (bytes:=24) kr kr kr ha1 hH2 ha1b) Z6.f)) (by cases hfa1<;>kernel_rfl) (tq (sq (sq (rgS ⟨[(4,a1),(10,Zaf false a0_),(11,iv ((List.length a0_:Nat):Int)),(12,iv 0)],[],H2⟩ (Z6.u 1 (Zac (ys:=[Zaf false a0_]) (h:=Zap eI64)) Z6.f) (by cases hfa1<;>kernel_rfl) (tq (bk ?_))))))
 obtain ⟨a5,ab,h⟩:=bs h
 refine ZaN ((ZaA (λ(x:Int×(List Zaj)) s=>∃ (a4:AV) (H5:List HO),s=⟨[(4,a4),(10,Zaf false a0_),(11,iv ((List.length a0_:Nat):Int)),(12,iv x.1)],[],H5⟩/\HP H5 [.arr a4 3 false (List.map ZaZ x.2)]) (λx:Int×(List Zaj)=>Zcl N a0_ x.1 x.2) (λ(p:(List Zaj)) e s=>e=.exit 0/\(∃ (a2:AV) (aa:List HO),s=⟨[(4,a2)],[],aa⟩/\HP aa [.arr a2 3 false (List.map ZaZ p)])) ?_ N _ a5 _ ab ⟨a1,H2,(by show _=_;cases hfa1<;>kernel_rfl),(HP.pick hH [0] rfl)⟩).mono ?_)
 ·clear h ab
  rintro ⟨i6,l7⟩ o s h hR
  obtain ⟨a4,H5,rfl,hH⟩:=hR
  replace hH:HP _ [.arr a4 3 false (List.map ZaZ l7)]:=hH
  have hfa4:=Za8 (HP.get hH 0 rfl)
  replace h:Zcl N a0_ i6 l7=some o:=h
  unfold Zcl at h
  refine sq (rgS ⟨[(4,a4),(10,Zaf false a0_),(11,iv ((List.length a0_:Nat):Int)),(12,iv i6),(13,bv (decide (i6<((List.length a0_:Nat):Int))))],[],H5⟩ Z6.f (by cases hfa4<;>kernel_rfl) (tq (sq (it h (λaj h=>?_) (λaj h=>?_)))))
  ·refine sk (tq (kq (sq (bk (sq ?_)))))
   obtain ⟨a0,ad,h⟩:=bs h
   refine rgS ⟨[(4,a4),(5,iv i6),(6,iv a0),(10,Zaf false a0_),(11,iv ((List.length a0_:Nat):Int)),(12,iv i6)],[],H5⟩ (Z6.u 1 (Zac (ys:=[Zaf false a0_,iv i6]) (h:=Zaa eI64 ad)) (Z6.u 0 (Zao (sz:=1) (off:=0) (cs:=[.int .i64 a0]) (r:=iv a0) eI64 ad) Z6.f)) (by cases hfa4<;>kernel_rfl) (tq ?_)
   obtain ⟨ap,ac,h⟩:=bs h
   obtain ⟨ao,al,_,a8,af,a9,a7⟩:=HP.elem (k:=0) (a:=a4) (sz:=3) (frz:=false) ZaZ hH rfl ac
   obtain ⟨ag,ak,hH⟩:=HP.setRow (k:=0) (off:=0) (cs:=[iv a0,iv 0,iv 1]) (ps:=[.int .i64 a0,.int .i64 0,.int .i64 1]) (e':=(Zaj.mk a0 0 1)) ZaZ hH rfl a9 af (a8 rfl) ac kr kr
   replace hH:HP _ [.arr a4 3 false (List.map ZaZ (List.set l7 (Int.toNat i6) (Zaj.mk a0 0 1)))]:=hH
   refine rgS ⟨[(4,a4),(10,Zaf false a0_),(11,iv ((List.length a0_:Nat):Int)),(12,iv i6)],[],ag⟩ (Z6.u 4 (Zac (ys:=[a4,iv i6]) (by cases hfa4<;>kernel_rfl) (a7 .i64)) (Z6.o 0 (ZcI (H:=H5) (v:=.agg [iv a0,iv 0,iv 1]) (hw:=ak)) Z6.f)) (by cases hfa4<;>kernel_rfl) (bn (tq (rgS ⟨[(4,a4),(10,Zaf false a0_),(11,iv ((List.length a0_:Nat):Int)),(12,iv (w64 (i6+1)))],[],ag⟩ Z6.f (by cases hfa4<;>kernel_rfl) ?_)))
   cases h
   exact ⟨_,rfl,⟨a4,ag,(by show _=_;cases hfa4<;>kernel_rfl),(HP.pick hH [0] rfl)⟩⟩
  refine kq (xq (tx ?_))
  cases h
  exact ⟨_,rfl,rfl,⟨a4,H5,(by show _=_;cases hfa4<;>kernel_rfl),(HP.pick hH [0] rfl)⟩⟩
 rintro e s hq
 obtain ⟨rfl,hR⟩:=hq
 obtain ⟨a2,aa,rfl,hH⟩:=hR
 replace hH:HP _ [.arr a2 3 false (List.map ZaZ a5)]:=hH
 have a3:=Za8 (HP.get hH 0 rfl)
 refine bx (tq (sq ?_))
 obtain ⟨ae,ai,h⟩:=bs h
 obtain ⟨an,am,a6,hH⟩:=HP.frz (k:=0) (a:=a2) (sz:=3) (frz:=false) ZaZ hH rfl
 replace hH:HP _ [.arr a2 3 true (List.map ZaZ a5)]:=hH
 refine rgS ⟨[(2,iv ae.1),(3,iv ae.2)],[],an⟩ (Z6.v 1 (ZmB (H:=aa) (ys:=[a2]) (by cases a3<;>kernel_rfl) (by cases a3<;>kernel_rfl) (ZiU a6 ZmR) (ZhQ N a5 ae ai)) Z6.f) kr ?_
 replace hH:HP _ []:=HP.pick hH [] rfl
 refine tq (rt ?_)
 cases h
 exact Zar kr
theorem ZhS (N:Nat)(a0_:Zaj)(a1_:Zaj)(r:Bool×Int)(h:Zdq N a0_ a1_=some r):Za9 Try.prog 47 [.agg (Zbm a0_),.agg (Zbm a1_)] (.tup [bv r.1,iv r.2]):=by
 unfold Zdq at h
 have hH  := hp0
 refine ZaC ZAa rfl rfl (Zat _ _ _ ?_) rfl
 refine sq (rg Z6.f (tq (sq (sq ?_))))
 obtain ⟨r1,hr1,h⟩:=bs h
 refine rg (Z6.v 1 (Zaw (hc:=Zd9 N a0_ r1 hr1)) Z6.f) (tq (sq (rg Z6.f (tq (it h (λhc2 h=>?_) (λhc2 h=>?_))))))
 ·refine sq (rg Z6.f (tq (rt (tr ?_))))
  cases h
  exact Zar kr
 refine sk (tq (kq (sq (sq ?_))))
 obtain ⟨r3,hr3,h⟩:=bs h
 refine rg (Z6.v 1 (Zaw (hc:=Zd9 N a1_ r3 hr3)) Z6.f) (tq (sq (rg Z6.f (tq (it h (λhc4 h=>?_) (λhc4 h=>?_))))))
 ·refine sq (rg Z6.f (tq (rt (tr ?_))))
  cases h
  exact Zar kr
 refine sk (tq (kq (sq ?_)))
 obtain ⟨r5,hr5,h⟩:=bs h
 refine rg (Z6.v 2 (Zaw (hc:=ZhO N a0_ a1_ r5 hr5)) Z6.f) (tq (rt ?_))
 cases h
 exact Zar kr
theorem ZiO (N:Nat)(a0_:Z8)(a1_:(List Z7))(a2_:ZaV)(a3_:ZaV)(r:ZbN)(h:Zd2 N a0_ a1_ a2_ a3_=some r):Za9 Try.prog 9 [.agg (Z4 a0_),Z5 false a1_,.agg (ZaG a2_),.agg (ZaG a3_)] (.agg [Z5 false r.x0,Z5 false r.x1,Z5 false r.x2,Z5 false r.x3]):=by
 unfold Zd2 at h
 have hH  := hp0
 refine ZaC chk9 rfl rfl (Zat _ _ _ ?_) rfl
 refine sq (rg Z6.f (tq (sq ?_)))
 obtain ⟨r1,hr1,h⟩:=bs h
 refine rg (Z6.v 1 (Zaw (hc:=Zko N a0_ r1 hr1)) Z6.f) (tq ?_)
 obtain ⟨a1,a0,h⟩:=bs h
 refine ZdQ [1,6,7,8,9] (λs=>s=⟨[(1,Z5 false a1_),(6,.loc 6 0),(7,.loc 7 0),(8,.loc 8 0),(9,Z5 false a1)],[(6,(ZaG a2_)),(7,(ZaG a3_)),(8,[Z5 true [],Z5 true [],Z5 true [],Z5 true []])],[]⟩) ?_ ?_
 ·clear h
  have h:=a0
  refine sq (rg Z6.f (tq (it h (λa8 h=>?_) (λa8 h=>?_))))
  ·obtain ⟨ac,a7,h⟩:=bs h
   refine rg (Z6.v 1 (Zaw (hc:=ZhC N a1_ ac a7)) Z6.f) ?_
   cases h
   exact ⟨rfl,kr⟩
  refine sk ?_
  cases h
  exact ⟨rfl,kr⟩
 clear a0
 rintro s hR
 obtain rfl:=hR
 refine sq ?_
 obtain ⟨ab,a6,h⟩:=bs h
 obtain ⟨aa,a5,h⟩:=bs h
 obtain ⟨a2,a4,h⟩:=bs h
 obtain ⟨a9,a3,h⟩:=bs h
 refine rq (Z6.u 1 (Zdn (hc:=ZhC N a1_ ab a6)) (Z6.u 3 (Zdn (hc:=Zec N a2_ a1 aa a5)) (Z6.u 3 (Zdn (hc:=Zec N a2_ a1 a2 a4)) (Z6.u 0 (Zdn (hc:=Zec N a3_ a2 a9 a3)) Z6.f)))) (tq (rt ?_))
 cases h
 exact Zar kr
theorem Zjk (N:Nat)(a0_:Z8)(a1_:(List Z7))(r:Int)(h:ZdN N a0_ a1_=some r):Za9 Try.prog 11 [.agg (Z4 a0_),Z5 false a1_] (iv r):=by
 unfold ZdN at h
 have hH  := hp0
 refine ZaC ZAI rfl rfl (Zat _ _ _ ?_) rfl
 refine sq (rg Z6.f (tq (sq (sq ?_))))
 obtain ⟨r1,hr1,h⟩:=bs h
 refine rg (Z6.v 1 (Zaw (hc:=Zjm N a0_ r1 hr1)) Z6.f) (tq (it h (λhc2 h=>?_) (λhc2 h=>?_)))
 ·refine sq (rg Z6.f (tq (rt (tr ?_))))
  cases h
  exact Zar kr
 refine sk (tq (kq (sq (sq ?_))))
 obtain ⟨r3,hr3,h⟩:=bs h
 refine rg (Z6.v 2 (Zaw (hc:=Zkq N a0_ a1_ r3 hr3)) Z6.f) (tq (it h (λhc4 h=>?_) (λhc4 h=>?_)))
 ·refine sq (rg Z6.f (tq (rt (tr ?_))))
  cases h
  exact Zar kr
 refine sk (tq (kq (sq (rg Z6.f (tq (sq (sq (rg Z6.f (tq (bk ?_))))))))))
 obtain ⟨a2,a0,h⟩:=bs h
 refine ZaN ((ZaA (λ(x:Int×Zad) s=>s=⟨[(1,Z5 false a1_),(2,.loc 2 0),(5,.loc 5 0),(6,iv x.1)],[(2,(Z4 a0_)),(5,(Zaq x.2))],[]⟩) (λx:Int×Zad=>Zcv N x.1 x.2) (λ(p:Zad) e s=>e=.exit 0/\(s=⟨[(1,Z5 false a1_),(2,.loc 2 0),(5,.loc 5 0)],[(2,(Z4 a0_)),(5,(Zaq p))],[]⟩)) ?_ N _ a2 _ a0 kr).mono ?_)
 ·clear h a0
  rintro ⟨i5,l6⟩ o s h hR
  obtain rfl:=hR
  replace h:Zcv N i5 l6=some o:=h
  unfold Zcv at h
  refine sq (sq (rg Z6.f (tq (it h (λa5 h=>?_) (λa5 h=>?_)))))
  ·refine sk (tq (kq (sq (bk ?_))))
   obtain ⟨a7,a1,h⟩:=bs h
   refine rg (Z6.u 1 (Zac (ys:=[.loc 5 0,iv i5]) (h:=ZbQ (l:=l6.l) a1 rfl)) (Z6.o 0 (ZfO (t:=5) (off:=0) (cs:=(Zaq l6)) (l:=l6.l) (λx=>iv x) [] [] (y:=(-1)) (cs':=(Zaq (Zad.set l6 i5 (-1)))) a1 kr kr kr rfl rfl (ZkO (Zad.c_set l6 i5 (-1)) (by show (Zaq (Zad.set l6 i5 (-1)))=[]++(Zaq (Zad.set l6 i5 (-1))++[]);rfl))) Z6.f)) (bn (tq (rg Z6.f ?_)))
   cases h
   exact ⟨_,rfl,kr⟩
  refine kq (xq (tx ?_))
  cases h
  exact ⟨_,rfl,rfl,kr⟩
 rintro e s hq
 obtain ⟨rfl,hR⟩:=hq
 obtain rfl:=hR
 refine bx (tq (sq (sq ?_)))
 obtain ⟨a6,a3,h⟩:=bs h
 refine rg (Z6.v 3 (Zaw (hc:=Zf8 N a0_ a1_ 0 a2 a6 a3)) Z6.f) (tq (it h (λa4 h=>?_) (λa4 h=>?_)))
 ·refine sq (rg Z6.f (tq (rt (tr ?_))))
  cases h
  exact Zar kr
 refine sk (tq (kq (sq (rg Z6.f (tq (rt ?_))))))
 cases h
 exact Zar kr
theorem Zca (N:Nat)(a0_:Z8)(a1_:(List Z7))(a2_:(List Int))(r:Int×Int×Int)(h:Zcp N a0_ a1_ a2_=some r):Za9 Try.prog 15 [.agg (Z4 a0_),Z5 false a1_,Zaf false a2_] (.tup [iv r.1,iv r.2.1,iv r.2.2]):=by
 unfold Zcp at h
 have hH  := hp0
 refine ZaC ZAE rfl rfl (Zat _ _ _ ?_) rfl
 refine sq (rg Z6.f (tq (sq ?_)))
 obtain ⟨r1,hr1,h⟩:=bs h
 refine rg (Z6.v 2 (Zaw (hc:=Zjk N a0_ a1_ r1 hr1)) Z6.f) (tq (sq (sq (rg Z6.f (tq (it h (λhc2 h=>?_) (λhc2 h=>?_)))))))
 ·refine sq (rg Z6.f (tq (rt (tr ?_))))
  cases h
  exact Zar kr
 refine sk (tq (kq (sq (sq ?_))))
 obtain ⟨r3,hr3,h⟩:=bs h
 refine rg (Z6.v 2 (Zaw (hc:=ZhV N a0_ a2_ r3 hr3)) Z6.f) (tq (it h (λhc4 h=>?_) (λhc4 h=>?_)))
 ·refine sq (rg Z6.f (tq (rt (tr ?_))))
  cases h
  exact Zar kr
 refine sk (tq (kq (sq ?_)))
 obtain ⟨l7,hl7,h⟩:=bs h
 obtain ⟨a5,H6,ha5,hH⟩:=ZpS (sz:=1) eI64 hH hl7
 replace hH:HP _ [.arr a5 1 false (List.map eI64 l7)]:=hH
 have hfa5:=Za8 (HP.get hH 0 rfl)
 refine rgS ⟨[(1,Z5 false a1_),(3,.loc 3 0),(10,a5)],[(3,(Z4 a0_))],H6⟩ (Z6.h 2 (Zee (H:=[]) (a:=Zaf true []) (b:=Zaf false a2_) kr kr kr kr ha5) Z6.f) (by cases hfa5<;>kernel_rfl) (tq (sq (rgS ⟨[(1,Z5 false a1_),(3,.loc 3 0),(10,a5),(11,iv 0)],[(3,(Z4 a0_))],H6⟩ Z6.f (by cases hfa5<;>kernel_rfl) (tq (bk ?_)))))
 obtain ⟨b2,ak,h⟩:=bs h
 refine ZaN ((ZaA (λ(x:Int×(List Int)) s=>∃ (a8:AV) (H9:List HO),s=⟨[(1,Z5 false a1_),(3,.loc 3 0),(10,a8),(11,iv x.1)],[(3,(Z4 a0_))],H9⟩/\HP H9 [.arr a8 1 false (List.map eI64 x.2)]) (λx:Int×(List Int)=>ZcK N a0_ a1_ x.1 x.2) (λ(p:Int×Int×Int) e s=>e=.ret/\∃ xs,resL s i15.res=some xs/\ZbC xs=.tup [iv p.1,iv p.2.1,iv p.2.2]) ?_ N _ b2 _ ak ⟨a5,H6,(by show _=_;cases hfa5<;>kernel_rfl),(HP.pick hH [0] rfl)⟩).mono ?_)
 ·clear h ak
  rintro ⟨i10,bw⟩ o s h hR
  obtain ⟨a8,H9,rfl,hH⟩:=hR
  replace hH:HP _ [.arr a8 1 false (List.map eI64 bw)]:=hH
  have hfa8:=Za8 (HP.get hH 0 rfl)
  replace h:ZcK N a0_ a1_ i10 bw=some o:=h
  unfold ZcK at h
  refine bk (sq ?_)
  obtain ⟨a4,aT,h⟩:=bs h
  refine rgS ⟨[(1,Z5 false a1_),(3,.loc 3 0),(10,a8),(11,iv i10),(12,iv a4.Stream)],[(3,(Z4 a0_))],H9⟩ (Z6.u 2 (Zac (ys:=[Z5 false a1_,iv i10]) (h:=Zaa Zab aT)) (Z6.u 1 (Zao (sz:=2) (off:=0) (cs:=[.int .i64 a4.Stream]) (r:=iv a4.Stream) Zab aT) Z6.f)) (by cases hfa8<;>kernel_rfl) (tq (sq ?_))
  obtain ⟨aL,aS,h⟩:=bs h
  obtain ⟨b1,aR,h⟩:=bs h
  obtain ⟨bz,bp,_,bl,aW,bm,aG⟩:=HP.elem (k:=0) (a:=a8) (sz:=1) (frz:=false) eI64 hH rfl aR
  obtain ⟨a7,ba,h⟩:=bs h
  refine rqS (hs:=(by cases hfa8<;>kernel_rfl)) ⟨[(1,Z5 false a1_),(3,.loc 3 0),(10,a8),(11,iv i10),(12,iv a4.Stream),(13,.loc 13 0)],[(3,(Z4 a0_)),(13,(ZaH a7))],H9⟩ (Z6.u 2 (Zac (ys:=[Z5 false a1_,iv i10]) (h:=Zaa Zab aS)) (Z6.u 0 (ZaK (Zao (sz:=2) (off:=0) (cs:=[.int .i64 aL.Stream,.sl 4 false (List.map Zah aL.Arms)]) (r:=.agg (ZbB aL)) Zab aS)) (Z6.u 2 (Zac (ys:=[a8,iv a4.Stream]) (by cases hfa8<;>kernel_rfl) (aG .i64)) (Z6.u 0 (ZaK (Zc7 (H:=H9) (off:=0) (cs:=[.int .i64 b1]) (r:=iv b1) eI64 aR aW)) (Z6.u 0 (Zdn (hc:=Zhp N aL b1 a7 ba)) (Z6.f (h:=(by cases hfa8<;>kernel_rfl)))))))) (by cases hfa8<;>kernel_rfl) (tq ?_)
  obtain ⟨a2,am,h⟩:=bs h
  refine ZdQ [1,3,10,12,13] (λs=>∃ (a9:AV) (ab:List HO),s=⟨[(1,Z5 false a1_),(3,.loc 3 0),(10,a9),(12,iv a4.Stream),(13,.loc 13 0)],[(3,(Z4 a0_)),(13,[iv a2.1,iv a2.2.1,iv a2.2.2.1,iv a2.2.2.2.1])],ab⟩/\HP ab [.arr a9 1 false (List.map eI64 a2.2.2.2.2)]) ?_ ?_
  ·clear h
   have h:=am
   refine sq (rgS ⟨[(1,Z5 false a1_),(3,.loc 3 0),(10,a8),(11,iv i10),(12,iv a4.Stream),(13,.loc 13 0),(45,bv (a7.By==(-2)))],[(3,(Z4 a0_)),(13,(ZaH a7))],H9⟩ Z6.f (by cases hfa8<;>kernel_rfl) (tq (it h (λaZ h=>?_) (λaZ h=>?_))))
   ·refine sq ?_
    obtain ⟨a3,az,h⟩:=bs h
    obtain ⟨bu,bj,_,bd,aK,be,ar⟩:=HP.elem (k:=0) (a:=a8) (sz:=1) (frz:=false) eI64 hH rfl az
    refine rgS ⟨[(1,Z5 false a1_),(3,.loc 3 0),(10,a8),(11,iv i10),(12,iv a4.Stream),(13,.loc 13 0),(14,iv a3)],[(3,(Z4 a0_)),(13,(ZaH a7))],H9⟩ (Z6.u 2 (Zac (ys:=[a8,iv a4.Stream]) (by cases hfa8<;>kernel_rfl) (ar .i64)) (Z6.u 0 (Zc7 (H:=H9) (off:=0) (cs:=[.int .i64 a3]) (r:=iv a3) eI64 az aK) Z6.f)) (by cases hfa8<;>kernel_rfl) (tq (sq (sq (rgS ⟨[(1,Z5 false a1_),(3,.loc 3 0),(10,a8),(11,iv i10),(12,iv a4.Stream),(13,.loc 13 0),(14,iv a3),(15,iv 0)],[(3,(Z4 a0_)),(13,(ZaH a7))],H9⟩ Z6.f (by cases hfa8<;>kernel_rfl) (tq (bk ?_))))))
    obtain ⟨aQ,al,h⟩:=bs h
    refine ZaN ((ZaA (λ(x:Int×(List Int)) s=>∃ (a0:AV) (aa:List HO),s=⟨[(1,Z5 false a1_),(3,.loc 3 0),(10,a0),(11,iv i10),(12,iv a4.Stream),(13,.loc 13 0),(14,iv a3),(15,iv x.1)],[(3,(Z4 a0_)),(13,(ZaH a7))],aa⟩/\HP aa [.arr a0 1 false (List.map eI64 x.2)]) (λx:Int×(List Int)=>Zcb N a0_ a3 x.1 x.2) (λ(p:(List Int)) e s=>e=.exit 2/\(∃ (ac:AV) (ag:List HO),s=⟨[(1,Z5 false a1_),(3,.loc 3 0),(10,ac),(11,iv i10),(12,iv a4.Stream),(13,.loc 13 0)],[(3,(Z4 a0_)),(13,(ZaH a7))],ag⟩/\HP ag [.arr ac 1 false (List.map eI64 p)])) ?_ N _ aQ _ al ⟨a8,H9,(by show _=_;cases hfa8<;>kernel_rfl),(HP.pick hH [0] rfl)⟩).mono ?_)
    ·clear h al
     rintro ⟨a6,af⟩ o s h hR
     obtain ⟨a0,aa,rfl,hH⟩:=hR
     replace hH:HP _ [.arr a0 1 false (List.map eI64 af)]:=hH
     have a1:=Za8 (HP.get hH 0 rfl)
     replace h:Zcb N a0_ a3 a6 af=some o:=h
     unfold Zcb at h
     refine sq (sq ?_)
     have aE:=HP.len (k:=0) (a:=a0) (sz:=1) (frz:=false) (l:=af) eI64 hH rfl
     refine rgS ⟨[(1,Z5 false a1_),(3,.loc 3 0),(10,a0),(11,iv i10),(12,iv a4.Stream),(13,.loc 13 0),(14,iv a3),(15,iv a6),(53,bv (decide (a6<((List.length af:Nat):Int))))],[(3,(Z4 a0_)),(13,(ZaH a7))],aa⟩ (Z6.u 2 (Zac (ys:=[a0]) (by cases a1<;>kernel_rfl) aE) Z6.f) (by cases a1<;>kernel_rfl) (tq (it h (λaY h=>?_) (λaY h=>?_)))
     ·refine sk (tq (kq (sq (bk ?_))))
      obtain ⟨aC,ay,h⟩:=bs h
      obtain ⟨bt,bi,_,bb,aJ,bc,aq⟩:=HP.elem (k:=0) (a:=a0) (sz:=1) (frz:=false) eI64 hH rfl ay
      obtain ⟨aB,ax,h⟩:=bs h
      obtain ⟨aA,aw,h⟩:=bs h
      obtain ⟨ae,aV,h⟩:=bs h
      obtain ⟨bA,av,h⟩:=bs h
      obtain ⟨bq,bf,_,ao,aI,ap,an⟩:=HP.elem (k:=0) (a:=a0) (sz:=1) (frz:=false) eI64 hH rfl av
      obtain ⟨aD,b0,hH⟩:=HP.setRow (k:=0) (off:=0) (cs:=[iv ae]) (ps:=[.int .i64 ae]) (e':=ae) eI64 hH rfl ap aI (ao rfl) av kr kr
      replace hH:HP _ [.arr a0 1 false (List.map eI64 (List.set af (Int.toNat a6) ae))]:=hH
      refine rqS ⟨[(1,Z5 false a1_),(3,.loc 3 0),(10,a0),(11,iv i10),(12,iv a4.Stream),(13,.loc 13 0),(14,iv a3),(15,iv a6)],[(3,(Z4 a0_)),(13,(ZaH a7))],aD⟩ (Z6.u 4 (Zac (ys:=[a0,iv a6]) (by cases a1<;>kernel_rfl) (aq .i64)) (Z6.u 0 (ZaK (Zc7 (H:=aa) (off:=0) (cs:=[.int .i64 aC]) (r:=iv aC) eI64 ay aJ)) (Z6.u 3 (Zac (ys:=[Zaf false a0_.Periods,iv a6]) (h:=Zaa eI64 ax)) (Z6.u 0 (ZaK (Zao (sz:=1) (off:=0) (cs:=[.int .i64 aB]) (r:=iv aB) eI64 ax)) (Z6.u 8 (Zac (ys:=[Zaf false a0_.Periods,iv a6]) (h:=Zaa eI64 aw)) (Z6.u 0 (ZaK (Zao (sz:=1) (off:=0) (cs:=[.int .i64 aA]) (r:=iv aA) eI64 aw)) (Z6.u 0 (Zac (ys:=[iv (w64 ((w64 (aC+(w64 (aB*a3))))-a3)),iv aA]) (h:=Za6 aV)) (Z6.u 0 (Zac (ys:=[a0,iv a6]) (by cases a1<;>kernel_rfl) (an .i64)) (Z6.o 0 (Zgy (ZcI (H:=aa) (v:=iv ae) (hw:=b0)) kr) Z6.f))))))))) (by cases a1<;>kernel_rfl) (bn (tq (rgS ⟨[(1,Z5 false a1_),(3,.loc 3 0),(10,a0),(11,iv i10),(12,iv a4.Stream),(13,.loc 13 0),(14,iv a3),(15,iv (w64 (a6+1)))],[(3,(Z4 a0_)),(13,(ZaH a7))],aD⟩ Z6.f (by cases a1<;>kernel_rfl) ?_)))
      cases h
      exact ⟨_,rfl,⟨a0,aD,(by show _=_;cases a1<;>kernel_rfl),(HP.pick hH [0] rfl)⟩⟩
     refine kq (xq (tx ?_))
     cases h
     exact ⟨_,rfl,rfl,⟨a0,aa,(by show _=_;cases a1<;>kernel_rfl),(HP.pick hH [0] rfl)⟩⟩
    rintro e s hq
    obtain ⟨rfl,hR⟩:=hq
    obtain ⟨ac,ag,rfl,hH⟩:=hR
    replace hH:HP _ [.arr ac 1 false (List.map eI64 aQ)]:=hH
    have ai:=Za8 (HP.get hH 0 rfl)
    refine bx (tq ?_)
    obtain ⟨aj,au,h⟩:=bs h
    obtain ⟨aM,aU,h⟩:=bs h
    refine rgS ⟨[(1,Z5 false a1_),(3,.loc 3 0),(10,ac),(12,iv a4.Stream),(13,.loc 13 0)],[(3,(Z4 a0_)),(13,(ZaH aM))],ag⟩ (Z6.u 2 (Zac (ys:=[Z5 false a1_,iv i10]) (h:=Zaa Zab au)) (Z6.u 0 (Zao (sz:=2) (off:=0) (cs:=[.int .i64 aj.Stream,.sl 4 false (List.map Zah aj.Arms)]) (r:=.agg (ZbB aj)) Zab au) (Z6.v 0 (Zaw (hc:=Zhp N aj 0 aM aU)) Z6.f))) (by cases ai<;>kernel_rfl) ?_
    cases h
    exact ⟨rfl,⟨ac,ag,(by show _=_;cases ai<;>kernel_rfl),(HP.pick hH [0] rfl)⟩⟩
   refine sk ?_
   cases h
   exact ⟨rfl,⟨a8,H9,(by show _=_;cases hfa8<;>kernel_rfl),(HP.pick hH [0] rfl)⟩⟩
  clear am
  rintro s hR
  obtain ⟨a9,ab,rfl,hH⟩:=hR
  replace hH:HP _ [.arr a9 1 false (List.map eI64 a2.2.2.2.2)]:=hH
  have ad:=Za8 (HP.get hH 0 rfl)
  refine sq (sq (rgS ⟨[(1,Z5 false a1_),(3,.loc 3 0),(10,a9),(12,iv a4.Stream),(13,.loc 13 0),(86,bv (a2.2.2.1 != (-1)))],[(3,(Z4 a0_)),(13,[iv a2.1,iv a2.2.1,iv a2.2.2.1,iv a2.2.2.2.1])],ab⟩ Z6.f (by cases ad<;>kernel_rfl) (tq (it h (λaX h=>?_) (λaX h=>?_)))))
  ·refine sq (rqS ⟨[(6,iv a4.Stream),(7,iv a2.2.2.1),(8,iv 0)],[],ab⟩ Z6.f kr ?_)
   replace hH:HP _ []:=HP.pick hH [] rfl
   refine tq (rt (tr (br ?_)))
   cases h
   exact ⟨_,rfl,rfl,Zar kr⟩
  refine sk (tq (kq (rgS ⟨[(1,Z5 false a1_),(3,.loc 3 0),(10,a9),(11,iv a2.2.2.2.1)],[(3,(Z4 a0_))],ab⟩ Z6.f (by cases ad<;>kernel_rfl) (bn ?_))))
  cases h
  exact ⟨_,rfl,⟨a9,ab,(by show _=_;cases ad<;>kernel_rfl),(HP.pick hH [0] rfl)⟩⟩
 rintro e s hq
 obtain ⟨rfl,hq⟩:=hq
 refine br ?_
 cases h
 exact hq
theorem ZgE (N:Nat)(a0_:Z8)(r:Int)(h:Zek N a0_=some r):Za9 Try.prog 23 [.agg (Z4 a0_)] (iv r):=by
 unfold Zek at h
 have hH  := hp0
 refine ZaC ZAx rfl rfl (Zat _ _ _ ?_) rfl
 refine sq (rg Z6.f (tq (sq (sq (rgX ⟨[(1,.loc 1 0),(19,bv ((decide (((List.length a0_.Periods:Nat):Int)>12))||(decide (((List.length a0_.Uses:Nat):Int)>192))))],[(1,(Z4 a0_))],[]⟩ ?_ ?_)))))
 ·refine (EP.u 2 (Zac (ys:=[Zaf false a0_.Periods]) (h:=Zap eI64)) ?_)
  rcases Bool.eq_false_or_eq_true (decide (((List.length a0_.Periods:Nat):Int)>12)) with hc1|hc2
  ·exact (EP.u 0 (Z9 (c:=(decide (((List.length a0_.Periods:Nat):Int)>12))) (h:=hc1)) (EP.f (by simp only [hc1];kernel_rfl)))
  exact (EP.u 0 (Z9 (c:=(decide (((List.length a0_.Periods:Nat):Int)>12))) (h:=hc2)) (EP.u 3 (Zac (ys:=[Zai false a0_.Uses]) (h:=Zap ZaF)) (EP.f (by simp only [hc2];kernel_rfl))))
 refine tq (it h (λhc3 h=>?_) (λhc3 h=>?_))
 ·refine sq (rg Z6.f (tq (rt (tr ?_))))
  cases h
  exact Zar kr
 refine sk (tq (kq (sq (sq (rg (Z6.u 2 (Zac (ys:=[Zaf false a0_.Periods]) (h:=Zap eI64)) Z6.f) (tq (bk ?_)))))))
 obtain ⟨au,al,h⟩:=bs h
 refine ZaN ((ZaA (λ(x:Int) s=>s=⟨[(1,.loc 1 0),(21,Zaf false a0_.Periods),(22,iv ((List.length a0_.Periods:Nat):Int)),(23,iv x)],[(1,(Z4 a0_))],[]⟩) (λx:Int=>ZcY N a0_ x) (λ(p:(Unit)⊕(Int)) e s=>match p with|(.inl p)=>e=.exit 0/\(s=⟨[(1,.loc 1 0)],[(1,(Z4 a0_))],[]⟩)|(.inr p)=>e=.ret/\∃ xs,resL s i23.res=some xs/\ZbC xs=iv p) ?_ N _ au _ al kr).mono ?_)
 ·clear h al
  rintro i4 o s h hR
  obtain rfl:=hR
  replace h:ZcY N a0_ i4=some o:=h
  unfold ZcY at h
  refine sq (rg Z6.f (tq (sq (it h (λay h=>?_) (λay h=>?_)))))
  ·refine sk (tq (kq (sq (bk (sq ?_)))))
   obtain ⟨a6,am,h⟩:=bs h
   refine rg (Z6.u 0 (Zac (ys:=[Zaf false a0_.Periods,iv i4]) (h:=Zaa eI64 am)) (Z6.u 0 (Zao (sz:=1) (off:=0) (cs:=[.int .i64 a6]) (r:=iv a6) eI64 am) Z6.f)) (tq (sq (rgX ⟨[(1,.loc 1 0),(21,Zaf false a0_.Periods),(22,iv ((List.length a0_.Periods:Nat):Int)),(23,iv i4),(32,bv ((decide (a6<1))||(decide (a6>240))))],[(1,(Z4 a0_))],[]⟩ ?_ ?_)))
   ·rcases Bool.eq_false_or_eq_true (decide (a6<1)) with ao|an
    ·exact (EP.u 1 (Z9 (c:=(decide (a6<1))) (h:=ao)) (EP.f (by simp only [ao];kernel_rfl)))
    exact (EP.u 1 (Z9 (c:=(decide (a6<1))) (h:=an)) (EP.f (by simp only [an];kernel_rfl)))
   refine tq (it h (λax h=>?_) (λax h=>?_))
   ·refine sq (rg Z6.f (tq (rt (br (tr ?_)))))
    cases h
    exact ⟨_,rfl,rfl,Zar kr⟩
   refine sk (bn (tq (kq (rg Z6.f ?_))))
   cases h
   exact ⟨_,rfl,kr⟩
  refine kq (xq (tx ?_))
  cases h
  exact ⟨_,rfl,rfl,kr⟩
 rintro e s hq
 rcases au with aD|aA
 ·dsimp only at h hq
  obtain ⟨rfl,hR⟩:=hq
  obtain rfl:=hR
  refine bx (tq (sq (sq ?_)))
  obtain ⟨az,av,h⟩:=bs h
  refine rg (Z6.v 2 (Zaw (hc:=Zkw N a0_.Periods az av)) Z6.f) (tq (sq (rg Z6.f (tq (it h (λaw h=>?_) (λaw h=>?_))))))
  ·refine sq (rg Z6.f (tq (rt (tr ?_))))
   cases h
   exact Zar kr
  refine sk (tq (kq (sq (sq (rg (Z6.u 2 (Zac (ys:=[Zai false a0_.Uses]) (h:=Zap ZaF)) Z6.f) (tq (bk ?_)))))))
  obtain ⟨ak,a7,h⟩:=bs h
  refine ZaN ((ZaA (λ(x:Int) s=>s=⟨[(1,.loc 1 0),(43,Zai false a0_.Uses),(44,iv ((List.length a0_.Uses:Nat):Int)),(45,iv x)],[(1,(Z4 a0_))],[]⟩) (λx:Int=>ZcX N a0_ x) (λ(p:(Unit)⊕(Int)) e s=>match p with|(.inl p)=>e=.exit 2/\(s=⟨[],[],[]⟩)|(.inr p)=>e=.ret/\∃ xs,resL s i23.res=some xs/\ZbC xs=iv p) ?_ N _ ak _ a7 kr).mono ?_)
  ·clear h a7
   rintro aj o s h hR
   obtain rfl:=hR
   replace h:ZcX N a0_ aj=some o:=h
   unfold ZcX at h
   refine sq (rg Z6.f (tq (sq (it h (λar h=>?_) (λar h=>?_)))))
   ·refine sk (tq (kq (sq (bk (sq ?_)))))
    obtain ⟨a0,a9,h⟩:=bs h
    refine rg (Z6.u 0 (Zac (ys:=[Zai false a0_.Uses,iv aj]) (h:=Zaa ZaF a9)) (Z6.u 0 (Zao (sz:=4) (off:=0) (cs:=[.int .i64 a0.Stream,.int .i64 a0.Port,.int .i64 a0.From,.int .i64 a0.Long]) (r:=.agg (ZaT a0)) ZaF a9) Z6.f)) (tq (sq (sq (rgX ⟨[(1,.loc 1 0),(8,.loc 8 0),(43,Zai false a0_.Uses),(44,iv ((List.length a0_.Uses:Nat):Int)),(45,iv aj),(69,bv ((decide (a0.Stream<0))||((decide (a0.Stream≥((List.length a0_.Periods:Nat):Int)))||((decide (a0.Port<0))||(decide (a0.Port≥48))))))],[(1,(Z4 a0_)),(8,(ZaT a0))],[]⟩ ?_ ?_))))
    ·rcases Bool.eq_false_or_eq_true (decide (a0.Stream<0)) with ai|a3
     ·exact (EP.u 2 (Z9 (c:=(decide (a0.Stream<0))) (h:=ai)) (EP.f (by simp only [ai];kernel_rfl)))
     refine (EP.u 2 (Z9 (c:=(decide (a0.Stream<0))) (h:=a3)) (EP.u 5 (Zac (ys:=[Zaf false a0_.Periods]) (h:=Zap eI64)) ?_))
     rcases Bool.eq_false_or_eq_true (decide (a0.Stream≥((List.length a0_.Periods:Nat):Int))) with ag|a5
     ·exact (EP.u 0 (Z9 (c:=(decide (a0.Stream≥((List.length a0_.Periods:Nat):Int)))) (h:=ag)) (EP.f (by simp only [a3,ag];kernel_rfl)))
     refine (EP.u 0 (Z9 (c:=(decide (a0.Stream≥((List.length a0_.Periods:Nat):Int)))) (h:=a5)) ?_)
     rcases Bool.eq_false_or_eq_true (decide (a0.Port<0)) with af|ae
     ·exact (EP.u 4 (Z9 (c:=(decide (a0.Port<0))) (h:=af)) (EP.f (by simp only [a3,a5,af];kernel_rfl)))
     exact (EP.u 4 (Z9 (c:=(decide (a0.Port<0))) (h:=ae)) (EP.f (by simp only [a3,a5,ae];kernel_rfl)))
    refine tq (it h (λaq h=>?_) (λaq h=>?_))
    ·refine sq (rg Z6.f (tq (rt (tr (br (tr ?_))))))
     cases h
     exact ⟨_,rfl,rfl,Zar kr⟩
    refine sk (tq (kq (sq ?_)))
    obtain ⟨a1,a8,h⟩:=bs h
    refine rg (Z6.u 4 (Zac (ys:=[Zaf false a0_.Periods,iv a0.Stream]) (h:=Zaa eI64 a8)) (Z6.u 0 (Zao (sz:=1) (off:=0) (cs:=[.int .i64 a1]) (r:=iv a1) eI64 a8) Z6.f)) (tq (sq (rgX ⟨[(1,.loc 1 0),(43,Zai false a0_.Uses),(44,iv ((List.length a0_.Uses:Nat):Int)),(45,iv aj),(95,bv ((decide (a0.From<0))||((decide (a0.From≥a1))||((decide (a0.Long<1))||(decide (a0.Long>a1))))))],[(1,(Z4 a0_))],[]⟩ ?_ ?_)))
    ·rcases Bool.eq_false_or_eq_true (decide (a0.From<0)) with ad|a2
     ·exact (EP.u 2 (Z9 (c:=(decide (a0.From<0))) (h:=ad)) (EP.f (by simp only [ad];kernel_rfl)))
     refine (EP.u 2 (Z9 (c:=(decide (a0.From<0))) (h:=a2)) ?_)
     rcases Bool.eq_false_or_eq_true (decide (a0.From≥a1)) with ac|a4
     ·exact (EP.u 4 (Z9 (c:=(decide (a0.From≥a1))) (h:=ac)) (EP.f (by simp only [a2,ac];kernel_rfl)))
     refine (EP.u 4 (Z9 (c:=(decide (a0.From≥a1))) (h:=a4)) ?_)
     rcases Bool.eq_false_or_eq_true (decide (a0.Long<1)) with ab|aa
     ·exact (EP.u 4 (Z9 (c:=(decide (a0.Long<1))) (h:=ab)) (EP.f (by simp only [a2,a4,ab];kernel_rfl)))
     exact (EP.u 4 (Z9 (c:=(decide (a0.Long<1))) (h:=aa)) (EP.f (by simp only [a2,a4,aa];kernel_rfl)))
    refine tq (it h (λap h=>?_) (λap h=>?_))
    ·refine sq (rg Z6.f (tq (rt (br (tr ?_)))))
     cases h
     exact ⟨_,rfl,rfl,Zar kr⟩
    refine sk (bn (tq (kq (rg Z6.f ?_))))
    cases h
    exact ⟨_,rfl,kr⟩
   refine kq (xq (tx ?_))
   cases h
   exact ⟨_,rfl,rfl,kr⟩
  rintro e s hq
  rcases ak with aC|aB
  ·dsimp only at h hq
   obtain ⟨rfl,hR⟩:=hq
   obtain rfl:=hR
   refine bx (tq (sq (rg Z6.f (tq (rt ?_)))))
   cases h
   exact Zar kr
  dsimp only at h hq
  obtain ⟨rfl,hq⟩:=hq
  refine br (tr ?_)
  cases h
  exact hq
 dsimp only at h hq
 obtain ⟨rfl,hq⟩:=hq
 refine br (tr ?_)
 cases h
 exact hq
theorem Zh0 (N:Nat)(a0_:Z8)(a1_:Int)(a2_:Int)(a3_:Int)(a4_:Int)(r:Bool)(h:Zdw N a0_ a1_ a2_ a3_ a4_=some r):Za9 Try.prog 36 [.agg (Z4 a0_),iv a1_,iv a2_,iv a3_,iv a4_] (bv r):=by
 unfold Zdw at h
 have hH  := hp0
 refine ZaC ZAk rfl rfl (Zat _ _ _ ?_) rfl
 refine sq ?_
 obtain ⟨id1,H2,hid1,hH2,hH⟩:=HP.newCell hH (Z4 a0_)
 replace hH:HP _ [.cel id1 (Z4 a0_)]:=hH
 obtain ⟨id3,H4,hid3,hH4,hH⟩:=HP.newCell hH [iv a2_]
 replace hH:HP _ [.cel id3 [iv a2_],.cel id1 (Z4 a0_)]:=hH
 obtain ⟨id5,H6,hid5,hH6,hH⟩:=HP.newCell hH [iv a4_]
 replace hH:HP _ [.cel id5 [iv a4_],.cel id3 [iv a2_],.cel id1 (Z4 a0_)]:=hH
 obtain ⟨id7,H8,hid7,hH8,hH⟩:=HP.newCell hH [bv false]
 replace hH:HP _ [.cel id7 [bv false],.cel id5 [iv a4_],.cel id3 [iv a2_],.cel id1 (Z4 a0_)]:=hH
 refine rgS ⟨[(1,iv a1_),(3,iv a3_),(5,.ptr id1 0),(7,.ptr id3 0),(9,.ptr id5 0),(10,.ptr id7 0)],[],H8⟩ (Z6.h 0 (Zgh (H:=[]) (v:=.agg (Z4 a0_)) (hid:=hid1) (hH:=hH2)) (Z6.h 0 (Zgh (H:=H2) (v:=iv a2_) (hid:=hid3) (hH:=hH4)) (Z6.h 0 (Zgh (H:=H4) (v:=iv a4_) (hid:=hid5) (hH:=hH6)) (Z6.h 0 (ZlX (H:=H6) kr hid7 hH8) Z6.f)))) kr (tq (sq (sq ?_)))
 have hlc9:=HP.get hH 3 rfl
 obtain ⟨a8,aA,h⟩:=bs h
 obtain ⟨a7,a6,a5,a4,ak,ao⟩:=Zkv N a0_ a1_ a3_ H8 a8 aA
 replace hH:HP _ [.cel a7 (Z4 a8.1),.cel a6 [iv a8.2.1],.cel a5 [iv a8.2.2],.cel id7 [bv false],.cel id5 [iv a4_],.cel id3 [iv a2_],.cel id1 (Z4 a0_)]:=HP.callee (fp:=[]) (rest:=[.cel id7 [bv false],.cel id5 [iv a4_],.cel id3 [iv a2_],.cel id1 (Z4 a0_)]) hH ao
 refine rgS ⟨[(5,.ptr id1 0),(7,.ptr id3 0),(9,.ptr id5 0),(10,.ptr id7 0),(18,.fn 54 [] [.ptr a7 0,.ptr a6 0,.ptr a5 0])],[],a4⟩ (Z6.u 0 (Zbr (H:=H8) (id:=id1) (off:=0) (cs:=(Z4 a0_)) (c:=(Z4 a0_)) (r:=.agg (Z4 a0_)) (hl:=hlc9)) (Z6.v 2 (Zkg (H:=H8) (ys:=[.agg (Z4 a0_),iv a1_,iv a3_]) kr kr kr ak) Z6.f)) kr (tq (bk ?_))
 obtain ⟨a0,ap,h⟩:=bs h
 have ab:∀ (a3:ZaJ) (a2:ZaJ) (s:(Bool)×Nat) (r:((Bool)×Nat)×Bool) (H:List HO) (its:List ZaR),(λ(s:(Bool)×Nat) (its:List ZaR)=>its=[.cel id7 [bv s.1],.cel id5 [iv a4_],.cel id3 [iv a2_],.cel id1 (Z4 a0_)]++[.lp (List.length a4) (lcOf Try.prog i36.nt [19,20] ZeI ZeH) [(5,.ptr id1 0),(7,.ptr id3 0),(9,.ptr id5 0),(10,.ptr id7 0)] (stAt [.ready,.done .ret] s.2)]) s its->HP H its->(λ(s:(Bool)×Nat) (a3:ZaJ) (a2:ZaJ)=>Zid (λv:Bool=>Zbh N a0_ a2_ a4_ v a3 a2) s) s a3 a2=some r->∃ H' its',Zmr Try.prog (List.length a4) [.agg (ZaT a3),.agg (ZaT a2)] H r.2 H'/\(λ(s:(Bool)×Nat) (its:List ZaR)=>its=[.cel id7 [bv s.1],.cel id5 [iv a4_],.cel id3 [iv a2_],.cel id1 (Z4 a0_)]++[.lp (List.length a4) (lcOf Try.prog i36.nt [19,20] ZeI ZeH) [(5,.ptr id1 0),(7,.ptr id3 0),(9,.ptr id5 0),(10,.ptr id7 0)] (stAt [.ready,.done .ret] s.2)]) r.1 its'/\Fp H H' its its':=by
  clear h
  intro a3 a2 s r ag its hT hH h
  obtain ⟨h0,q,hb,rfl⟩:=ZlU h
  clear h
  obtain ⟨vs,e⟩:=s
  obtain rfl:e=0:=h0
  obtain ⟨b18,rfl⟩:∃ v,v=vs:=⟨vs,rfl⟩
  obtain rfl:=hT
  replace h:Zbh N a0_ a2_ a4_ b18 a3 a2=some q:=hb
  clear hb
  unfold Zbh at h
  replace hH:Fp _ _ _ [.cel id7 [bv b18],.cel id5 [iv a4_],.cel id3 [iv a2_],.cel id1 (Z4 a0_),.lp (List.length a4) (lcOf Try.prog i36.nt [19,20] ZeI ZeH) [(5,.ptr id1 0),(7,.ptr id3 0),(9,.ptr id5 0),(10,.ptr id7 0)] .ready]:=Fp.refl hH
  suffices hs:∃ H',Zmr Try.prog (List.length a4) [.agg (ZaT a3),.agg (ZaT a2)] ag (q.2==0) H'/\∃ its',(λ(s:(Bool)×Nat) (its:List ZaR)=>its=[.cel id7 [bv s.1],.cel id5 [iv a4_],.cel id3 [iv a2_],.cel id1 (Z4 a0_)]++[.lp (List.length a4) (lcOf Try.prog i36.nt [19,20] ZeI ZeH) [(5,.ptr id1 0),(7,.ptr id3 0),(9,.ptr id5 0),(10,.ptr id7 0)] (stAt [.ready,.done .ret] s.2)]) q its'/\Fp ag H' [.cel id7 [bv b18],.cel id5 [iv a4_],.cel id3 [iv a2_],.cel id1 (Z4 a0_),.lp (List.length a4) (lcOf Try.prog i36.nt [19,20] ZeI ZeH) [(5,.ptr id1 0),(7,.ptr id3 0),(9,.ptr id5 0),(10,.ptr id7 0)] .ready] its' by
   obtain ⟨H',h1,its',h2,h3⟩:=hs
   exact ⟨H',its',h1,h2,h3⟩
  refine Zny (id:=(List.length a4)) (args:=[.agg (ZaT a3),.agg (ZaT a2)]) (H:=ag) (n:=i36.nt) (ps:=[19,20]) (fr0:=[(5,.ptr id1 0),(7,.ptr id3 0),(9,.ptr id5 0),(10,.ptr id7 0)]) (ia:=ZeI) (ib:=ZeH) (q.2==0) (λH'=>∃ its',(λ(s:(Bool)×Nat) (its:List ZaR)=>its=[.cel id7 [bv s.1],.cel id5 [iv a4_],.cel id3 [iv a2_],.cel id1 (Z4 a0_)]++[.lp (List.length a4) (lcOf Try.prog i36.nt [19,20] ZeI ZeH) [(5,.ptr id1 0),(7,.ptr id3 0),(9,.ptr id5 0),(10,.ptr id7 0)] (stAt [.ready,.done .ret] s.2)]) q its'/\Fp ag H' [.cel id7 [bv b18],.cel id5 [iv a4_],.cel id3 [iv a2_],.cel id1 (Z4 a0_),.lp (List.length a4) (lcOf Try.prog i36.nt [19,20] ZeI ZeH) [(5,.ptr id1 0),(7,.ptr id3 0),(9,.ptr id5 0),(10,.ptr id7 0)] .ready] its') (Fp.get hH 4 rfl) rfl (by decide +kernel) rfl ?_
  show vc _ _ _ _ ⟨[(5,.ptr id1 0),(7,.ptr id3 0),(9,.ptr id5 0),(10,.ptr id7 0),(19,.agg (ZaT a3)),(20,.agg (ZaT a2))],[],ag⟩
  refine sq (rgS ⟨[(5,.ptr id1 0),(7,.ptr id3 0),(9,.ptr id5 0),(10,.ptr id7 0),(11,.loc 11 0),(20,.agg (ZaT a2))],[(11,(ZaT a3))],ag⟩ Z6.f kr (tq (rgS ⟨[(5,.ptr id1 0),(7,.ptr id3 0),(9,.ptr id5 0),(10,.ptr id7 0),(11,.loc 11 0),(12,.loc 12 0)],[(11,(ZaT a3)),(12,(ZaT a2))],ag⟩ Z6.f kr (ZpK (k:=4) hH rfl ?_))))
  intro a1 hH
  replace hH:Fp _ _ _ [.cel id7 [bv b18],.cel id5 [iv a4_],.cel id3 [iv a2_],.cel id1 (Z4 a0_),.lp (List.length a4) (lcOf Try.prog i36.nt [19,20] ZeI ZeH) [(5,.ptr id1 0),(7,.ptr id3 0),(9,.ptr id5 0),(10,.ptr id7 0)] .busy]:=hH
  show vc _ _ _ _ ⟨[(5,.ptr id1 0),(7,.ptr id3 0),(9,.ptr id5 0),(10,.ptr id7 0),(11,.loc 11 0),(12,.loc 12 0)],[(11,(ZaT a3)),(12,(ZaT a2))],a1⟩
  refine bk (sq (sq (rgS ⟨[(5,.ptr id1 0),(7,.ptr id3 0),(9,.ptr id5 0),(10,.ptr id7 0),(11,.loc 11 0),(12,.loc 12 0),(23,bv ((a3.Stream==a2.Stream)&&((a3.Port==a2.Port)&&((a3.From==a2.From)&&((a3.Long==a2.Long)&&true)))))],[(11,(ZaT a3)),(12,(ZaT a2))],a1⟩ Z6.f kr (tq (it h (λav h=>?_) (λav h=>?_))))))
  ·refine sq ?_
   obtain ⟨aC,ay,hH⟩:=Fp.setCell (k:=0) (off:=0) (cs:=[bv b18]) (vs:=[bv true]) (cs':=[bv true]) hH rfl kr
   replace hH:Fp _ _ _ [.cel id7 [bv true],.cel id5 [iv a4_],.cel id3 [iv a2_],.cel id1 (Z4 a0_),.lp (List.length a4) (lcOf Try.prog i36.nt [19,20] ZeI ZeH) [(5,.ptr id1 0),(7,.ptr id3 0),(9,.ptr id5 0),(10,.ptr id7 0)] .busy]:=hH
   refine rgS ⟨[],[],aC⟩ (Z6.o 0 (ZcI (H:=a1) (v:=bv true) (hw:=ay)) Z6.f) kr (tq (rt (tr (br ?_))))
   cases h
   exact rbd (k:=4) (.done .ret) hH rfl rfl (λH6 hH=>⟨_,(Eq.refl _),(Fp.pick hH [0,1,2,3,4] rfl)⟩)
  refine sk (tq (kq (sq ?_)))
  have af:=Fp.get hH 3 rfl
  have ae:=Fp.get hH 2 rfl
  obtain ⟨aj,an,h⟩:=bs h
  have ad:=Fp.get hH 3 rfl
  have ac:=Fp.get hH 1 rfl
  obtain ⟨ai,am,h⟩:=bs h
  obtain ⟨aa,al,h⟩:=bs h
  refine rqS ⟨[(10,.ptr id7 0),(13,bv aa.1)],[],a1⟩ (Z6.u 0 (ZaK (Zbr (H:=a1) (id:=id1) (off:=0) (cs:=(Z4 a0_)) (c:=(Z4 a0_)) (r:=.agg (Z4 a0_)) (hl:=af))) (Z6.u 1 (ZaK (Zbr (H:=a1) (id:=id3) (off:=0) (cs:=[iv a2_]) (c:=[iv a2_]) (r:=iv a2_) (hl:=ae))) (Z6.u 0 (Zdn (hc:=Zfi N a0_ a3 a2_ aj an)) (Z6.u 0 (ZaK (Zbr (H:=a1) (id:=id1) (off:=0) (cs:=(Z4 a0_)) (c:=(Z4 a0_)) (r:=.agg (Z4 a0_)) (hl:=ad))) (Z6.u 1 (ZaK (Zbr (H:=a1) (id:=id5) (off:=0) (cs:=[iv a4_]) (c:=[iv a4_]) (r:=iv a4_) (hl:=ac))) (Z6.v 0 (Zaw (hc:=Zfi N a0_ a2 a4_ ai am)) (Z6.v 0 (Zaw (hc:=ZhS N aj ai aa al)) Z6.f))))))) kr (tq (sq (rgS ⟨[(10,.ptr id7 0),(37,bv (!aa.1))],[],a1⟩ Z6.f kr (tq (it h (λau h=>?_) (λau h=>?_))))))
  ·refine sq ?_
   obtain ⟨aB,ax,hH⟩:=Fp.setCell (k:=0) (off:=0) (cs:=[bv b18]) (vs:=[bv true]) (cs':=[bv true]) hH rfl kr
   replace hH:Fp _ _ _ [.cel id7 [bv true],.cel id5 [iv a4_],.cel id3 [iv a2_],.cel id1 (Z4 a0_),.lp (List.length a4) (lcOf Try.prog i36.nt [19,20] ZeI ZeH) [(5,.ptr id1 0),(7,.ptr id3 0),(9,.ptr id5 0),(10,.ptr id7 0)] .busy]:=hH
   refine rgS ⟨[],[],aB⟩ (Z6.o 0 (ZcI (H:=a1) (v:=bv true) (hw:=ax)) Z6.f) kr (tq (rt (br ?_)))
   cases h
   exact rbd (k:=4) (.done .ret) hH rfl rfl (λH6 hH=>⟨_,(Eq.refl _),(Fp.pick hH [0,1,2,3,4] rfl)⟩)
  refine sk (bn ?_)
  cases h
  exact rbd (k:=4) (.ready) hH rfl rfl (λH6 hH=>⟨_,(Eq.refl _),(Fp.pick hH [0,1,2,3,4] rfl)⟩)
 refine ZoH (s:=⟨[(5,.ptr id1 0),(7,.ptr id3 0),(9,.ptr id5 0),(10,.ptr id7 0),(18,.fn 54 [] [.ptr a7 0,.ptr a6 0,.ptr a5 0])],[],a4⟩) [(5,.ptr id1 0),(7,.ptr id3 0),(9,.ptr id5 0),(10,.ptr id7 0)] (FrOK.cons kr kr (FrOK.cons kr kr (FrOK.cons kr kr (FrOK.cons kr kr FrOK.nil)))) kr (λH=>rfl) (capT:=[.cel a7 (Z4 a8.1),.cel a6 [iv a8.2.1],.cel a5 [iv a8.2.2]]) (cells0:=[.cel id7 [bv false],.cel id5 [iv a4_],.cel id3 [iv a2_],.cel id1 (Z4 a0_)]) (rest:=[]) (HP.now (HP.pick hH [0,1,2,3,4,5,6] rfl)) (λ(s:(Bool)×Nat) (its:List ZaR)=>its=[.cel id7 [bv s.1],.cel id5 [iv a4_],.cel id3 [iv a2_],.cel id1 (Z4 a0_)]++[.lp (List.length a4) (lcOf Try.prog i36.nt [19,20] ZeI ZeH) [(5,.ptr id1 0),(7,.ptr id3 0),(9,.ptr id5 0),(10,.ptr id7 0)] (stAt [.ready,.done .ret] s.2)]) (false,0) a0 (by exact (Eq.refl _)) (λH its hT hH=>ZiA N (λ(s:(Bool)×Nat) (a3:ZaJ) (a2:ZaJ)=>Zid (λv:Bool=>Zbh N a0_ a2_ a4_ v a3 a2) s) a8.1 a8.2.1 a8.2.2 (false,0) a7 a6 a5 (List.length a4) (λ(s:(Bool)×Nat) (its:List ZaR)=>its=[.cel id7 [bv s.1],.cel id5 [iv a4_],.cel id3 [iv a2_],.cel id1 (Z4 a0_)]++[.lp (List.length a4) (lcOf Try.prog i36.nt [19,20] ZeI ZeH) [(5,.ptr id1 0),(7,.ptr id3 0),(9,.ptr id5 0),(10,.ptr id7 0)] (stAt [.ready,.done .ret] s.2)]) ab H its hT hH a0 ap) ?_
 rintro its hT
 obtain rfl:=hT
 refine ⟨_,_,rfl,?_⟩
 intro a9 hF
 replace hH:HP _ [.cel a7 (Z4 a8.1),.cel a6 [iv a8.2.1],.cel a5 [iv a8.2.2],.cel id7 [bv a0.1],.cel id5 [iv a4_],.cel id3 [iv a2_],.cel id1 (Z4 a0_)]:=HP.after (HP.pick hH [0,1,2,3,4,5,6] rfl) hF
 rcases ZaD h with ⟨ar,h⟩|⟨_,h⟩
 ·refine ZnZ (S:=⟨[(5,.ptr id1 0),(7,.ptr id3 0),(9,.ptr id5 0),(10,.ptr id7 0),(18,.fn 54 [] [.ptr a7 0,.ptr a6 0,.ptr a5 0])],[],a9⟩) (e:=.normal) ar rfl (bn (tq (kq ?_)))
  replace hH:HP _ [.cel id7 [bv a0.1]]:=HP.pick hH [3] rfl
  refine sq ?_
  obtain ⟨az,aw,hH⟩:=HP.setCell (k:=0) (off:=0) (cs:=[bv a0.1]) (vs:=[bv false]) (cs':=[bv false]) hH rfl kr
  replace hH:HP _ [.cel id7 [bv false]]:=hH
  refine rgS ⟨[(10,.ptr id7 0)],[],az⟩ (Z6.o 0 (ZcI (H:=a9) (v:=bv false) (hw:=aw)) Z6.f) kr (tq (rt ?_))
  obtain rfl:=Zan h
  exact ZeS (H:=az) (ys:=[bv false]) (xs:=[bv false]) kr (ZmH (r:=.cell 10 1 false) (v:=bv false) (ZmG (id:=id7) (off:=0) (cs:=[bv false]) (c:=[bv false]) kr (HP.get hH 0 rfl) kr kr) ZmI) (ZbI rfl ZcB) kr
 rcases ZaD h with ⟨aq,h⟩|⟨_,h⟩
 ·refine ZnZ (S:=⟨[(5,.ptr id1 0),(7,.ptr id3 0),(9,.ptr id5 0),(10,.ptr id7 0),(18,.fn 54 [] [.ptr a7 0,.ptr a6 0,.ptr a5 0])],[],a9⟩) (e:=.ret) aq rfl (br (tr ?_))
  obtain rfl:=Zan h
  exact ZeS (H:=a9) (ys:=[bv a0.1]) (xs:=[bv a0.1]) kr (ZmH (r:=.cell 10 1 false) (v:=bv a0.1) (ZmG (id:=id7) (off:=0) (cs:=[bv a0.1]) (c:=[bv a0.1]) kr (HP.get hH 3 rfl) kr kr) ZmI) (ZbI rfl ZcB) kr
 cases h
theorem Zh1 (N:Nat)(a0_:Z8)(a1_:Int)(a2_:Int)(a3_:Int)(a4_:Int)(r:Bool×Int)(h:Zdx N a0_ a1_ a2_ a3_ a4_=some r):Za9 Try.prog 21 [.agg (Z4 a0_),iv a1_,iv a2_,iv a3_,iv a4_] (.tup [bv r.1,iv r.2]):=by
 unfold Zdx at h
 have hH  := hp0
 refine ZaC ZAz rfl rfl (Zat _ _ _ ?_) rfl
 refine sq (rg Z6.f (tq (sq (sq ?_))))
 obtain ⟨r1,hr1,h⟩:=bs h
 refine rg (Z6.v 1 (Zaw (hc:=ZgE N a0_ r1 hr1)) Z6.f) (tq (sq (rg Z6.f (tq (it h (λhc2 h=>?_) (λhc2 h=>?_))))))
 ·refine sq (rg Z6.f (tq (rt (tr ?_))))
  cases h
  exact Zar kr
 refine sk (tq (kq (sq (sq (rgX ⟨[(1,iv a1_),(2,iv a2_),(3,iv a3_),(4,iv a4_),(5,.loc 5 0),(37,bv ((decide (a1_<0))||((decide (a1_≥((List.length a0_.Periods:Nat):Int)))||((decide (a3_<0))||(decide (a3_≥((List.length a0_.Periods:Nat):Int)))))))],[(5,(Z4 a0_))],[]⟩ ?_ ?_)))))
 ·rcases Bool.eq_false_or_eq_true (decide (a1_<0)) with hc3|hc4
  ·exact (EP.u 1 (Z9 (c:=(decide (a1_<0))) (h:=hc3)) (EP.f (by simp only [hc3];kernel_rfl)))
  refine (EP.u 1 (Z9 (c:=(decide (a1_<0))) (h:=hc4)) (EP.u 4 (Zac (ys:=[Zaf false a0_.Periods]) (h:=Zap eI64)) ?_))
  rcases Bool.eq_false_or_eq_true (decide (a1_≥((List.length a0_.Periods:Nat):Int))) with hc5|hc6
  ·exact (EP.u 0 (Z9 (c:=(decide (a1_≥((List.length a0_.Periods:Nat):Int)))) (h:=hc5)) (EP.f (by simp only [hc4,hc5];kernel_rfl)))
  refine (EP.u 0 (Z9 (c:=(decide (a1_≥((List.length a0_.Periods:Nat):Int)))) (h:=hc6)) ?_)
  rcases Bool.eq_false_or_eq_true (decide (a3_<0)) with hc7|hc8
  ·exact (EP.u 3 (Z9 (c:=(decide (a3_<0))) (h:=hc7)) (EP.f (by simp only [hc4,hc6,hc7];kernel_rfl)))
  exact (EP.u 3 (Z9 (c:=(decide (a3_<0))) (h:=hc8)) (EP.u 5 (Zac (ys:=[Zaf false a0_.Periods]) (h:=Zap eI64)) (EP.f (by simp only [hc4,hc6,hc8];kernel_rfl))))
 refine tq (it h (λhc9 h=>?_) (λhc9 h=>?_))
 ·refine sq (rg Z6.f (tq (rt (tr ?_))))
  cases h
  exact Zar kr
 refine sk (tq (kq (sq (sq ?_))))
 obtain ⟨ad,hj,h⟩:=bs h
 refine rgR (λs=>s=⟨[(1,iv a1_),(2,iv a2_),(3,iv a3_),(4,iv a4_),(5,.loc 5 0),(59,bv ad)],[(5,(Z4 a0_))],[]⟩) ?_ ?_
 ·clear h
  obtain ⟨a1,a4,hj⟩:=bs hj
  refine (EP.v 3 (Zaw (hc:=Zgb N a0_ a1_ a2_ a1 a4)) ?_)
  rcases ZaD hj with ⟨ab,hj⟩|⟨aa,hj⟩
  ·obtain rfl:=Zan hj
   exact (EP.u 0 (Z9 (c:=(!a1)) (h:=ab)) (EP.f kr))
  refine (EP.u 0 (Z9 (c:=(!a1)) (h:=aa)) ?_)
  obtain ⟨a0,a3,hj⟩:=bs hj
  refine (EP.v 4 (Zaw (hc:=Zgb N a0_ a3_ a4_ a0 a3)) ?_)
  rcases ZaD hj with ⟨a9,hj⟩|⟨a8,hj⟩
  ·obtain rfl:=Zan hj
   exact (EP.u 0 (Z9 (c:=(!a0)) (h:=a9)) (EP.f kr))
  refine (EP.u 0 (Z9 (c:=(!a0)) (h:=a8)) ?_)
  rcases ZaD hj with ⟨a7,hj⟩|⟨a6,hj⟩
  ·obtain rfl:=Zan hj
   exact (EP.u 4 (Z9 (c:=(a1_==a3_)) (h:=a7)) (EP.f kr))
  obtain rfl:=Zan hj
  exact (EP.u 4 (Z9 (c:=(a1_==a3_)) (h:=a6)) (EP.f kr))
 clear hj
 rintro s hR
 obtain rfl:=hR
 refine tq (it h (λa5 h=>?_) (λa5 h=>?_))
 ·refine sq (rg Z6.f (tq (rt (tr ?_))))
  cases h
  exact Zar kr
 refine sk (tq (kq (sq ?_)))
 obtain ⟨ac,a2,h⟩:=bs h
 refine rg (Z6.v 5 (Zaw (hc:=Zh0 N a0_ a1_ a2_ a3_ a4_ ac a2)) Z6.f) (tq (rt ?_))
 cases h
 exact Zar kr
theorem Zjq (N:Nat)(a0_:Z8)(a1_:(List Z7))(r:Bool)(h:Zev N a0_ a1_=some r):Za9 Try.prog 25 [.agg (Z4 a0_),Z5 false a1_] (bv r):=by
 unfold Zev at h
 have hH  := hp0
 refine ZaC ZAv rfl rfl (Zat _ _ _ ?_) rfl
 refine sq (rg Z6.f (tq (sq ?_)))
 obtain ⟨r1,hr1,h⟩:=bs h
 obtain ⟨id3,id4,idm5,H2,hvr1,hpr1⟩:=ZgD N a0_ [] r1 hr1
 replace hH:HP _ [.cel id3 (Z4 r1.1),.cel id4 [.map idm5],mpT idm5 3 (encE Zae bv r1.2)]:=HP.callee (fp:=[]) (rest:=[]) hH hpr1
 refine rg (Z6.v 1 (Zkg (H:=[]) (ys:=[.agg (Z4 a0_)]) kr kr kr hvr1) Z6.f) (tq (sq ?_))
 obtain ⟨id6,H7,hid6,hH7,hH⟩:=HP.newCell hH [Zcs true []]
 replace hH:HP _ [.cel id6 [Zcs true []],.cel id3 (Z4 r1.1),.cel id4 [.map idm5],mpT idm5 3 (encE Zae bv r1.2)]:=hH
 refine rg (Z6.h 0 (ZlX (H:=H2) kr hid6 hH7) Z6.f) (tq (sq (rg Z6.f (tq (sq (rg Z6.f (tq (sq (sq (rg Z6.f (tq (bk ?_))))))))))))
 obtain ⟨cf,cc,h⟩:=bs h
 refine ZaN ((ZaA (λ(x:Int×Zad) s=>s=⟨[(1,Z5 false a1_),(5,.fn 51 [] [.ptr id3 0,.ptr id4 0]),(6,.ptr id6 0),(7,.fn 40 [] [.ptr id6 0]),(8,.loc 8 0),(18,iv x.1)],[(8,(Zaq x.2))],H7⟩) (λx:Int×Zad=>Zc1 N x.1 x.2) (λ(p:Zad) e s=>e=.exit 0/\(s=⟨[(1,Z5 false a1_),(5,.fn 51 [] [.ptr id3 0,.ptr id4 0]),(6,.ptr id6 0),(7,.fn 40 [] [.ptr id6 0]),(8,.loc 8 0)],[(8,(Zaq p))],H7⟩)) ?_ N _ cf _ cc kr).mono ?_)
 ·clear h cc
  rintro ⟨i8,l9⟩ o s h hR
  obtain rfl:=hR
  replace h:Zc1 N i8 l9=some o:=h
  unfold Zc1 at h
  refine sq (rg Z6.f (tq (sq (it h (λcR h=>?_) (λcR h=>?_)))))
  ·refine sk (tq (kq (sq (bk (sq (rg Z6.f (tq ?_)))))))
   obtain ⟨de,cd,h⟩:=bs h
   refine rg (Z6.u 1 (Zac (ys:=[.loc 8 0,iv i8]) (h:=ZbQ (l:=l9.l) cd rfl)) (Z6.o 0 (ZfO (t:=8) (off:=0) (cs:=(Zaq l9)) (l:=l9.l) (λx=>iv x) [] [] (y:=(-1)) (cs':=(Zaq (Zad.set l9 i8 (-1)))) cd kr kr kr rfl rfl (ZkO (Zad.c_set l9 i8 (-1)) (by show (Zaq (Zad.set l9 i8 (-1)))=[]++(Zaq (Zad.set l9 i8 (-1))++[]);rfl))) Z6.f)) (bn (tq (rg Z6.f ?_)))
   cases h
   exact ⟨_,rfl,kr⟩
  refine kq (xq (tx ?_))
  cases h
  exact ⟨_,rfl,rfl,kr⟩
 rintro e s hq
 obtain ⟨rfl,hR⟩:=hq
 obtain rfl:=hR
 refine bx (tq (sq ?_))
 obtain ⟨c5,cl,h⟩:=bs h
 have bp:∀ (aG:Int) (aE:Zad) (s:(List Zal)) (r:(((List Zal)))) (H:List HO) (its:List ZaR),(λ(s:(List Zal)) (its:List ZaR)=>∃ (a7:AV),its=[.arr a7 13 false (List.map Zag s),.cel id6 [a7],.cel id3 (Z4 r1.1),.cel id4 [.map idm5],mpT idm5 3 (encE Zae bv r1.2)]) s its->HP H its->(λ(s:(List Zal)) (aG:Int) (aE:Zad)=>Zc3 N s aG aE) s aG aE=some r->∃ H' its',Zjz Try.prog (.fn 40 [] [.ptr id6 0]) [iv aG,.agg (Zaq aE)] H (.tup []) H'/\(λ(s:(List Zal)) (its:List ZaR)=>∃ (a7:AV),its=[.arr a7 13 false (List.map Zag s),.cel id6 [a7],.cel id3 (Z4 r1.1),.cel id4 [.map idm5],mpT idm5 3 (encE Zae bv r1.2)]) r its'/\Fp H H' its its':=by
  clear h
  intro aG aE s q aR its hT hH h
  obtain ⟨bj,rfl⟩:∃ v,v=s:=⟨s,rfl⟩
  obtain ⟨a7,rfl⟩:=hT
  replace h:Zc3 N bj aG aE=some q:=h
  unfold Zc3 at h
  replace hH:Fp _ _ _ [.arr a7 13 false (List.map Zag bj),.cel id6 [a7],.cel id3 (Z4 r1.1),.cel id4 [.map idm5],mpT idm5 3 (encE Zae bv r1.2)]:=Fp.refl hH
  have ae:=Za8 (Fp.get hH 0 rfl)
  suffices hs:∃ H',ZcF Try.prog 40 [iv aG,.agg (Zaq aE),.ptr id6 0] aR (.tup []) H'/\∃ its',(λ(s:(List Zal)) (its:List ZaR)=>∃ (a7:AV),its=[.arr a7 13 false (List.map Zag s),.cel id6 [a7],.cel id3 (Z4 r1.1),.cel id4 [.map idm5],mpT idm5 3 (encE Zae bv r1.2)]) q its'/\Fp aR H' [.arr a7 13 false (List.map Zag bj),.cel id6 [a7],.cel id3 (Z4 r1.1),.cel id4 [.map idm5],mpT idm5 3 (encE Zae bv r1.2)] its' by
   obtain ⟨H',h1,its',h2,h3⟩:=hs
   exact ⟨H',its',Zjz.of kr h1,h2,h3⟩
  refine ZfM ZsK (λH'=>∃ its',(λ(s:(List Zal)) (its:List ZaR)=>∃ (a7:AV),its=[.arr a7 13 false (List.map Zag s),.cel id6 [a7],.cel id3 (Z4 r1.1),.cel id4 [.map idm5],mpT idm5 3 (encE Zae bv r1.2)]) q its'/\Fp aR H' [.arr a7 13 false (List.map Zag bj),.cel id6 [a7],.cel id3 (Z4 r1.1),.cel id4 [.map idm5],mpT idm5 3 (encE Zae bv r1.2)] its') rfl rfl rfl ?_
  show vc _ _ _ _ ⟨[(0,iv aG),(1,.agg (Zaq aE)),(2,.ptr id6 0)],[],aR⟩
  refine sq (rg Z6.f (tq ?_))
  have bT:=Fp.get hH 1 rfl
  obtain ⟨cb,co,h⟩:=bs h
  obtain ⟨ay,d0,cB,hH⟩:=Fp.app (k:=0) (a:=a7) (sz:=13) (frz:=false) Zag hH rfl co
  replace hH:Fp _ _ _ [.arr ay 13 false (List.map Zag cb),.cel id6 [a7],.cel id3 (Z4 r1.1),.cel id4 [.map idm5],mpT idm5 3 (encE Zae bv r1.2)]:=hH
  have an:=Za8 (Fp.get hH 0 rfl)
  obtain ⟨cZ,cI,hH⟩:=Fp.setCell (k:=1) (off:=0) (cs:=[a7]) (vs:=[ay]) (cs':=[ay]) hH rfl kr
  replace hH:Fp _ _ _ [.arr ay 13 false (List.map Zag cb),.cel id6 [ay],.cel id3 (Z4 r1.1),.cel id4 [.map idm5],mpT idm5 3 (encE Zae bv r1.2)]:=hH
  refine rgS ⟨[],[],cZ⟩ (Z6.u 0 (Zbr (H:=aR) (id:=id6) (off:=0) (cs:=[a7]) (c:=[a7]) (r:=a7) (by cases ae<;>kernel_rfl) (by cases ae<;>kernel_rfl) bT (by cases ae<;>kernel_rfl) (by cases ae<;>kernel_rfl) (by cases ae<;>kernel_rfl)) (Z6.h 4 (Zee (H:=aR) (a:=a7) (b:=Zcs true [(Zal.mk aG aE)]) (by cases ae<;>kernel_rfl) (by cases ae<;>kernel_rfl) (by cases ae<;>kernel_rfl) (by cases ae<;>kernel_rfl) cB) (Z6.o 0 (Zb1 (H:=d0) (v:=ay) (cs:=[ay]) (by cases an<;>kernel_rfl) (by cases an<;>kernel_rfl) (by cases an<;>kernel_rfl) (by cases an<;>kernel_rfl) (by cases an<;>kernel_rfl) cI) Z6.f))) (by cases an<;>cases ae<;>kernel_rfl) ?_
  cases h
  exact ⟨[],kr,kr,_,⟨ay,Eq.refl _⟩,(Fp.pk hH [0,1,2,3,4] rfl)⟩
 obtain ⟨cY,cL,bu,bZ,c2⟩:=bp 0 cf [] c5 H7 [.arr (.p (.sl 13 true [])) 13 false (List.map Zag []),.cel id6 [Zcs true []],.cel id3 (Z4 r1.1),.cel id4 [.map idm5],mpT idm5 3 (encE Zae bv r1.2)] (by exact ⟨(.p (.sl 13 true [])),Eq.refl _⟩) (HP.now (HP.pick (HP.nilArr hH 13 false) [0,1,2,3,4] rfl)) cl
 obtain ⟨a7,rfl⟩:=bZ
 replace hH:HP _ [.arr a7 13 false (List.map Zag c5),.cel id6 [a7],.cel id3 (Z4 r1.1),.cel id4 [.map idm5],mpT idm5 3 (encE Zae bv r1.2)]:=HP.callee (fp:=[.arr (.p (.sl 13 true [])) 13 false (List.map Zag []),.cel id6 [Zcs true []],.cel id3 (Z4 r1.1),.cel id4 [.map idm5],mpT idm5 3 (encE Zae bv r1.2)]) (rest:=[]) (HP.pick (HP.nilArr hH 13 false) [0,1,2,3,4] rfl) c2
 have ae:=Za8 (HP.get hH 0 rfl)
 refine rg (Z6.v 2 (Zke (H:=H7) (fv:=.fn 40 [] [.ptr id6 0]) (ys:=[iv 0,.agg (Zaq cf)]) (hc:=bu)) Z6.f) (tq (sq (bk ?_)))
 obtain ⟨c7,aU,h⟩:=bs h
 refine ZaN ((ZaA (λ(x:(List Zal)×(List (Zam×Bool))) s=>∃ (a2:AV) (af:List HO),s=⟨[(1,Z5 false a1_),(5,.fn 51 [] [.ptr id3 0,.ptr id4 0]),(6,.ptr id6 0),(7,.fn 40 [] [.ptr id6 0])],[],af⟩/\HP af [.arr a2 13 false (List.map Zag x.1),.cel id3 (Z4 r1.1),.cel id4 [.map idm5],.cel id6 [a2],mpT idm5 3 (encE Zae bv x.2)]) (λx:(List Zal)×(List (Zam×Bool))=>ZbX N a1_ r1 x.1 x.2) (λ(p:(Unit)⊕(Bool)) e s=>match p with|(.inl p)=>e=.exit 2/\(∃ (bi:List HO),s=⟨[],[],bi⟩/\HP bi [])|(.inr p)=>e=.ret/\∃ xs,resL s i25.res=some xs/\ZbC xs=bv p) ?_ N _ c7 _ aU ⟨a7,cY,kr,(HP.pick hH [0,2,3,1,4] rfl)⟩).mono ?_)
 ·clear h aU
  rintro ⟨az,aK⟩ o s h hR
  obtain ⟨a2,af,rfl,hH⟩:=hR
  replace hH:HP _ [.arr a2 13 false (List.map Zag az),.cel id3 (Z4 r1.1),.cel id4 [.map idm5],.cel id6 [a2],mpT idm5 3 (encE Zae bv aK)]:=hH
  have a0:=Za8 (HP.get hH 0 rfl)
  replace h:ZbX N a1_ r1 az aK=some o:=h
  unfold ZbX at h
  refine sq (sq ?_)
  have bR:=HP.get hH 3 rfl
  have bA:=HP.len (k:=0) (a:=a2) (sz:=13) (frz:=false) (l:=az) Zag hH rfl
  refine rgS ⟨[(1,Z5 false a1_),(5,.fn 51 [] [.ptr id3 0,.ptr id4 0]),(6,.ptr id6 0),(7,.fn 40 [] [.ptr id6 0]),(29,bv (decide (((List.length az:Nat):Int)>0)))],[],af⟩ (Z6.u 0 (Zbr (H:=af) (id:=id6) (off:=0) (cs:=[a2]) (c:=[a2]) (r:=a2) (by cases a0<;>kernel_rfl) (by cases a0<;>kernel_rfl) bR (by cases a0<;>kernel_rfl) (by cases a0<;>kernel_rfl) (by cases a0<;>kernel_rfl)) (Z6.u 0 (Zac (ys:=[a2]) (by cases a0<;>kernel_rfl) bA) Z6.f)) (by cases a0<;>kernel_rfl) (tq (it h (λcy h=>?_) (λcy h=>?_)))
  ·refine sk (tq (kq (bk (sq ?_))))
   have bQ:=HP.get hH 3 rfl
   have bM:=HP.get hH 3 rfl
   have bz:=HP.len (k:=0) (a:=a2) (sz:=13) (frz:=false) (l:=az) Zag hH rfl
   obtain ⟨a4,bd,h⟩:=bs h
   obtain ⟨d8,d2,_,cM,bV,cQ,aZ⟩:=HP.elem (k:=0) (a:=a2) (sz:=13) (frz:=false) Zag hH rfl bd
   refine rgS ⟨[(1,Z5 false a1_),(5,.fn 51 [] [.ptr id3 0,.ptr id4 0]),(6,.ptr id6 0),(7,.fn 40 [] [.ptr id6 0]),(10,.loc 10 0)],[(10,(Zdk a4))],af⟩ (Z6.u 0 (Zbr (H:=af) (id:=id6) (off:=0) (cs:=[a2]) (c:=[a2]) (r:=a2) (by cases a0<;>kernel_rfl) (by cases a0<;>kernel_rfl) bQ (by cases a0<;>kernel_rfl) (by cases a0<;>kernel_rfl) (by cases a0<;>kernel_rfl)) (Z6.u 0 (Zbr (H:=af) (id:=id6) (off:=0) (cs:=[a2]) (c:=[a2]) (r:=a2) (by cases a0<;>kernel_rfl) (by cases a0<;>kernel_rfl) bM (by cases a0<;>kernel_rfl) (by cases a0<;>kernel_rfl) (by cases a0<;>kernel_rfl)) (Z6.u 0 (Zac (ys:=[a2]) (by cases a0<;>kernel_rfl) bz) (Z6.u 1 (Zac (ys:=[a2,iv (w64 (((List.length az:Nat):Int)-1))]) (by cases a0<;>kernel_rfl) (aZ .i64)) (Z6.u 0 (Zc7 (H:=af) (off:=0) (cs:=([.int .i64 a4.choice]++Zi0 a4.given)) (r:=.agg (Zdk a4)) Zag bd bV) (Z6.f (h:=(by cases a0<;>kernel_rfl)))))))) (by cases a0<;>kernel_rfl) (tq (sq ?_))
   have bL:=HP.get hH 3 rfl
   have bK:=HP.get hH 3 rfl
   have bw:=HP.len (k:=0) (a:=a2) (sz:=13) (frz:=false) (l:=az) Zag hH rfl
   obtain ⟨ca,cn,h⟩:=bs h
   obtain ⟨d7,d1,ax,cX,aY,bU,aX,cG,cA,hH⟩:=HP.pop (k:=0) Zag hH rfl cn
   replace hH:HP _ [.arr ax 13 false (List.map Zag ca),.cel id3 (Z4 r1.1),.cel id4 [.map idm5],.cel id6 [a2],mpT idm5 3 (encE Zae bv aK)]:=hH
   have am:=Za8 (HP.get hH 0 rfl)
   obtain ⟨ce,cE,hH⟩:=HP.setCell (k:=3) (off:=0) (cs:=[a2]) (vs:=[ax]) (cs':=[ax]) hH rfl kr
   replace hH:HP _ [.arr ax 13 false (List.map Zag ca),.cel id3 (Z4 r1.1),.cel id4 [.map idm5],.cel id6 [ax],mpT idm5 3 (encE Zae bv aK)]:=hH
   refine rgS ⟨[(1,Z5 false a1_),(5,.fn 51 [] [.ptr id3 0,.ptr id4 0]),(6,.ptr id6 0),(7,.fn 40 [] [.ptr id6 0]),(10,.loc 10 0)],[(10,(Zdk a4))],ce⟩ (Z6.u 0 (Zbr (H:=af) (id:=id6) (off:=0) (cs:=[a2]) (c:=[a2]) (r:=a2) (by cases a0<;>kernel_rfl) (by cases a0<;>kernel_rfl) bL (by cases a0<;>kernel_rfl) (by cases a0<;>kernel_rfl) (by cases a0<;>kernel_rfl)) (Z6.u 0 (Zbr (H:=af) (id:=id6) (off:=0) (cs:=[a2]) (c:=[a2]) (r:=a2) (by cases a0<;>kernel_rfl) (by cases a0<;>kernel_rfl) bK (by cases a0<;>kernel_rfl) (by cases a0<;>kernel_rfl) (by cases a0<;>kernel_rfl)) (Z6.u 0 (Zac (ys:=[a2]) (by cases a0<;>kernel_rfl) bw) (Z6.h 1 (Zpw (H:=af) (av:=a2) (by cases a0<;>kernel_rfl) (by cases a0<;>kernel_rfl) (by cases a0<;>kernel_rfl) aY bU aX cG cA) (Z6.o 0 (Zb1 (H:=cX) (v:=ax) (cs:=[ax]) (by cases am<;>kernel_rfl) (by cases am<;>kernel_rfl) (by cases am<;>kernel_rfl) (by cases am<;>kernel_rfl) (by cases am<;>kernel_rfl) cE) Z6.f))))) (by cases a0<;>cases am<;>kernel_rfl) (tq (sq ?_))
   obtain ⟨ad,bc,h⟩:=bs h
   refine rg (Z6.u 3 (Zac (ys:=[Z5 false a1_,iv a4.choice]) (h:=Zaa Zab bc)) (Z6.u 1 (Zao (sz:=2) (off:=0) (cs:=[.int .i64 ad.Stream]) (r:=iv ad.Stream) Zab bc) Z6.f)) (tq (sq (sq ?_)))
   obtain ⟨dd,bb,h⟩:=bs h
   refine rg (Z6.u 2 (Zac (ys:=[.loc 10 1,iv ad.Stream]) (h:=ZbQ (l:=a4.given.l) bb rfl)) (Z6.o 0 (Zft (t:=10) (off:=1) (cs:=(Zdk a4)) (l:=a4.given.l) (λx=>iv x) [iv a4.choice] [] bb kr kr rfl rfl) Z6.f)) (tq (it h (λcw h=>?_) (λcw h=>?_)))
   ·refine sq (rg Z6.f ?_)
    replace hH:HP _ []:=HP.pick hH [] rfl
    refine tq (rt (tr (br ?_)))
    cases h
    exact ⟨_,rfl,rfl,Zar kr⟩
   refine sk (tq (kq (sq ?_)))
   obtain ⟨ao,ba,h⟩:=bs h
   refine rg (Z6.u 3 (Zac (ys:=[Z5 false a1_,iv a4.choice]) (h:=Zaa Zab ba)) (Z6.u 1 (Zao (sz:=2) (off:=1) (cs:=[.sl 4 false (List.map Zah ao.Arms)]) (r:=Zak false ao.Arms) Zab ba) (Z6.u 0 (Zac (ys:=[Zak false ao.Arms]) (h:=Zap Zah)) Z6.f))) (tq (bk ?_))
   obtain ⟨c8,aV,h⟩:=bs h
   refine ZaN ((ZaA (λ(x:Int×(List Zal)×(List (Zam×Bool))) s=>∃ (ac:AV) (ar:List HO),s=⟨[(1,Z5 false a1_),(5,.fn 51 [] [.ptr id3 0,.ptr id4 0]),(6,.ptr id6 0),(7,.fn 40 [] [.ptr id6 0]),(10,.loc 10 0),(11,iv ad.Stream),(57,Zak false ao.Arms),(58,iv ((List.length ao.Arms:Nat):Int)),(59,iv x.1)],[(10,(Zdk a4))],ar⟩/\HP ar [.arr ac 13 false (List.map Zag x.2.1),.cel id3 (Z4 r1.1),.cel id4 [.map idm5],.cel id6 [ac],mpT idm5 3 (encE Zae bv x.2.2)]) (λx:Int×(List Zal)×(List (Zam×Bool))=>ZbW N r1 a4 ad ao x.1 x.2.1 x.2.2) (λ(p:((List Zal)×(List (Zam×Bool)))⊕(Bool)) e s=>match p with|(.inl p)=>e=.exit 4/\(∃ (aC:AV) (aQ:List HO),s=⟨[(1,Z5 false a1_),(5,.fn 51 [] [.ptr id3 0,.ptr id4 0]),(6,.ptr id6 0),(7,.fn 40 [] [.ptr id6 0])],[],aQ⟩/\HP aQ [.arr aC 13 false (List.map Zag p.1),.cel id3 (Z4 r1.1),.cel id4 [.map idm5],.cel id6 [aC],mpT idm5 3 (encE Zae bv p.2)])|(.inr p)=>e=.ret/\∃ xs,resL s i25.res=some xs/\ZbC xs=bv p) ?_ N _ c8 _ aV ⟨ax,ce,kr,(HP.pick hH [0,1,2,3,4] rfl)⟩).mono ?_)
   ·clear h aV
    rintro ⟨aT,a5,ab⟩ o s h hR
    obtain ⟨ac,ar,rfl,hH⟩:=hR
    replace hH:HP _ [.arr ac 13 false (List.map Zag a5),.cel id3 (Z4 r1.1),.cel id4 [.map idm5],.cel id6 [ac],mpT idm5 3 (encE Zae bv ab)]:=hH
    have d6:=Za8 (HP.get hH 0 rfl)
    replace h:ZbW N r1 a4 ad ao aT a5 ab=some o:=h
    unfold ZbW at h
    refine sq (rg Z6.f (tq (sq (it h (λcv h=>?_) (λcv h=>?_)))))
    ·refine sk (tq (kq (sq (bk (sq ?_)))))
     obtain ⟨a9,b2,h⟩:=bs h
     refine rg (Z6.u 0 (Zac (ys:=[Zak false ao.Arms,iv aT]) (h:=Zaa Zah b2)) (Z6.u 0 (Zao (sz:=4) (off:=0) (cs:=[.int .i64 a9.From,.int .i64 a9.To,.int .i64 a9.By,.int .i64 a9.Next]) (r:=.agg (ZaH a9)) Zah b2) Z6.f)) (tq (bk (sq (rg Z6.f (tq (it h (λcu h=>?_) (λcu h=>?_)))))))
     ·refine sq (rg Z6.f (tq (sq ?_)))
      obtain ⟨dc,b1,h⟩:=bs h
      refine rg (Z6.u 3 (Zac (ys:=[.loc 14 0,iv ad.Stream]) (h:=ZbQ (l:=a4.given.l) b1 rfl)) (Z6.o 0 (ZfO (t:=14) (off:=0) (cs:=(Zaq a4.given)) (l:=a4.given.l) (λx=>iv x) [] [] (y:=a9.From) (cs':=(Zaq (Zad.set a4.given ad.Stream a9.From))) b1 kr kr kr rfl rfl (ZkO (Zad.c_set a4.given ad.Stream a9.From) (by show (Zaq (Zad.set a4.given ad.Stream a9.From))=[]++(Zaq (Zad.set a4.given ad.Stream a9.From)++[]);rfl))) Z6.f)) (tq ?_)
      obtain ⟨c4,ck,h⟩:=bs h
      have bm:∀ (aq:Int) (ap:Zad) (s:(List Zal)) (r:(((List Zal)))) (H:List HO) (its:List ZaR),(λ(s:(List Zal)) (its:List ZaR)=>∃ (a3:AV),its=[.arr a3 13 false (List.map Zag s),.cel id3 (Z4 r1.1),.cel id4 [.map idm5],.cel id6 [a3],mpT idm5 3 (encE Zae bv ab)]) s its->HP H its->(λ(s:(List Zal)) (aq:Int) (ap:Zad)=>Zc2 N s aq ap) s aq ap=some r->∃ H' its',Zjz Try.prog (.fn 40 [] [.ptr id6 0]) [iv aq,.agg (Zaq ap)] H (.tup []) H'/\(λ(s:(List Zal)) (its:List ZaR)=>∃ (a3:AV),its=[.arr a3 13 false (List.map Zag s),.cel id3 (Z4 r1.1),.cel id4 [.map idm5],.cel id6 [a3],mpT idm5 3 (encE Zae bv ab)]) r its'/\Fp H H' its its':=by
       clear h
       intro aq ap s q aD its hT hH h
       obtain ⟨aJ,rfl⟩:∃ v,v=s:=⟨s,rfl⟩
       obtain ⟨a3,rfl⟩:=hT
       replace h:Zc2 N aJ aq ap=some q:=h
       unfold Zc2 at h
       replace hH:Fp _ _ _ [.arr a3 13 false (List.map Zag aJ),.cel id3 (Z4 r1.1),.cel id4 [.map idm5],.cel id6 [a3],mpT idm5 3 (encE Zae bv ab)]:=Fp.refl hH
       have a6:=Za8 (Fp.get hH 0 rfl)
       suffices hs:∃ H',ZcF Try.prog 40 [iv aq,.agg (Zaq ap),.ptr id6 0] aD (.tup []) H'/\∃ its',(λ(s:(List Zal)) (its:List ZaR)=>∃ (a3:AV),its=[.arr a3 13 false (List.map Zag s),.cel id3 (Z4 r1.1),.cel id4 [.map idm5],.cel id6 [a3],mpT idm5 3 (encE Zae bv ab)]) q its'/\Fp aD H' [.arr a3 13 false (List.map Zag aJ),.cel id3 (Z4 r1.1),.cel id4 [.map idm5],.cel id6 [a3],mpT idm5 3 (encE Zae bv ab)] its' by
        obtain ⟨H',h1,its',h2,h3⟩:=hs
        exact ⟨H',its',Zjz.of kr h1,h2,h3⟩
       refine ZfM ZsK (λH'=>∃ its',(λ(s:(List Zal)) (its:List ZaR)=>∃ (a3:AV),its=[.arr a3 13 false (List.map Zag s),.cel id3 (Z4 r1.1),.cel id4 [.map idm5],.cel id6 [a3],mpT idm5 3 (encE Zae bv ab)]) q its'/\Fp aD H' [.arr a3 13 false (List.map Zag aJ),.cel id3 (Z4 r1.1),.cel id4 [.map idm5],.cel id6 [a3],mpT idm5 3 (encE Zae bv ab)] its') rfl rfl rfl ?_
       show vc _ _ _ _ ⟨[(0,iv aq),(1,.agg (Zaq ap)),(2,.ptr id6 0)],[],aD⟩
       refine sq (rg Z6.f (tq ?_))
       have bJ:=Fp.get hH 3 rfl
       obtain ⟨c9,cm,h⟩:=bs h
       obtain ⟨aw,cW,cz,hH⟩:=Fp.app (k:=0) (a:=a3) (sz:=13) (frz:=false) Zag hH rfl cm
       replace hH:Fp _ _ _ [.arr aw 13 false (List.map Zag c9),.cel id3 (Z4 r1.1),.cel id4 [.map idm5],.cel id6 [a3],mpT idm5 3 (encE Zae bv ab)]:=hH
       have al:=Za8 (Fp.get hH 0 rfl)
       obtain ⟨cV,cD,hH⟩:=Fp.setCell (k:=3) (off:=0) (cs:=[a3]) (vs:=[aw]) (cs':=[aw]) hH rfl kr
       replace hH:Fp _ _ _ [.arr aw 13 false (List.map Zag c9),.cel id3 (Z4 r1.1),.cel id4 [.map idm5],.cel id6 [aw],mpT idm5 3 (encE Zae bv ab)]:=hH
       refine rgS ⟨[],[],cV⟩ (Z6.u 0 (Zbr (H:=aD) (id:=id6) (off:=0) (cs:=[a3]) (c:=[a3]) (r:=a3) (by cases a6<;>kernel_rfl) (by cases a6<;>kernel_rfl) bJ (by cases a6<;>kernel_rfl) (by cases a6<;>kernel_rfl) (by cases a6<;>kernel_rfl)) (Z6.h 4 (Zee (H:=aD) (a:=a3) (b:=Zcs true [(Zal.mk aq ap)]) (by cases a6<;>kernel_rfl) (by cases a6<;>kernel_rfl) (by cases a6<;>kernel_rfl) (by cases a6<;>kernel_rfl) cz) (Z6.o 0 (Zb1 (H:=cW) (v:=aw) (cs:=[aw]) (by cases al<;>kernel_rfl) (by cases al<;>kernel_rfl) (by cases al<;>kernel_rfl) (by cases al<;>kernel_rfl) (by cases al<;>kernel_rfl) cD) Z6.f))) (by cases a6<;>cases al<;>kernel_rfl) ?_
       cases h
       exact ⟨[],kr,kr,_,⟨aw,Eq.refl _⟩,(Fp.pk hH [0,1,2,3,4] rfl)⟩
      obtain ⟨cU,cK,bt,bY,c1⟩:=bm a9.Next (Zad.set a4.given ad.Stream a9.From) a5 c4 ar [.arr ac 13 false (List.map Zag a5),.cel id3 (Z4 r1.1),.cel id4 [.map idm5],.cel id6 [ac],mpT idm5 3 (encE Zae bv ab)] (by exact ⟨ac,Eq.refl _⟩) (HP.now (HP.pick hH [0,1,2,3,4] rfl)) ck
      obtain ⟨a3,rfl⟩:=bY
      replace hH:HP _ [.arr a3 13 false (List.map Zag c4),.cel id3 (Z4 r1.1),.cel id4 [.map idm5],.cel id6 [a3],mpT idm5 3 (encE Zae bv ab)]:=HP.callee (fp:=[.arr ac 13 false (List.map Zag a5),.cel id3 (Z4 r1.1),.cel id4 [.map idm5],.cel id6 [ac],mpT idm5 3 (encE Zae bv ab)]) (rest:=[]) (HP.pick hH [0,1,2,3,4] rfl) c1
      have a6:=Za8 (HP.get hH 0 rfl)
      refine rg (Z6.v 4 (Zke (H:=ar) (fv:=.fn 40 [] [.ptr id6 0]) (ys:=[iv a9.Next,.agg (Zaq (Zad.set a4.given ad.Stream a9.From))]) (hc:=bt)) Z6.f) (bn (bn (tq (kq (rg Z6.f ?_)))))
      cases h
      exact ⟨_,rfl,⟨a3,cU,kr,(HP.pick hH [0,1,2,3,4] rfl)⟩⟩
     refine sq ?_
     obtain ⟨aS,hj,h⟩:=bs h
     refine rgR (λs=>∃ (aA:AV) (aM:List HO),s=⟨[(1,Z5 false a1_),(5,.fn 51 [] [.ptr id3 0,.ptr id4 0]),(6,.ptr id6 0),(7,.fn 40 [] [.ptr id6 0]),(10,.loc 10 0),(11,iv ad.Stream),(57,Zak false ao.Arms),(58,iv ((List.length ao.Arms:Nat):Int)),(59,iv aT),(78,bv aS.1)],[(10,(Zdk a4))],aM⟩/\HP aM [.arr aA 13 false (List.map Zag a5),.cel id3 (Z4 r1.1),.cel id4 [.map idm5],.cel id6 [aA],mpT idm5 3 (encE Zae bv aS.2)]) ?_ ?_
     ·clear h
      rcases ZaD hj with ⟨ct,hj⟩|⟨cq,hj⟩
      ·refine (EP.u 2 (Z9 (c:=(decide (a9.By≥0))) (h:=ct)) ?_)
       obtain ⟨c3,cg,hj⟩:=bs hj
       have bl:∀ (a8:Int) (aj:Int) (aa:Int) (ai:Int) (s:(List (Zam×Bool))) (r:(((List (Zam×Bool)))×Bool)) (H:List HO) (its:List ZaR),(λ(s:(List (Zam×Bool))) (its:List ZaR)=>∃ (a1:AV),its=[.arr a1 13 false (List.map Zag a5),.cel id3 (Z4 r1.1),.cel id4 [.map idm5],.cel id6 [a1],mpT idm5 3 (encE Zae bv s)]) s its->HP H its->(λ(s:(List (Zam×Bool))) (a8:Int) (aj:Int) (aa:Int) (ai:Int)=>Zbq N r1 s a8 aj aa ai) s a8 aj aa ai=some r->∃ H' its',Zjz Try.prog (.fn 51 [] [.ptr id3 0,.ptr id4 0]) [iv a8,iv aj,iv aa,iv ai] H (bv r.2) H'/\(λ(s:(List (Zam×Bool))) (its:List ZaR)=>∃ (a1:AV),its=[.arr a1 13 false (List.map Zag a5),.cel id3 (Z4 r1.1),.cel id4 [.map idm5],.cel id6 [a1],mpT idm5 3 (encE Zae bv s)]) r.1 its'/\Fp H H' its its':=by
        clear h
        intro a8 aj aa ai s q ag its hT hH h
        obtain ⟨ak,rfl⟩:∃ v,v=s:=⟨s,rfl⟩
        obtain ⟨a1,rfl⟩:=hT
        replace h:Zbq N r1 ak a8 aj aa ai=some q:=h
        unfold Zbq at h
        replace hH:Fp _ _ _ [.arr a1 13 false (List.map Zag a5),.cel id3 (Z4 r1.1),.cel id4 [.map idm5],.cel id6 [a1],mpT idm5 3 (encE Zae bv ak)]:=Fp.refl hH
        have bW:=Za8 (Fp.get hH 0 rfl)
        suffices hs:∃ H',ZcF Try.prog 51 [iv a8,iv aj,iv aa,iv ai,.ptr id3 0,.ptr id4 0] ag (bv q.2) H'/\∃ its',(λ(s:(List (Zam×Bool))) (its:List ZaR)=>∃ (a1:AV),its=[.arr a1 13 false (List.map Zag a5),.cel id3 (Z4 r1.1),.cel id4 [.map idm5],.cel id6 [a1],mpT idm5 3 (encE Zae bv s)]) q.1 its'/\Fp ag H' [.arr a1 13 false (List.map Zag a5),.cel id3 (Z4 r1.1),.cel id4 [.map idm5],.cel id6 [a1],mpT idm5 3 (encE Zae bv ak)] its' by
         obtain ⟨H',h1,its',h2,h3⟩:=hs
         exact ⟨H',its',Zjz.of kr h1,h2,h3⟩
        refine ZfM Zz6 (λH'=>∃ its',(λ(s:(List (Zam×Bool))) (its:List ZaR)=>∃ (a1:AV),its=[.arr a1 13 false (List.map Zag a5),.cel id3 (Z4 r1.1),.cel id4 [.map idm5],.cel id6 [a1],mpT idm5 3 (encE Zae bv s)]) q.1 its'/\Fp ag H' [.arr a1 13 false (List.map Zag a5),.cel id3 (Z4 r1.1),.cel id4 [.map idm5],.cel id6 [a1],mpT idm5 3 (encE Zae bv ak)] its') rfl rfl rfl ?_
        show vc _ _ _ _ ⟨[(0,iv a8),(1,iv aj),(2,iv aa),(3,iv ai),(4,.ptr id3 0),(5,.ptr id4 0)],[],ag⟩
        refine sq (rg Z6.f (tq (sq ?_)))
        have bI:=Fp.get hH 1 rfl
        obtain ⟨be,b0,h⟩:=bs h
        obtain ⟨au,cj,h⟩:=bs h
        refine rg (Z6.u 5 (Zbr (H:=ag) (id:=id3) (off:=0) (cs:=(Z4 r1.1)) (c:=[Zaf false r1.1.Periods]) (r:=Zaf false r1.1.Periods) (hl:=bI)) (Z6.u 1 (Zac (ys:=[Zaf false r1.1.Periods,iv a8]) (h:=Zaa eI64 b0)) (Z6.u 0 (Zao (sz:=1) (off:=0) (cs:=[.int .i64 be]) (r:=iv be) eI64 b0) (Z6.v 0 (Zaw (hc:=Zhu N (w64 (aj-ai)) be au cj)) Z6.f)))) (tq (sq ?_))
        have bG:=Fp.get hH 2 rfl
        have bC:=Fp.get hH 4 rfl
        refine rg (Z6.u 0 (Zbr (H:=ag) (id:=id4) (off:=0) (cs:=[.map idm5]) (c:=[.map idm5]) (r:=.map idm5) (hl:=bG)) (Z6.u 1 (ZnL (H:=ag) (id:=idm5) (kn:=3) (ke:=Zae) (ve:=bv) (l:=ak) (x:=(Zam.mk a8 au aa)) (z:=false) (r:=.tup [bv (Zn7 ak (Zam.mk a8 au aa) false),bv (mhas ak (Zam.mk a8 au aa))]) kr kr bC kr kr (λ_=>rfl)) Z6.f)) (tq ?_)
        obtain ⟨aL,aW,h⟩:=bs h
        refine ZdQ [12] (λs=>∃ (aB:AV) (bf:List HO),s=⟨[(12,bv aL.1)],[],bf⟩/\Fp ag bf [.arr a1 13 false (List.map Zag a5),.cel id3 (Z4 r1.1),.cel id4 [.map idm5],.cel id6 [a1],mpT idm5 3 (encE Zae bv ak)] [.arr aB 13 false (List.map Zag a5),.cel id3 (Z4 r1.1),.cel id4 [.map idm5],.cel id6 [aB],mpT idm5 3 (encE Zae bv aL.2)]) ?_ ?_
        ·clear h
         have h:=aW
         refine sq (rg Z6.f (tq (it h (λcr h=>?_) (λcr h=>?_))))
         ·refine sq ?_
          have bE:=Fp.get hH 1 rfl
          obtain ⟨aI,ci,h⟩:=bs h
          refine rg (Z6.u 0 (Zbr (H:=ag) (id:=id3) (off:=0) (cs:=(Z4 r1.1)) (c:=(Z4 r1.1)) (r:=.agg (Z4 r1.1)) (hl:=bE)) (Z6.v 6 (Zaw (hc:=Zh1 N r1.1 a8 au aa 0 aI ci)) Z6.f)) (tq ?_)
          have bD:=Fp.get hH 2 rfl
          have bB:=Fp.get hH 4 rfl
          obtain ⟨cT,cC,hH⟩:=Fp.setMp (k:=4) hH rfl (encE Zae bv (Zgn ak (Zam.mk a8 au aa) aI.1))
          replace hH:Fp _ _ _ [.arr a1 13 false (List.map Zag a5),.cel id3 (Z4 r1.1),.cel id4 [.map idm5],.cel id6 [a1],mpT idm5 3 (encE Zae bv (Zgn ak (Zam.mk a8 au aa) aI.1))]:=hH
          refine rg (Z6.u 0 (Zbr (H:=ag) (id:=id4) (off:=0) (cs:=[.map idm5]) (c:=[.map idm5]) (r:=.map idm5) (hl:=bD)) (Z6.o 2 (Zpx (H:=ag) (id:=idm5) (kn:=3) (ke:=Zae) (ve:=bv) (l:=ak) (x:=(Zam.mk a8 au aa)) (v:=aI.1) (y:=bv aI.1) kr kr bB kr kr cC) Z6.f)) ?_
          cases h
          exact ⟨rfl,⟨a1,cT,kr,(Fp.pick hH [0,1,2,3,4] rfl)⟩⟩
         refine sk ?_
         cases h
         exact ⟨rfl,⟨a1,ag,kr,(Fp.pick hH [0,1,2,3,4] rfl)⟩⟩
        clear aW
        rintro s hR
        obtain ⟨aB,bf,rfl,hH⟩:=hR
        replace hH:Fp _ _ _ [.arr aB 13 false (List.map Zag a5),.cel id3 (Z4 r1.1),.cel id4 [.map idm5],.cel id6 [aB],mpT idm5 3 (encE Zae bv aL.2)]:=hH
        have d4:=Za8 (Fp.get hH 0 rfl)
        refine sq (rg Z6.f (tq (rt ?_)))
        cases h
        exact ⟨[bv aL.1],kr,kr,_,⟨aB,Eq.refl _⟩,(Fp.pk hH [0,1,2,3,4] rfl)⟩
       obtain ⟨cS,cJ,bq,bX,c0⟩:=ZhY N (λ(s:(List (Zam×Bool))) (a8:Int) (aj:Int) (aa:Int) (ai:Int)=>Zbq N r1 s a8 aj aa ai) ad.Stream a4.given a9 ab 51 [] [.ptr id3 0,.ptr id4 0] kr (λ(s:(List (Zam×Bool))) (its:List ZaR)=>∃ (a1:AV),its=[.arr a1 13 false (List.map Zag a5),.cel id3 (Z4 r1.1),.cel id4 [.map idm5],.cel id6 [a1],mpT idm5 3 (encE Zae bv s)]) bl ar [.arr ac 13 false (List.map Zag a5),.cel id3 (Z4 r1.1),.cel id4 [.map idm5],.cel id6 [ac],mpT idm5 3 (encE Zae bv ab)] (by exact ⟨ac,Eq.refl _⟩) (HP.now (HP.pick hH [0,1,2,3,4] rfl)) c3 cg
       obtain ⟨a1,rfl⟩:=bX
       replace hH:HP _ [.arr a1 13 false (List.map Zag a5),.cel id3 (Z4 r1.1),.cel id4 [.map idm5],.cel id6 [a1],mpT idm5 3 (encE Zae bv c3.1)]:=HP.callee (fp:=[.arr ac 13 false (List.map Zag a5),.cel id3 (Z4 r1.1),.cel id4 [.map idm5],.cel id6 [ac],mpT idm5 3 (encE Zae bv ab)]) (rest:=[]) (HP.pick hH [0,1,2,3,4] rfl) c0
       have bW:=Za8 (HP.get hH 0 rfl)
       obtain rfl:=Zan hj
       exact (EP.v 6 (Zkg (H:=ar) (ys:=[.fn 51 [] [.ptr id3 0,.ptr id4 0],iv ad.Stream,.agg (Zaq a4.given),.agg (ZaH a9)]) kr kr kr bq) (EP.f ⟨a1,cS,kr,(HP.pick hH [0,1,2,3,4] rfl)⟩))
      obtain rfl:=Zan hj
      exact (EP.u 2 (Z9 (c:=(decide (a9.By≥0))) (h:=cq)) (EP.f ⟨ac,ar,kr,(HP.pick hH [0,1,2,3,4] rfl)⟩))
     clear hj
     rintro s hR
     obtain ⟨aA,aM,rfl,hH⟩:=hR
     replace hH:HP _ [.arr aA 13 false (List.map Zag a5),.cel id3 (Z4 r1.1),.cel id4 [.map idm5],.cel id6 [aA],mpT idm5 3 (encE Zae bv aS.2)]:=hH
     have d3:=Za8 (HP.get hH 0 rfl)
     refine tq (it h (λcp h=>?_) (λcp h=>?_))
     ·refine sq (rg Z6.f ?_)
      replace hH:HP _ []:=HP.pick hH [] rfl
      refine tq (rt (br (br (tr ?_))))
      cases h
      exact ⟨_,rfl,rfl,Zar kr⟩
     refine sk (bn (bn (tq (kq (rg Z6.f ?_)))))
     cases h
     exact ⟨_,rfl,⟨aA,aM,kr,(HP.pick hH [0,1,2,3,4] rfl)⟩⟩
    refine kq (xq (tx ?_))
    cases h
    exact ⟨_,rfl,rfl,⟨ac,ar,kr,(HP.pick hH [0,1,2,3,4] rfl)⟩⟩
   rintro e s hq
   rcases c8 with c6|db
   ·dsimp only at h hq
    obtain ⟨rfl,hR⟩:=hq
    obtain ⟨aC,aQ,rfl,hH⟩:=hR
    replace hH:HP _ [.arr aC 13 false (List.map Zag c6.1),.cel id3 (Z4 r1.1),.cel id4 [.map idm5],.cel id6 [aC],mpT idm5 3 (encE Zae bv c6.2)]:=hH
    have d5:=Za8 (HP.get hH 0 rfl)
    refine bx (bn ?_)
    cases h
    exact ⟨_,rfl,⟨aC,aQ,kr,(HP.pick hH [0,1,2,3,4] rfl)⟩⟩
   dsimp only at h hq
   obtain ⟨rfl,hq⟩:=hq
   refine br (br ?_)
   cases h
   exact ⟨_,rfl,rfl,hq⟩
  refine kq ?_
  replace hH:HP _ []:=HP.pick hH [] rfl
  refine xq (tx ?_)
  cases h
  exact ⟨_,rfl,rfl,⟨af,kr,(HP.pick hH [] rfl)⟩⟩
 rintro e s hq
 rcases c7 with da|d9
 ·dsimp only at h hq
  obtain ⟨rfl,hR⟩:=hq
  obtain ⟨bi,rfl,hH⟩:=hR
  replace hH:HP _ []:=hH
  refine bx (tq (sq (rg Z6.f (tq (rt ?_)))))
  cases h
  exact Zar kr
 dsimp only at h hq
 obtain ⟨rfl,hq⟩:=hq
 refine br (tr ?_)
 cases h
 exact hq
theorem Zc5 (N:Nat)(a0_:Z8)(a1_:(List Z7))(r:Int)(h:ZbY N a0_ a1_=some r):Za9 Try.prog 10 [.agg (Z4 a0_),Z5 false a1_] (iv r):=by
 unfold ZbY at h
 have hH  := hp0
 refine ZaC ZAJ rfl rfl (Zat _ _ _ ?_) rfl
 refine sq (rg Z6.f (tq (sq (sq ?_))))
 obtain ⟨r1,hr1,h⟩:=bs h
 refine rg (Z6.v 1 (Zaw (hc:=ZgE N a0_ r1 hr1)) Z6.f) (tq (sq (rg Z6.f (tq (it h (λhc2 h=>?_) (λhc2 h=>?_))))))
 ·refine sq (rg Z6.f (tq (rt (tr ?_))))
  cases h
  exact Zar kr
 refine sk (tq (kq (sq (sq ?_))))
 obtain ⟨r3,hr3,h⟩:=bs h
 refine rg (Z6.v 2 (Zaw (hc:=Ziy N a0_ a1_ r3 hr3)) Z6.f) (tq (it h (λhc4 h=>?_) (λhc4 h=>?_)))
 ·refine sq (rg Z6.f (tq (rt (tr ?_))))
  cases h
  exact Zar kr
 refine sk (tq (kq (sq (sq ?_))))
 obtain ⟨r5,hr5,h⟩:=bs h
 refine rg (Z6.v 2 (Zaw (hc:=Zjq N a0_ a1_ r5 hr5)) Z6.f) (tq (it h (λhc6 h=>?_) (λhc6 h=>?_)))
 ·refine sq (rg Z6.f (tq (rt (tr ?_))))
  cases h
  exact Zar kr
 refine sk (tq (kq (sq (rg Z6.f (tq (rt ?_))))))
 cases h
 exact Zar kr
theorem Zeq (N:Nat)(a0_:(List Int))(H:List HO)(hH:HP H [])(r:(List Int))(h:Zbd N a0_=some r):∃ (or_0_0_:AV) (H':List HO),ZcF Try.prog 29 [Zaf false a0_] H (or_0_0_) H'/\Fp H H' [] [.arr or_0_0_ 1 false (List.map eI64 r)]:=by
 suffices hs:∃ r' H',ZcF Try.prog 29 [Zaf false a0_] H r' H'/\∃ (or_0_0_:AV),r'=or_0_0_/\Fp H H' [] [.arr or_0_0_ 1 false (List.map eI64 r)] by
  obtain ⟨_,H',h1,or_0_0_,he,h2⟩:=hs
  exact ⟨or_0_0_,H',he ▸ h1,h2⟩
 unfold Zbd at h
 replace hH:=Fp.refl hH
 refine Zmq ZAr [] (λr' H'=>∃ (or_0_0_:AV),r'=or_0_0_/\Fp H H' [] [.arr or_0_0_ 1 false (List.map eI64 r)]) (λr' H' q=>by obtain ⟨or_0_0_,e,hp⟩:=q;subst e;have hfor_0_0_:=Za8 (Fp.get hp 0 rfl);show ZaL _=true;cases hfor_0_0_<;>rfl) rfl kr (sq (rgS ⟨[(0,Zaf false a0_)],[],H⟩ Z6.f kr (tq (sq (sq ?_)))))
 obtain ⟨u1,hu1,h⟩:=bs h
 refine rgS ⟨[(0,Zaf false a0_),(4,bv false)],[],H⟩ (Z6.u 1 (Zac (ys:=[Zaf false a0_]) (h:=ZlV (neg:=false) (ZoX hu1))) Z6.f) kr (tq (ZfN kr (sk (tq (kq (sq ?_))))))
 obtain ⟨l4,hl4,h⟩:=bs h
 obtain ⟨a2,H3,ha2,hH⟩:=ZkP (sz:=1) eI64 hH hl4
 replace hH:Fp _ _ _ [.arr a2 1 false (List.map eI64 l4)]:=hH
 have hfa2:=Za8 (Fp.get hH 0 rfl)
 refine rgS ⟨[(2,a2)],[],H3⟩ (Z6.h 2 (Zee (H:=H) (a:=Zaf true []) (b:=Zaf false a0_) kr kr kr kr ha2) Z6.f) (by cases hfa2<;>kernel_rfl) (tq (rt ?_))
 cases h
 exact ⟨[a2],(by cases hfa2<;>kernel_rfl),a2,(by cases hfa2<;>kernel_rfl),Fp.pk hH [0] rfl⟩
theorem ZbS (N:Nat)(a0_:Z8)(a1_:(List Z7))(a2_:(List Int))(r:Int×Int×Int)(h:Zb3 N a0_ a1_ a2_=some r):Za9 Try.prog 14 [.agg (Z4 a0_),Z5 false a1_,Zaf false a2_] (.tup [iv r.1,iv r.2.1,iv r.2.2]):=by
 unfold Zb3 at h
 have hH  := hp0
 refine ZaC ZAF rfl rfl (Zat _ _ _ ?_) rfl
 refine sq (rg Z6.f (tq (Zmw (EvI.scope (sq (sq ?_))))))
 obtain ⟨r1,hr1,h⟩:=bs h
 refine rg (Z6.v 2 (Zaw (hc:=Zc5 N a0_ a1_ r1 hr1)) Z6.f) (tq (sq (rg Z6.f (tq (it h (λhc2 h=>?_) (λhc2 h=>?_))))))
 ·refine sq (rg Z6.f (tq (rt (tr (nr ?_)))))
  cases h
  exact Zar kr
 refine sk (tq (kq (sq (sq (rg (Z6.u 1 (Zac (ys:=[Zaf false a2_]) (h:=Zap eI64)) (Z6.u 2 (Zac (ys:=[Zaf false a0_.Periods]) (h:=Zap eI64)) Z6.f)) (tq (it h (λhc3 h=>?_) (λhc3 h=>?_))))))))
 ·refine sq (rg Z6.f (tq (rt (tr (nr ?_)))))
  cases h
  exact Zar kr
 refine sk (tq (kq (sq (sq (rg (Z6.u 1 (Zac (ys:=[Zaf false a2_]) (h:=Zap eI64)) Z6.f) (tq (bk ?_)))))))
 obtain ⟨b2,aM,h⟩:=bs h
 refine ZaN ((ZaA (λ(x:Int) s=>s=⟨[(1,Z5 false a1_),(2,Zaf false a2_),(3,.loc 3 0),(29,Zaf false a2_),(30,iv ((List.length a2_:Nat):Int)),(31,iv x)],[(3,(Z4 a0_))],[]⟩) (λx:Int=>Zde N a0_ a2_ x) (λ(p:(Unit)⊕(Int×Int×Int)) e s=>match p with|(.inl p)=>e=.exit 0/\(s=⟨[(1,Z5 false a1_),(2,Zaf false a2_),(3,.loc 3 0)],[(3,(Z4 a0_))],[]⟩)|(.inr p)=>e=.ret/\∃ xs,resL s i14.res=some xs/\ZbC xs=.tup [iv p.1,iv p.2.1,iv p.2.2]) ?_ N _ b2 _ aM kr).mono ?_)
 ·clear h aM
  rintro i4 o s h hR
  obtain rfl:=hR
  replace h:Zde N a0_ a2_ i4=some o:=h
  unfold Zde at h
  refine sq (rg Z6.f (tq (sq (it h (λbm h=>?_) (λbm h=>?_)))))
  ·refine sk (tq (kq (sq (bk (sq ?_)))))
   obtain ⟨aJ,aR,h⟩:=bs h
   refine rg (Z6.u 1 (Zac (ys:=[Zaf false a2_,iv i4]) (h:=Zaa eI64 aR)) (Z6.u 0 (Zao (sz:=1) (off:=0) (cs:=[.int .i64 aJ]) (r:=iv aJ) eI64 aR) Z6.f)) (tq (sq ?_))
   obtain ⟨bw,hj,h⟩:=bs h
   refine rgR (λs=>s=⟨[(1,Z5 false a1_),(2,Zaf false a2_),(3,.loc 3 0),(29,Zaf false a2_),(30,iv ((List.length a2_:Nat):Int)),(31,iv i4),(46,bv bw)],[(3,(Z4 a0_))],[]⟩) ?_ ?_
   ·clear h
    rcases ZaD hj with ⟨bl,hj⟩|⟨bj,hj⟩
    ·obtain rfl:=Zan hj
     exact (EP.u 1 (Z9 (c:=(decide (aJ<0))) (h:=bl)) (EP.f kr))
    refine (EP.u 1 (Z9 (c:=(decide (aJ<0))) (h:=bj)) ?_)
    obtain ⟨bp,aQ,hj⟩:=bs hj
    obtain rfl:=Zan hj
    exact (EP.u 5 (Zac (ys:=[Zaf false a0_.Periods,iv i4]) (h:=Zaa eI64 aQ)) (EP.u 0 (Zao (sz:=1) (off:=0) (cs:=[.int .i64 bp]) (r:=iv bp) eI64 aQ) (EP.f kr)))
   clear hj
   rintro s hR
   obtain rfl:=hR
   refine tq (it h (λbi h=>?_) (λbi h=>?_))
   ·refine sq (rg Z6.f (tq (rt (br (tr ?_)))))
    cases h
    exact ⟨_,rfl,rfl,Zar kr⟩
   refine sk (bn (tq (kq (rg Z6.f ?_))))
   cases h
   exact ⟨_,rfl,kr⟩
  refine kq (xq (tx ?_))
  cases h
  exact ⟨_,rfl,rfl,kr⟩
 rintro e s hq
 rcases b2 with bE|bC
 ·dsimp only at h hq
  obtain ⟨rfl,hR⟩:=hq
  obtain rfl:=hR
  refine bx (tq (sq ?_))
  obtain ⟨b1,bb,h⟩:=bs h
  obtain ⟨aK,b0,aS,aV⟩:=Zeq N a2_    [] (HP.now (HP.pick hH [] rfl)) b1 bb
  replace hH:HP _ [.arr aK 1 false (List.map eI64 b1)]:=HP.callee (fp:=[]) (rest:=[]) (HP.pick hH [] rfl) aV
  have ae:=Za8 (HP.get hH 0 rfl)
  refine rgS ⟨[(1,Z5 false a1_),(3,.loc 3 0),(12,aK)],[(3,(Z4 a0_))],b0⟩ (Z6.v 1 (Zkf (H:=[]) (ys:=[Zaf false a2_]) kr kr [[]] (ZfT (Zll rfl) passL_nil') aS) Z6.f) (by cases ae<;>kernel_rfl) (tq (sq (rgS ⟨[(1,Z5 false a1_),(3,.loc 3 0),(12,aK),(13,iv 0)],[(3,(Z4 a0_))],b0⟩ Z6.f (by cases ae<;>kernel_rfl) (tq (sq (Zmx (tq (sq (bk ?_)))))))))
  obtain ⟨ba,aj,h⟩:=bs h
  refine ZaN ((ZaA (λ(x:Int×(List Int)) s=>∃ (a4:AV) (a7:List HO),s=⟨[(1,Z5 false a1_),(3,.loc 3 0),(12,a4),(13,iv x.1)],[(3,(Z4 a0_))],a7⟩/\HP a7 [.arr a4 1 false (List.map eI64 x.2)]) (λx:Int×(List Int)=>ZcN N a0_ a1_ x.1 x.2) (λ(p:Int×Int) e s=>e=.exit 2/\(∃ (aB:List HO),s=⟨[(6,iv p.1),(7,iv p.2)],[],aB⟩/\HP aB [])) ?_ N _ ba _ aj ⟨aK,b0,(by show _=_;cases ae<;>kernel_rfl),(HP.pick hH [0] rfl)⟩).mono ?_)
  ·clear h aj
   rintro ⟨a9,ab⟩ o s h hR
   obtain ⟨a4,a7,rfl,hH⟩:=hR
   replace hH:HP _ [.arr a4 1 false (List.map eI64 ab)]:=hH
   have a0:=Za8 (HP.get hH 0 rfl)
   replace h:ZcN N a0_ a1_ a9 ab=some o:=h
   unfold ZcN at h
   refine bk (sq ?_)
   obtain ⟨a8,ax,h⟩:=bs h
   refine rgS ⟨[(1,Z5 false a1_),(3,.loc 3 0),(6,iv a8.Stream),(12,a4),(13,iv a9)],[(3,(Z4 a0_))],a7⟩ (Z6.u 2 (Zac (ys:=[Z5 false a1_,iv a9]) (h:=Zaa Zab ax)) (Z6.u 1 (Zao (sz:=2) (off:=0) (cs:=[.int .i64 a8.Stream]) (r:=iv a8.Stream) Zab ax) Z6.f)) (by cases a0<;>kernel_rfl) (tq (sq ?_))
   obtain ⟨a1,aw,h⟩:=bs h
   obtain ⟨bB,bu,_,be,aG,bf,ap⟩:=HP.elem (k:=0) (a:=a4) (sz:=1) (frz:=false) eI64 hH rfl aw
   refine rgS ⟨[(1,Z5 false a1_),(3,.loc 3 0),(6,iv a8.Stream),(12,a4),(13,iv a9),(14,iv a1)],[(3,(Z4 a0_))],a7⟩ (Z6.u 2 (Zac (ys:=[a4,iv a8.Stream]) (by cases a0<;>kernel_rfl) (ap .i64)) (Z6.u 0 (Zc7 (H:=a7) (off:=0) (cs:=[.int .i64 a1]) (r:=iv a1) eI64 aw aG) Z6.f)) (by cases a0<;>kernel_rfl) (tq (sq ?_))
   obtain ⟨af,av,h⟩:=bs h
   obtain ⟨a5,aU,h⟩:=bs h
   refine rgS ⟨[(1,Z5 false a1_),(3,.loc 3 0),(6,iv a8.Stream),(12,a4),(13,iv a9),(14,iv a1),(15,.loc 15 0)],[(3,(Z4 a0_)),(15,(ZaH a5))],a7⟩ (Z6.u 2 (Zac (ys:=[Z5 false a1_,iv a9]) (h:=Zaa Zab av)) (Z6.u 0 (Zao (sz:=2) (off:=0) (cs:=[.int .i64 af.Stream,.sl 4 false (List.map Zah af.Arms)]) (r:=.agg (ZbB af)) Zab av) (Z6.v 1 (Zaw (hc:=Zlh N af a1 a5 aU)) (Z6.f (h:=(by cases a0<;>kernel_rfl)))))) (by cases a0<;>kernel_rfl) (tq (sq (rgS ⟨[(1,Z5 false a1_),(3,.loc 3 0),(6,iv a8.Stream),(12,a4),(13,iv a9),(14,iv a1),(15,.loc 15 0),(66,iv a5.By)],[(3,(Z4 a0_)),(15,(ZaH a5))],a7⟩ Z6.f (by cases a0<;>kernel_rfl) (tq (bk (sq (rgS ⟨[(1,Z5 false a1_),(3,.loc 3 0),(6,iv a8.Stream),(12,a4),(13,iv a9),(14,iv a1),(15,.loc 15 0),(66,iv a5.By),(69,bv (a5.By==(-2)))],[(3,(Z4 a0_)),(15,(ZaH a5))],a7⟩ Z6.f (by cases a0<;>kernel_rfl) (tq (it h (λaY h=>?_) (λaY h=>?_))))))))))
   ·refine sq ?_
    have aC:=HP.len (k:=0) (a:=a4) (sz:=1) (frz:=false) (l:=ab) eI64 hH rfl
    refine rgS ⟨[(1,Z5 false a1_),(3,.loc 3 0),(12,a4),(13,iv a9),(14,iv a1),(72,iv ((List.length ab:Nat):Int)),(73,iv 0)],[(3,(Z4 a0_))],a7⟩ (Z6.u 1 (Zac (ys:=[a4]) (by cases a0<;>kernel_rfl) aC) Z6.f) (by cases a0<;>kernel_rfl) (tq (bk ?_))
    obtain ⟨aL,ak,h⟩:=bs h
    refine ZaN ((ZaA (λ(x:Int×(List Int)) s=>∃ (a2:AV) (aa:List HO),s=⟨[(1,Z5 false a1_),(3,.loc 3 0),(12,a2),(13,iv a9),(14,iv a1),(72,iv ((List.length ab:Nat):Int)),(73,iv x.1)],[(3,(Z4 a0_))],aa⟩/\HP aa [.arr a2 1 false (List.map eI64 x.2)]) (λx:Int×(List Int)=>ZcM N a0_ ab a1 x.1 x.2) (λ(p:(List Int)) e s=>e=.exit 5/\(∃ (ad:AV) (ag:List HO),s=⟨[(1,Z5 false a1_),(3,.loc 3 0),(12,ad),(13,iv a9)],[(3,(Z4 a0_))],ag⟩/\HP ag [.arr ad 1 false (List.map eI64 p)])) ?_ N _ aL _ ak ⟨a4,a7,(by show _=_;cases a0<;>kernel_rfl),(HP.pick hH [0] rfl)⟩).mono ?_)
    ·clear h ak
     rintro ⟨a6,ai⟩ o s h hR
     obtain ⟨a2,aa,rfl,hH⟩:=hR
     replace hH:HP _ [.arr a2 1 false (List.map eI64 ai)]:=hH
     have a3:=Za8 (HP.get hH 0 rfl)
     replace h:ZcM N a0_ ab a1 a6 ai=some o:=h
     unfold ZcM at h
     refine sq (rgS ⟨[(1,Z5 false a1_),(3,.loc 3 0),(12,a2),(13,iv a9),(14,iv a1),(72,iv ((List.length ab:Nat):Int)),(73,iv a6),(74,bv (decide (a6<((List.length ab:Nat):Int))))],[(3,(Z4 a0_))],aa⟩ Z6.f (by cases a3<;>kernel_rfl) (tq (sq (it h (λaX h=>?_) (λaX h=>?_)))))
     ·refine sk (tq (kq (sq (bk (sq (rgS ⟨[(1,Z5 false a1_),(3,.loc 3 0),(12,a2),(13,iv a9),(14,iv a1),(16,iv a6),(72,iv ((List.length ab:Nat):Int)),(73,iv a6)],[(3,(Z4 a0_))],aa⟩ Z6.f (by cases a3<;>kernel_rfl) (tq ?_)))))))
      obtain ⟨az,au,h⟩:=bs h
      obtain ⟨bA,bt,_,bc,aE,bd,ao⟩:=HP.elem (k:=0) (a:=a2) (sz:=1) (frz:=false) eI64 hH rfl au
      obtain ⟨ay,ar,h⟩:=bs h
      obtain ⟨ac,aT,h⟩:=bs h
      obtain ⟨bD,aq,h⟩:=bs h
      obtain ⟨bz,bq,_,am,aD,an,al⟩:=HP.elem (k:=0) (a:=a2) (sz:=1) (frz:=false) eI64 hH rfl aq
      obtain ⟨aA,aZ,hH⟩:=HP.setRow (k:=0) (off:=0) (cs:=[iv ac]) (ps:=[.int .i64 ac]) (e':=ac) eI64 hH rfl an aD (am rfl) aq kr kr
      replace hH:HP _ [.arr a2 1 false (List.map eI64 (List.set ai (Int.toNat a6) ac))]:=hH
      refine rqS ⟨[(1,Z5 false a1_),(3,.loc 3 0),(12,a2),(13,iv a9),(14,iv a1),(72,iv ((List.length ab:Nat):Int)),(73,iv a6)],[(3,(Z4 a0_))],aA⟩ (Z6.u 4 (Zac (ys:=[a2,iv a6]) (by cases a3<;>kernel_rfl) (ao .i64)) (Z6.u 0 (ZaK (Zc7 (H:=aa) (off:=0) (cs:=[.int .i64 az]) (r:=iv az) eI64 au aE)) (Z6.u 5 (Zac (ys:=[Zaf false a0_.Periods,iv a6]) (h:=Zaa eI64 ar)) (Z6.u 0 (ZaK (Zao (sz:=1) (off:=0) (cs:=[.int .i64 ay]) (r:=iv ay) eI64 ar)) (Z6.u 0 (Zdn (hc:=Zhu N (w64 (az-a1)) ay ac aT)) (Z6.u 0 (Zac (ys:=[a2,iv a6]) (by cases a3<;>kernel_rfl) (al .i64)) (Z6.o 0 (Zgy (ZcI (H:=aa) (v:=iv ac) (hw:=aZ)) kr) Z6.f))))))) (by cases a3<;>kernel_rfl) (bn (tq (rgS ⟨[(1,Z5 false a1_),(3,.loc 3 0),(12,a2),(13,iv a9),(14,iv a1),(72,iv ((List.length ab:Nat):Int)),(73,iv (w64 (a6+1)))],[(3,(Z4 a0_))],aA⟩ Z6.f (by cases a3<;>kernel_rfl) ?_)))
      cases h
      exact ⟨_,rfl,⟨a2,aA,(by show _=_;cases a3<;>kernel_rfl),(HP.pick hH [0] rfl)⟩⟩
     refine kq (xq (tx ?_))
     cases h
     exact ⟨_,rfl,rfl,⟨a2,aa,(by show _=_;cases a3<;>kernel_rfl),(HP.pick hH [0] rfl)⟩⟩
    rintro e s hq
    obtain ⟨rfl,hR⟩:=hq
    obtain ⟨ad,ag,rfl,hH⟩:=hR
    replace hH:HP _ [.arr ad 1 false (List.map eI64 aL)]:=hH
    have aI:=Za8 (HP.get hH 0 rfl)
    refine bx (bn (bn ?_))
    cases h
    exact ⟨_,rfl,⟨ad,ag,(by show _=_;cases aI<;>kernel_rfl),(HP.pick hH [0] rfl)⟩⟩
   refine sq (rgS ⟨[(1,Z5 false a1_),(3,.loc 3 0),(6,iv a8.Stream),(12,a4),(15,.loc 15 0),(92,bv (a5.By==(-1)))],[(3,(Z4 a0_)),(15,(ZaH a5))],a7⟩ Z6.f (by cases a0<;>kernel_rfl) (tq (it h (λaW h=>?_) (λaW h=>?_))))
   ·refine rgS ⟨[(1,Z5 false a1_),(3,.loc 3 0),(12,a4),(13,iv a5.Next)],[(3,(Z4 a0_))],a7⟩ Z6.f (by cases a0<;>kernel_rfl) (bn (bn ?_))
    cases h
    exact ⟨_,rfl,⟨a4,a7,(by show _=_;cases a0<;>kernel_rfl),(HP.pick hH [0] rfl)⟩⟩
   refine sq (rgS ⟨[(6,iv a8.Stream),(7,iv a5.By)],[],a7⟩ Z6.f (by cases a0<;>kernel_rfl) ?_)
   replace hH:HP _ []:=HP.pick hH [] rfl
   refine tq (kq (xq (bo (bo ?_))))
   cases h
   exact ⟨_,rfl,rfl,⟨a7,kr,(HP.pick hH [] rfl)⟩⟩
  rintro e s hq
  obtain ⟨rfl,hR⟩:=hq
  obtain ⟨aB,rfl,hH⟩:=hR
  replace hH:HP _ []:=hH
  refine bx (tq (sq (rg Z6.f (tq (rt (nr ?_))))))
  cases h
  exact Zar kr
 dsimp only at h hq
 obtain ⟨rfl,hq⟩:=hq
 refine br (tr (nr ?_))
 cases h
 exact hq
theorem Zjx (N:Nat)(r:Bool)(h:Zey N=some r):Za9 Try.prog 12 [] (bv r):=by
 unfold Zey at h
 have hH  := hp0
 refine ZaC ZAH rfl rfl (Zat _ _ _ ?_) rfl
 refine sq (rg Z6.f (tq (sq ?_)))
 obtain ⟨r1,hr1,h⟩:=bs h
 refine rg (Z6.v 0 (Zaw (hc:=Zjy N  r1 hr1)) Z6.f) (tq (sq ?_))
 obtain ⟨r2,hr2,h⟩:=bs h
 obtain ⟨r3,hr3,h⟩:=bs h
 refine rg (Z6.v 3 (Zaw (hc:=ZbL N 0 ([(Zba.mk 0 1 (-1) 1),(Zba.mk 1 2 (-2) 0)]) r2 hr2)) (Z6.v 2 (Zaw (hc:=ZbL N 1 ([(Zba.mk 0 2 0 0)]) r3 hr3)) Z6.f)) (tq (sq ?_))
 obtain ⟨r4,hr4,h⟩:=bs h
 refine rg (Z6.v 2 (Zaw (hc:=ZbL N 0 ([(Zba.mk 0 2 1 0)]) r4 hr4)) Z6.f) (tq (sq ?_))
 obtain ⟨r5,hr5,h⟩:=bs h
 obtain ⟨r6,hr6,h⟩:=bs h
 refine rg (Z6.v 3 (Zaw (hc:=ZbL N 0 ([(Zba.mk 0 1 (-1) 1),(Zba.mk 1 2 (-1) 1)]) r5 hr5)) (Z6.v 2 (Zaw (hc:=ZbL N 1 ([(Zba.mk 0 2 0 0)]) r6 hr6)) Z6.f)) (tq (sq ?_))
 obtain ⟨r7,hr7,h⟩:=bs h
 obtain ⟨r8,hr8,h⟩:=bs h
 refine rg (Z6.v 3 (Zaw (hc:=ZbL N 0 ([(Zba.mk 0 1 (-1) 1),(Zba.mk 1 2 (-2) 0)]) r7 hr7)) (Z6.v 2 (Zaw (hc:=ZbL N 1 ([(Zba.mk 0 1 0 0)]) r8 hr8)) Z6.f)) (tq (sq ?_))
 obtain ⟨r9,hr9,h⟩:=bs h
 refine rg (Z6.v 3 (Zaw (hc:=ZbS N r1 ([r2,r3]) ([1,1]) r9 hr9)) Z6.f) (tq (sq ?_))
 obtain ⟨al,hj,h⟩:=bs h
 refine rgR (λs=>s=⟨[(0,bv al)],[],[]⟩) ?_ ?_
 ·clear h
  obtain ⟨a3,a7,hj⟩:=bs hj
  refine (EP.v 2 (Zaw (hc:=Zc5 N r1 ([r2,r3]) a3 a7)) ?_)
  rcases ZaD hj with ⟨ak,hj⟩|⟨a8,hj⟩
  ·refine (EP.u 0 (Z9 (c:=(a3==0)) (h:=ak)) ?_)
   obtain ⟨a2,a6,hj⟩:=bs hj
   refine (EP.v 3 (Zaw (hc:=Zc5 N r1 ([r4]) a2 a6)) ?_)
   rcases ZaD hj with ⟨aj,hj⟩|⟨a9,hj⟩
   ·refine (EP.u 0 (Z9 (c:=(a2==351)) (h:=aj)) ?_)
    obtain ⟨a1,a5,hj⟩:=bs hj
    refine (EP.v 4 (Zaw (hc:=Zc5 N r1 ([r5,r6]) a1 a5)) ?_)
    rcases ZaD hj with ⟨ai,hj⟩|⟨aa,hj⟩
    ·refine (EP.u 0 (Z9 (c:=(a1==350)) (h:=ai)) ?_)
     obtain ⟨a0,a4,hj⟩:=bs hj
     refine (EP.v 4 (Zaw (hc:=Zc5 N r1 ([r7,r8]) a0 a4)) ?_)
     rcases ZaD hj with ⟨ag,hj⟩|⟨ab,hj⟩
     ·refine (EP.u 0 (Z9 (c:=(a0==350)) (h:=ag)) ?_)
      rcases ZaD hj with ⟨af,hj⟩|⟨ac,hj⟩
      ·refine (EP.u 3 (Z9 (c:=(r9.1==1)) (h:=af)) ?_)
       rcases ZaD hj with ⟨ae,hj⟩|⟨ad,hj⟩
       ·obtain rfl:=Zan hj
        exact (EP.u 3 (Z9 (c:=(r9.2.1==0)) (h:=ae)) (EP.f kr))
       obtain rfl:=Zan hj
       exact (EP.u 3 (Z9 (c:=(r9.2.1==0)) (h:=ad)) (EP.f kr))
      obtain rfl:=Zan hj
      exact (EP.u 3 (Z9 (c:=(r9.1==1)) (h:=ac)) (EP.f kr))
     obtain rfl:=Zan hj
     exact (EP.u 0 (Z9 (c:=(a0==350)) (h:=ab)) (EP.f kr))
    obtain rfl:=Zan hj
    exact (EP.u 0 (Z9 (c:=(a1==350)) (h:=aa)) (EP.f kr))
   obtain rfl:=Zan hj
   exact (EP.u 0 (Z9 (c:=(a2==351)) (h:=a9)) (EP.f kr))
  obtain rfl:=Zan hj
  exact (EP.u 0 (Z9 (c:=(a3==0)) (h:=a8)) (EP.f kr))
 clear hj
 rintro s hR
 obtain rfl:=hR
 refine tq (rt ?_)
 cases h
 exact Zar kr
end Go.Sh

