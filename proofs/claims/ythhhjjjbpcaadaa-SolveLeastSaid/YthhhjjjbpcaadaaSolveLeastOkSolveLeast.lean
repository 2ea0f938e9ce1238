/- Part of the proof. -/
import Derived.Test.YthhhjjjbpcaadaaSolveLeastOk2
set_option linter.all false
namespace Go.Sh
open Go Go.Eng Go.Proofs
set_option maxRecDepth 100000
set_option maxHeartbeats 4000000
attribute [local irreducible] vc ev Zcr opsD opsF Zfs upd updH updO
theorem law26_SolveLeast_ok (N:Nat)(a0_:Zbc)(a1_:(List Int))(r:Bool)(h:Zb8 N a0_ a1_=some r):Zbk Try.prog 6 [.agg (Zaz a0_),ZbK false a1_] (bv r):=by
 unfold Zb8 at h
 have hH  := hp0
 refine ZaK chk6 rfl rfl (Zaj _ _ _ ?_) rfl
 refine sq (rg Z2.f (tq (sq (sq ?_))))
 obtain ⟨r1,hr1,h⟩:=bs h
 refine rg (Z2.v 0 (ZaH (hc:=ZhM N  r1 hr1)) Z2.f) (tq (it h (λhc2 h=>?_) (λhc2 h=>?_)))
 ·refine sq (rg Z2.f (tq (rt (tr ?_))))
  cases h
  exact Zat kr
 refine sk (tq (kq (sq ?_)))
 obtain ⟨r3,hr3,h⟩:=bs h
 refine rg (Z2.v 1 (ZaH (hc:=Zec N a0_ r3 hr3)) Z2.f) (tq (sq ?_))
 obtain ⟨r4,hr4,h⟩:=bs h
 refine rg (Z2.v 1 (ZaH (hc:=Zcz N r3 200 r4 hr4)) Z2.f) (tq (sq ?_))
 obtain ⟨r5,hr5,h⟩:=bs h
 obtain ⟨a6,H7,hvr5,hpr5⟩:=Zgq N r3 a1_    [] (HP.now (HP.pick hH [] rfl)) r5 hr5
 replace hH:HP _ [.arr a6 1 false (List.map eI64 r5)]:=HP.callee (fp:=[]) (rest:=[]) (HP.pick hH [] rfl) hpr5
 have hfa6:=Zcq (HP.get hH 0 rfl)
 refine rgS ⟨[(5,.loc 5 0),(6,Z5 false r4.1),(8,iv r4.2.2),(9,a6)],[(5,(Z0 r3))],H7⟩ (Z2.v 2 (ZmV (H:=[]) (ys:=[.agg (Z0 r3),ZbK false a1_]) kr kr [[],[]] (ZhZ (Zjn rfl) (ZhZ (Zjn rfl) passL_nil')) hvr5) Z2.f) (by cases hfa6<;>kernel_rfl) (tq ?_)
 obtain ⟨af,aQ,h⟩:=bs h
 refine Zfc [5,6,8,9] (λs=>∃ (a5:AV) (aL:List HO),s=⟨[(5,.loc 5 0),(6,Z5 false r4.1),(8,iv r4.2.2),(9,a5)],[(5,(Z0 r3))],aL⟩/\HP aL [.arr a5 1 false (List.map eI64 af)]) ?_ ?_
 ·clear h
  have h:=aQ
  refine sq ?_
  have aV:=HP.len (k:=0) (a:=a6) (sz:=1) (frz:=false) (l:=r5) eI64 hH rfl
  refine rgS ⟨[(5,.loc 5 0),(6,Z5 false r4.1),(8,iv r4.2.2),(9,a6),(29,bv (decide (((List.length r5:Nat):Int)>0)))],[(5,(Z0 r3))],H7⟩ (Z2.u 1 (Z9 (ys:=[a6]) (by cases hfa6<;>kernel_rfl) aV) Z2.f) (by cases hfa6<;>kernel_rfl) (tq (it h (λbi h=>?_) (λbi h=>?_)))
  ·refine sq ?_
   obtain ⟨a4,aR,h⟩:=bs h
   obtain ⟨bC,bz,_,bu,aW,bw,aG⟩:=HP.elem (k:=0) (a:=a6) (sz:=1) (frz:=false) eI64 hH rfl aR
   refine rgS ⟨[(5,.loc 5 0),(6,Z5 false r4.1),(8,iv r4.2.2),(9,a6),(10,iv a4)],[(5,(Z0 r3))],H7⟩ (Z2.u 1 (Z9 (ys:=[a6,iv 0]) (by cases hfa6<;>kernel_rfl) (aG .i64)) (Z2.u 0 (Zfg (H:=H7) (off:=0) (cs:=[.int .i64 a4]) (r:=iv a4) eI64 aR aW) Z2.f)) (by cases hfa6<;>kernel_rfl) (tq (sq (rgS ⟨[(5,.loc 5 0),(6,Z5 false r4.1),(8,iv r4.2.2),(9,a6),(10,iv a4),(11,iv 0)],[(5,(Z0 r3))],H7⟩ Z2.f (by cases hfa6<;>kernel_rfl) (tq (bk ?_)))))
   obtain ⟨aM,ak,h⟩:=bs h
   refine Zbf ((Za0 (λ(x:Int×(List Int)) s=>∃ (a2:AV) (ad:List HO),s=⟨[(5,.loc 5 0),(6,Z5 false r4.1),(8,iv r4.2.2),(9,a2),(10,iv a4),(11,iv x.1)],[(5,(Z0 r3))],ad⟩/\HP ad [.arr a2 1 false (List.map eI64 x.2)]) (λx:Int×(List Int)=>ZaG N r3 a4 x.1 x.2) (λ(p:(List Int)) e s=>e=.exit 0/\(∃ (ab:AV) (ae:List HO),s=⟨[(5,.loc 5 0),(6,Z5 false r4.1),(8,iv r4.2.2),(9,ab)],[(5,(Z0 r3))],ae⟩/\HP ae [.arr ab 1 false (List.map eI64 p)])) ?_ N _ aM _ ak ⟨a6,H7,(by show _=_;cases hfa6<;>kernel_rfl),(HP.pick hH [0] rfl)⟩).mono ?_)
   ·clear h ak
    rintro ⟨a8,ag⟩ o s h hR
    obtain ⟨a2,ad,rfl,hH⟩:=hR
    replace hH:HP _ [.arr a2 1 false (List.map eI64 ag)]:=hH
    have a1:=Zcq (HP.get hH 0 rfl)
    replace h:ZaG N r3 a4 a8 ag=some o:=h
    unfold ZaG at h
    refine sq (sq ?_)
    have aE:=HP.len (k:=0) (a:=a2) (sz:=1) (frz:=false) (l:=ag) eI64 hH rfl
    refine rgS ⟨[(5,.loc 5 0),(6,Z5 false r4.1),(8,iv r4.2.2),(9,a2),(10,iv a4),(11,iv a8),(36,bv (decide (a8<((List.length ag:Nat):Int))))],[(5,(Z0 r3))],ad⟩ (Z2.u 2 (Z9 (ys:=[a2]) (by cases a1<;>kernel_rfl) aE) Z2.f) (by cases a1<;>kernel_rfl) (tq (it h (λba h=>?_) (λba h=>?_)))
    ·refine sk (tq (kq (sq (bk ?_))))
     obtain ⟨aB,au,h⟩:=bs h
     obtain ⟨bB,bm,_,be,aJ,bf,ao⟩:=HP.elem (k:=0) (a:=a2) (sz:=1) (frz:=false) eI64 hH rfl au
     obtain ⟨aA,ar,h⟩:=bs h
     obtain ⟨az,aq,h⟩:=bs h
     obtain ⟨aa,aU,h⟩:=bs h
     obtain ⟨bD,ap,h⟩:=bs h
     obtain ⟨bA,bl,_,am,aI,an,al⟩:=HP.elem (k:=0) (a:=a2) (sz:=1) (frz:=false) eI64 hH rfl ap
     obtain ⟨aD,bb,hH⟩:=HP.setRow (k:=0) (off:=0) (cs:=[iv aa]) (ps:=[.int .i64 aa]) (e':=aa) eI64 hH rfl an aI (am rfl) ap kr kr
     replace hH:HP _ [.arr a2 1 false (List.map eI64 (List.set ag (Int.toNat a8) aa))]:=hH
     refine rqS ⟨[(5,.loc 5 0),(6,Z5 false r4.1),(8,iv r4.2.2),(9,a2),(10,iv a4),(11,iv a8)],[(5,(Z0 r3))],aD⟩ (Z2.u 4 (Z9 (ys:=[a2,iv a8]) (by cases a1<;>kernel_rfl) (ao .i64)) (Z2.u 0 (Za5 (Zfg (H:=ad) (off:=0) (cs:=[.int .i64 aB]) (r:=iv aB) eI64 au aJ)) (Z2.u 3 (Z9 (ys:=[Z5 false r3.Periods,iv a8]) (h:=Z8 eI64 ar)) (Z2.u 0 (Za5 (Zas (sz:=1) (off:=0) (cs:=[.int .i64 aA]) (r:=iv aA) eI64 ar)) (Z2.u 8 (Z9 (ys:=[Z5 false r3.Periods,iv a8]) (h:=Z8 eI64 aq)) (Z2.u 0 (Za5 (Zas (sz:=1) (off:=0) (cs:=[.int .i64 az]) (r:=iv az) eI64 aq)) (Z2.u 0 (Z9 (ys:=[iv (w64 ((w64 (aB+(w64 (aA*a4))))-a4)),iv az]) (h:=Zbx aU)) (Z2.u 0 (Z9 (ys:=[a2,iv a8]) (by cases a1<;>kernel_rfl) (al .i64)) (Z2.o 0 (Zi6 (Zc2 (H:=ad) (v:=iv aa) (hw:=bb)) kr) Z2.f))))))))) (by cases a1<;>kernel_rfl) (bn (tq (rgS ⟨[(5,.loc 5 0),(6,Z5 false r4.1),(8,iv r4.2.2),(9,a2),(10,iv a4),(11,iv (w64 (a8+1)))],[(5,(Z0 r3))],aD⟩ Z2.f (by cases a1<;>kernel_rfl) ?_)))
     cases h
     exact ⟨_,rfl,⟨a2,aD,(by show _=_;cases a1<;>kernel_rfl),(HP.pick hH [0] rfl)⟩⟩
    refine kq (xq (tx ?_))
    cases h
    exact ⟨_,rfl,rfl,⟨a2,ad,(by show _=_;cases a1<;>kernel_rfl),(HP.pick hH [0] rfl)⟩⟩
   rintro e s hq
   obtain ⟨rfl,hR⟩:=hq
   obtain ⟨ab,ae,rfl,hH⟩:=hR
   replace hH:HP _ [.arr ab 1 false (List.map eI64 aM)]:=hH
   have aK:=Zcq (HP.get hH 0 rfl)
   refine bx ?_
   cases h
   exact ⟨rfl,⟨ab,ae,(by show _=_;cases aK<;>kernel_rfl),(HP.pick hH [0] rfl)⟩⟩
  refine sk ?_
  cases h
  exact ⟨rfl,⟨a6,H7,(by show _=_;cases hfa6<;>kernel_rfl),(HP.pick hH [0] rfl)⟩⟩
 clear aQ
 rintro s hR
 obtain ⟨a5,aL,rfl,hH⟩:=hR
 replace hH:HP _ [.arr a5 1 false (List.map eI64 af)]:=hH
 have a0:=Zcq (HP.get hH 0 rfl)
 refine sq ?_
 obtain ⟨a3,aT,h⟩:=bs h
 obtain ⟨a7,bt,aj,hH⟩:=HP.frz (k:=0) (a:=a5) (sz:=1) (frz:=false) eI64 hH rfl
 replace hH:HP _ [.arr a5 1 true (List.map eI64 af)]:=hH
 refine rgS ⟨[(6,Z5 false r4.1),(8,iv r4.2.2),(9,a5),(12,bv a3.1),(13,iv a3.2)],[],a7⟩ (Z2.v 2 (Zgw (H:=aL) (ys:=[.agg (Z0 r3),a5]) (by cases a0<;>kernel_rfl) (by cases a0<;>kernel_rfl) (Zdc rfl (Zdc aj ZgB)) (Zjj N r3 af a3 aT)) Z2.f) (by cases a0<;>kernel_rfl) (tq (sq (sq (rgX ⟨[(6,Z5 false r4.1),(8,iv r4.2.2),(9,a5),(12,bv a3.1),(81,bv ((a3.2 != 0)||((r4.2.2 != 0)&&((r4.2.2 != 4)&&(r4.2.2 != 8)))))],[],a7⟩ ?_ ?_))))
 ·rcases Bool.eq_false_or_eq_true (a3.2 != 0) with ay|a9
  ·exact (EP.u 1 (Zaa (c:=(a3.2 != 0)) (h:=ay)) (EP.f (by simp only [ay];cases a0<;>kernel_rfl)))
  refine (EP.u 1 (Zaa (c:=(a3.2 != 0)) (h:=a9)) ?_)
  rcases Bool.eq_false_or_eq_true (r4.2.2 != 0) with ac|av
  ·refine (EP.u 2 (Zaa (c:=(r4.2.2 != 0)) (h:=ac)) ?_)
   rcases Bool.eq_false_or_eq_true (r4.2.2 != 4) with ax|aw
   ·exact (EP.u 2 (Zaa (c:=(r4.2.2 != 4)) (h:=ax)) (EP.f (by simp only [a9,ac,ax];cases a0<;>kernel_rfl)))
   exact (EP.u 2 (Zaa (c:=(r4.2.2 != 4)) (h:=aw)) (EP.f (by simp only [a9,ac,aw];cases a0<;>kernel_rfl)))
  exact (EP.u 2 (Zaa (c:=(r4.2.2 != 0)) (h:=av)) (EP.f (by simp only [a9,av];cases a0<;>kernel_rfl)))
 refine tq (it h (λb9 h=>?_) (λb9 h=>?_))
 ·refine sq (rgS ⟨[(4,bv false)],[],a7⟩ Z2.f kr ?_)
  replace hH:HP _ []:=HP.pick hH [] rfl
  refine tq (rt (tr ?_))
  cases h
  exact Zat kr
 refine sk (tq (kq (sq ?_)))
 obtain ⟨bd,hj,h⟩:=bs h
 refine rgR (λs=>∃ (aC:List HO),s=⟨[(4,bv bd)],[],aC⟩/\HP aC []) ?_ ?_
 ·clear h
  rcases ZaP hj with ⟨b2,hj⟩|⟨b1,hj⟩
  ·obtain rfl:=Zap hj
   exact (EP.u 1 (Zaa (c:=(!a3.1)) (h:=b2)) (EP.f ⟨a7,(by show _=_;cases a0<;>kernel_rfl),(HP.pick hH [] rfl)⟩))
  refine (EP.u 1 (Zaa (c:=(!a3.1)) (h:=b1)) ?_)
  rcases ZaP hj with ⟨b0,hj⟩|⟨aZ,hj⟩
  ·obtain rfl:=Zap hj
   exact (EP.u 2 (Zaa (c:=(r4.2.2==8)) (h:=b0)) (EP.f ⟨a7,(by show _=_;cases a0<;>kernel_rfl),(HP.pick hH [] rfl)⟩))
  refine (EP.u 2 (Zaa (c:=(r4.2.2==8)) (h:=aZ)) ?_)
  rcases ZaP hj with ⟨aY,hj⟩|⟨aX,hj⟩
  ·refine (EP.u 3 (Zaa (c:=(r4.2.2==0)) (h:=aY)) ?_)
   obtain ⟨bc,aS,hj⟩:=bs hj
   obtain ⟨bj,bq,ai,hH⟩:=HP.frz (k:=0) (a:=a5) (sz:=1) (frz:=true) eI64 hH rfl
   replace hH:HP _ [.arr a5 1 true (List.map eI64 af)]:=hH
   obtain rfl:=Zap hj
   exact (EP.v 3 (Zgw (H:=a7) (ys:=[Z5 false r4.1,a5]) (by cases a0<;>kernel_rfl) (by cases a0<;>kernel_rfl) (Zdc rfl (Zdc ai ZgB)) (Zdi N r4.1 af bc aS)) (EP.f ⟨bj,(by show _=_;cases a0<;>kernel_rfl),(HP.pick hH [] rfl)⟩))
  obtain rfl:=Zap hj
  exact (EP.u 3 (Zaa (c:=(r4.2.2==0)) (h:=aX)) (EP.f ⟨a7,(by show _=_;cases a0<;>kernel_rfl),(HP.pick hH [] rfl)⟩))
 clear hj
 rintro s hR
 obtain ⟨aC,rfl,hH⟩:=hR
 replace hH:HP _ []:=hH
 refine tq (rt ?_)
 cases h
 exact Zat kr
end Go.Sh

