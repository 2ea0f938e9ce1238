/- Part of the proof; written by a program out of the texts in wip/. -/
import Derived.Test.YtmplmekdilmdgaaStreamArrivesOk2
namespace Go.Sh
open Go Go.Eng Go.Proofs
set_option linter.unusedVariables false
set_option linter.unusedSimpArgs false
set_option maxRecDepth 100000
set_option maxHeartbeats 4000000
attribute [local irreducible] vc ev Ze8 opsD opsF Zgw upd updH updO
theorem Zji (N:Nat) (a0_:Ze) (a1_:(List Int)) (a2_:(List Int)) (r:Bool × Int) (h:Zcp N a0_ a1_ a2_=some r):Zar Try.prog 67 [.agg (Za a0_),Zg false a1_,Zg false a2_] (.tup [bv r.1,iv r.2]):=by
 unfold Zcp at h
 have hH:HP ([]:List HO) []:=trivial
 refine ZI chk67 rfl rfl (Zv _ _ _ ?_) rfl
 refine sq ?_
 obtain ⟨id1,H2,hid1,hH2,hH⟩:=HP.newCell hH [Zg false a1_]
 replace hH:HP H2 [.cel id1 [Zg false a1_]]:=hH
 obtain ⟨id3,H4,hid3,hH4,hH⟩:=HP.newCell hH [Zg false a2_]
 replace hH:HP H4 [.cel id3 [Zg false a2_],.cel id1 [Zg false a1_]]:=hH
 refine rg (Zc.h 1 (ZcX (H:=[]) (v:=Zg false a1_) (hid:=hid1) (hH:=hH2)) (Zc.h 0 (ZcX (H:=H2) (v:=Zg false a2_) (hid:=hid3) (hH:=hH4)) Zc.f)) (tq ?_)
 refine sq ?_
 have hlc5:=HP.get hH 1 rfl
 obtain ⟨r6,hr6,h⟩:=bs h
 have hvr6:=(Zhf N a0_ a1_ (fun x0=>ZcA N x0 a2_ a1_)   85 [] [.ptr id3 0,.ptr id1 0] (by kernel_rfl) [.cel id3 [Zg false a2_],.cel id1 [Zg false a1_]] (fun H x0 r hH h=>Zfg.of (by kernel_rfl) (ZhX N  x0 a2_ a1_ id3 id1 H hH r h)) H4 (HP.now (HP.pick hH [0,1] rfl)) r6 hr6)
 refine rg (Zc.u 1 (Zu (H:=H4) (id:=id1) (off:=0) (cs:=[Zg false a1_]) (c:=[Zg false a1_]) (r:=Zg false a1_) (hl:=hlc5)) (Zc.v 1 (ZfT (H:=H4) (ys:=[.agg (Za a0_),Zg false a1_,.fn 85 [] [.ptr id3 0,.ptr id1 0]]) (by kernel_rfl) (by kernel_rfl) (by kernel_rfl) hvr6) Zc.f)) ?_
 replace hH:HP H4 []:=HP.pick hH [] rfl
 refine tq (rt ?_)
 obtain rfl:=Zb h
 exact ZA (by kernel_rfl)
theorem Zkh (N:Nat) (a0_:Ze) (a1_:(List Int)) (r:Int × Int × Int) (h:Zcz N a0_ a1_=some r):Zar Try.prog 83 [.agg (Za a0_),Zg false a1_] (.tup [iv r.1,iv r.2.1,iv r.2.2]):=by
 unfold Zcz at h
 have hH:HP ([]:List HO) []:=trivial
 refine ZI chk83 rfl rfl (Zv _ _ _ ?_) rfl
 refine sq (rg Zc.f ?_)
 refine tq (sq ?_)
 obtain ⟨r1,hr1,h⟩:=bs h
 refine rg (Zc.v 2 (Zy (hc:=Zje N a0_ a1_ r1 hr1)) Zc.f) (tq ?_)
 refine sq (sq ?_)
 refine rg Zc.f (tq ?_)
 refine it h (fun hc2 h => ?_) (fun hc2 h => ?_)
 ·refine sq (rg Zc.f ?_)
  refine tq (rt ?_)
  refine tr ?_
  obtain rfl:=Zb h
  exact ZA (by kernel_rfl)
 refine sk (tq ?_)
 refine kq (sq ?_)
 obtain ⟨e3,he3,h⟩:=bs h
 obtain ⟨e4,he4,h⟩:=bs h
 refine rq (Zc.u 1 (Zo (ys:=[Zg false r1.1,iv 0]) (h:=Zi eI64 he3)) (Zc.u 0 (ZK (Zp (sz:=1) (off:=0) (cs:=[.int .i64 e3]) (r:=iv e3) eI64 he3)) (Zc.u 2 (Zo (ys:=[Zg false r1.1]) (h:=Zw eI64)) (Zc.u 1 (Zo (ys:=[Zg false r1.1,iv (w64 (((List.length r1.1:Nat):Int) - 1))]) (h:=Zi eI64 he4)) (Zc.u 0 (ZK (Zp (sz:=1) (off:=0) (cs:=[.int .i64 e4]) (r:=iv e4) eI64 he4)) Zc.f))))) (tq ?_)
 refine rt ?_
 obtain rfl:=Zb h
 exact ZA (by kernel_rfl)
theorem Zik (N:Nat) (a0_:Ze) (a1_:(List Int)) (a2_:Int) (a3_:Int) (r:Bool) (h:ZdF N a0_ a1_ a2_ a3_=some r):Zar Try.prog 65 [.agg (Za a0_),Zg false a1_,iv a2_,iv a3_] (bv r):=by
 unfold ZdF at h
 have hH:HP ([]:List HO) []:=trivial
 refine ZI chk65 rfl rfl (Zv _ _ _ ?_) rfl
 refine sq (rg Zc.f ?_)
 refine tq (sq ?_)
 obtain ⟨r1,hr1,h⟩:=bs h
 refine rg (Zc.v 2 (Zy (hc:=Zkh N a0_ a1_ r1 hr1)) Zc.f) (tq ?_)
 refine sq (rgX ⟨[(8,bv ((r1.2.2==0)&&((r1.1==a2_)&&(r1.2.1==a3_))))],[],[]⟩ ?_ ?_)
 ·rcases Bool.eq_false_or_eq_true (r1.2.2==0) with hc2 | hc5
  ·refine (EP.u 1 (Zl (c:=(r1.2.2==0)) (h:=hc2)) ?_)
   rcases Bool.eq_false_or_eq_true (r1.1==a2_) with hc3 | hc4
   ·exact (EP.u 3 (Zl (c:=(r1.1==a2_)) (h:=hc3)) (EP.f (by simp only [hc2,hc3];kernel_rfl)))
   exact (EP.u 3 (Zl (c:=(r1.1==a2_)) (h:=hc4)) (EP.f (by simp only [hc2,hc4];kernel_rfl)))
  exact (EP.u 1 (Zl (c:=(r1.2.2==0)) (h:=hc5)) (EP.f (by simp only [hc5];kernel_rfl)))
 refine tq (rt ?_)
 obtain rfl:=Zb h
 exact ZA (by kernel_rfl)
theorem Zg1 (N:Nat) (c0_:Zh) (c1_:Ze) (k0_:Nat) (k1_:Nat) (H:List HO) (hH:HP H [.cel k0_ (Zf c0_),.cel k1_ (Za c1_)]) (r:Bool) (h:ZcL N c0_ c1_=some r):Zbf Try.prog 66 [.ptr k0_ 0,.ptr k1_ 0] H (bv r) H:=by
 unfold ZcL at h
 refine Zba chk66 rfl rfl rfl (Zv _ _ _ ?_)
 refine sq (rg Zc.f ?_)
 refine tq (sq ?_)
 refine sq ?_
 have hlc1:=HP.get hH 0 rfl
 refine rg (Zc.u 1 (Zu (H:=H) (id:=k0_) (off:=9) (cs:=(Zf c0_)) (c:=[Zj false c0_.Routes]) (r:=Zj false c0_.Routes) (hl:=hlc1)) (Zc.u 0 (Zo (ys:=[Zj false c0_.Routes]) (h:=Zw (eSl 1 eI64))) Zc.f)) (tq ?_)
 refine it h (fun hc2 h => ?_) (fun hc2 h => ?_)
 ·refine sq (rg Zc.f ?_)
  replace hH:HP H []:=HP.pick hH [] rfl
  refine tq (rt ?_)
  refine tr ?_
  obtain rfl:=Zb h
  exact ZaI (by kernel_rfl) (by kernel_rfl)
 refine sk (tq ?_)
 refine kq (sq ?_)
 have hlc3:=HP.get hH 1 rfl
 have hlc4:=HP.get hH 0 rfl
 obtain ⟨e5,he5,h⟩:=bs h
 have hlc6:=HP.get hH 0 rfl
 obtain ⟨e7,he7,h⟩:=bs h
 obtain ⟨r8,hr8,h⟩:=bs h
 refine rq (Zc.u 0 (ZK (Zu (H:=H) (id:=k1_) (off:=0) (cs:=(Za c1_)) (c:=(Za c1_)) (r:=.agg (Za c1_)) (hl:=hlc3))) (Zc.u 1 (ZK (Zu (H:=H) (id:=k0_) (off:=9) (cs:=(Zf c0_)) (c:=[Zj false c0_.Routes]) (r:=Zj false c0_.Routes) (hl:=hlc4))) (Zc.u 0 (Zo (ys:=[Zj false c0_.Routes,iv 0]) (h:=Zi (eSl 1 eI64) he5)) (Zc.u 0 (ZK (Zp (sz:=1) (off:=0) (cs:=[.sl 1 false (List.map eI64 e5)]) (r:=Zg false e5) (eSl 1 eI64) he5)) (Zc.u 1 (ZK (Zu (H:=H) (id:=k0_) (off:=9) (cs:=(Zf c0_)) (c:=[Zj false c0_.Routes]) (r:=Zj false c0_.Routes) (hl:=hlc6))) (Zc.u 0 (Zo (ys:=[Zj false c0_.Routes,iv 1]) (h:=Zi (eSl 1 eI64) he7)) (Zc.u 0 (ZK (Zp (sz:=1) (off:=0) (cs:=[.sl 1 false (List.map eI64 e7)]) (r:=Zg false e7) (eSl 1 eI64) he7)) (Zc.v 0 (Zy (hc:=Zji N c1_ e5 e7 r8 hr8)) Zc.f)))))))) ?_
 replace hH:HP H []:=HP.pick hH [] rfl
 refine tq (sq ?_)
 refine rgX ⟨[(2,bv ((r8.2==0)&&r8.1))],[],H⟩ ?_ ?_
 ·rcases Bool.eq_false_or_eq_true (r8.2==0) with hc9 | hc10
  ·exact (EP.u 1 (Zl (c:=(r8.2==0)) (h:=hc9)) (EP.f (by simp only [hc9];kernel_rfl)))
  exact (EP.u 1 (Zl (c:=(r8.2==0)) (h:=hc10)) (EP.f (by simp only [hc10];kernel_rfl)))
 refine tq (rt ?_)
 obtain rfl:=Zb h
 exact ZaI (by kernel_rfl) (by kernel_rfl)
theorem Zg3 (N:Nat) (c0_:Zh) (c1_:Ze) (k0_:Nat) (k1_:Nat) (H:List HO) (hH:HP H [.cel k0_ (Zf c0_),.cel k1_ (Za c1_)]) (r:Bool) (h:ZcM N c0_ c1_=some r):Zbf Try.prog 64 [.ptr k0_ 0,.ptr k1_ 0] H (bv r) H:=by
 unfold ZcM at h
 refine Zba chk64 rfl rfl rfl (Zv _ _ _ ?_)
 refine sq (rg Zc.f ?_)
 refine tq (sq ?_)
 refine sq ?_
 have hlc1:=HP.get hH 0 rfl
 refine rg (Zc.u 1 (Zu (H:=H) (id:=k0_) (off:=9) (cs:=(Zf c0_)) (c:=[Zj false c0_.Routes]) (r:=Zj false c0_.Routes) (hl:=hlc1)) (Zc.u 0 (Zo (ys:=[Zj false c0_.Routes]) (h:=Zw (eSl 1 eI64))) Zc.f)) (tq ?_)
 refine bk ?_
 obtain ⟨o510,ho510,h⟩:=bs h
 refine Zac ((ZV (fun (x:Int) s=>s=⟨[(0,.ptr k0_ 0),(1,.ptr k1_ 0),(6,Zj false c0_.Routes),(7,iv ((List.length c0_.Routes:Nat):Int)),(8,iv x)],[],H⟩) (fun x:Int=>ZaR N c0_ c1_ x) (fun (p:(Unit) ⊕ (Bool)) e s=>match p with | (.inl p)=>e = .exit 0∧(s=⟨[],[],H⟩) | (.inr p)=>e = .ret∧∃ xs,rawL s i64.res=some xs∧Zbb (weakVs xs)=bv p∧s.H=H) ?_ N _ o510 _ ho510 (by show _=_;kernel_rfl)).mono ?_)
 ·clear h ho510
  rintro i2 o s h hR
  obtain rfl:=hR
  replace h:ZaR N c0_ c1_ i2=some o:=h
  unfold ZaR at h
  refine sq (rg Zc.f ?_)
  refine tq (sq ?_)
  refine it h (fun hc503 h => ?_) (fun hc503 h => ?_)
  ·refine sk (tq ?_)
   refine kq (sq ?_)
   refine bk (sq ?_)
   obtain ⟨e504,he504,h⟩:=bs h
   refine rg (Zc.u 0 (Zo (ys:=[Zj false c0_.Routes,iv i2]) (h:=Zi (eSl 1 eI64) he504)) (Zc.u 0 (Zp (sz:=1) (off:=0) (cs:=[.sl 1 false (List.map eI64 e504)]) (r:=Zg false e504) (eSl 1 eI64) he504) Zc.f)) (tq ?_)
   refine sq ?_
   have hlc505:=HP.get hH 1 rfl
   have hlc506:=HP.get hH 0 rfl
   have hlc507:=HP.get hH 0 rfl
   obtain ⟨r508,hr508,h⟩:=bs h
   refine rg (Zc.u 0 (Zu (H:=H) (id:=k1_) (off:=0) (cs:=(Za c1_)) (c:=(Za c1_)) (r:=.agg (Za c1_)) (hl:=hlc505)) (Zc.u 2 (Zu (H:=H) (id:=k0_) (off:=1) (cs:=(Zf c0_)) (c:=[iv c0_.Talker]) (r:=iv c0_.Talker) (hl:=hlc506)) (Zc.u 1 (Zu (H:=H) (id:=k0_) (off:=2) (cs:=(Zf c0_)) (c:=[iv c0_.Listener]) (r:=iv c0_.Listener) (hl:=hlc507)) (Zc.v 0 (Zy (hc:=Zik N c1_ e504 c0_.Talker c0_.Listener r508 hr508)) Zc.f)))) (tq ?_)
   refine it h (fun hc509 h => ?_) (fun hc509 h => ?_)
   ·refine sq (rg Zc.f ?_)
    replace hH:HP H []:=HP.pick hH [] rfl
    refine tq (rt ?_)
    refine br (tr ?_)
    obtain rfl:=Zb h
    exact ⟨_,rfl,rfl,ZaI (by kernel_rfl) (by kernel_rfl)⟩
   refine sk (bn ?_)
   refine tq (kq ?_)
   refine rg Zc.f ?_
   obtain rfl:=Zb h
   exact ⟨_,rfl,(by show _=_;kernel_rfl)⟩
  refine kq ?_
  replace hH:HP H []:=HP.pick hH [] rfl
  refine xq (tx ?_)
  obtain rfl:=Zb h
  exact ⟨_,rfl,rfl,(by show _=_;kernel_rfl)⟩
 rintro e s hq
 rcases o510 with p511 | p512
 ·dsimp only at h hq
  obtain ⟨rfl,hR⟩:=hq
  obtain rfl:=hR
  refine bx (tq ?_)
  refine sq (rg Zc.f ?_)
  refine tq (rt ?_)
  obtain rfl:=Zb h
  exact ZaI (by kernel_rfl) (by kernel_rfl)
 dsimp only at h hq
 obtain ⟨rfl,hq⟩:=hq
 refine br (tr ?_)
 obtain rfl:=Zb h
 exact hq
theorem Zd4 (N:Nat) (a0_:Ze) (a1_:Zh) (r:Bool) (h:Zcm N a0_ a1_=some r):Zar Try.prog 39 [.agg (Za a0_),.agg (Zf a1_)] (bv r):=by
 unfold Zcm at h
 have hH:HP ([]:List HO) []:=trivial
 refine ZI chk39 rfl rfl (Zv _ _ _ ?_) rfl
 refine sq ?_
 obtain ⟨id1,H2,hid1,hH2,hH⟩:=HP.newCell hH (Za a0_)
 replace hH:HP H2 [.cel id1 (Za a0_)]:=hH
 obtain ⟨id3,H4,hid3,hH4,hH⟩:=HP.newCell hH (Zf a1_)
 replace hH:HP H4 [.cel id3 (Zf a1_),.cel id1 (Za a0_)]:=hH
 refine rg (Zc.h 0 (ZcX (H:=[]) (v:=.agg (Za a0_)) (hid:=hid1) (hH:=hH2)) (Zc.h 0 (ZcX (H:=H2) (v:=.agg (Zf a1_)) (hid:=hid3) (hH:=hH4)) Zc.f)) (tq ?_)
 refine sq ?_
 obtain ⟨id5,H6,hid5,hH6,hH⟩:=HP.newCell hH [.fn 56 [] [.ptr id3 0],.fn 57 [] [.ptr id1 0,.ptr id3 0],.fn 59 [] [.ptr id3 0],.fn 60 [] [.ptr id3 0],.fn 61 [] [.ptr id3 0],.fn 63 [] [.ptr id3 0],.fn 64 [] [.ptr id3 0,.ptr id1 0],.fn 66 [] [.ptr id3 0,.ptr id1 0]]
 replace hH:HP H6 [.cel id5 [.fn 56 [] [.ptr id3 0],.fn 57 [] [.ptr id1 0,.ptr id3 0],.fn 59 [] [.ptr id3 0],.fn 60 [] [.ptr id3 0],.fn 61 [] [.ptr id3 0],.fn 63 [] [.ptr id3 0],.fn 64 [] [.ptr id3 0,.ptr id1 0],.fn 66 [] [.ptr id3 0,.ptr id1 0]],.cel id3 (Zf a1_),.cel id1 (Za a0_)]:=hH
 refine rg (Zc.h 8 (st_litC (H:=H4) (ys:=[.fn 56 [] [.ptr id3 0],.fn 57 [] [.ptr id1 0,.ptr id3 0],.fn 59 [] [.ptr id3 0],.fn 60 [] [.ptr id3 0],.fn 61 [] [.ptr id3 0],.fn 63 [] [.ptr id3 0],.fn 64 [] [.ptr id3 0,.ptr id1 0],.fn 66 [] [.ptr id3 0,.ptr id1 0]]) (by kernel_rfl) (by kernel_rfl) (by kernel_rfl) hid5 hH6) Zc.f) (tq ?_)
 refine sq (sq ?_)
 refine rg Zc.f (tq ?_)
 refine bk (ZkN 18 ?_)
 refine Zce ?_
 refine sq (rg Zc.f ?_)
 refine tq (sq ?_)
 refine Zdm (by kernel_rfl) ?_
 refine sk (tq ?_)
 refine kq (sq ?_)
 refine bk (sq ?_)
 have hlc7:=HP.get hH 0 rfl
 refine rg (Zc.u 1 (Zu (H:=H6) (id:=id5) (off:=0) (cs:=[.fn 56 [] [.ptr id3 0],.fn 57 [] [.ptr id1 0,.ptr id3 0],.fn 59 [] [.ptr id3 0],.fn 60 [] [.ptr id3 0],.fn 61 [] [.ptr id3 0],.fn 63 [] [.ptr id3 0],.fn 64 [] [.ptr id3 0,.ptr id1 0],.fn 66 [] [.ptr id3 0,.ptr id1 0]]) (c:=[.fn 56 [] [.ptr id3 0]]) (r:=.fn 56 [] [.ptr id3 0]) (hl:=hlc7)) Zc.f) (tq ?_)
 refine sq ?_
 obtain ⟨r8,hr8,h⟩:=bs h
 have hvr8:=(Zha N  a1_ id3 H6 (HP.now (HP.pick hH [1] rfl)) r8 hr8)
 refine rg (Zc.v 1 (Zcf (H:=H6) (fv:=.fn 56 [] [.ptr id3 0]) (ys:=[]) (hc:=Zfg.of (by kernel_rfl) hvr8)) Zc.f) (tq ?_)
 refine it h (fun hc9 h => ?_) (fun hc9 h => ?_)
 ·refine sq (rg Zc.f ?_)
  replace hH:HP H6 []:=HP.pick hH [] rfl
  refine tq (rt ?_)
  refine br (tr ?_)
  refine tr (br ?_)
  refine tr ?_
  obtain rfl:=Zb h
  exact ZA (by kernel_rfl)
 refine sk (bn ?_)
 refine tq (kq ?_)
 refine rg Zc.f (tq ?_)
 refine Zce ?_
 refine sq (rg Zc.f ?_)
 refine tq (sq ?_)
 refine Zdm (by kernel_rfl) ?_
 refine sk (tq ?_)
 refine kq (sq ?_)
 refine bk (sq ?_)
 have hlc10:=HP.get hH 0 rfl
 refine rg (Zc.u 1 (Zu (H:=H6) (id:=id5) (off:=1) (cs:=[.fn 56 [] [.ptr id3 0],.fn 57 [] [.ptr id1 0,.ptr id3 0],.fn 59 [] [.ptr id3 0],.fn 60 [] [.ptr id3 0],.fn 61 [] [.ptr id3 0],.fn 63 [] [.ptr id3 0],.fn 64 [] [.ptr id3 0,.ptr id1 0],.fn 66 [] [.ptr id3 0,.ptr id1 0]]) (c:=[.fn 57 [] [.ptr id1 0,.ptr id3 0]]) (r:=.fn 57 [] [.ptr id1 0,.ptr id3 0]) (hl:=hlc10)) Zc.f) (tq ?_)
 refine sq ?_
 obtain ⟨r11,hr11,h⟩:=bs h
 have hvr11:=(Zg9 N  a0_ a1_ id1 id3 H6 (HP.now (HP.pick hH [2,1] rfl)) r11 hr11)
 refine rg (Zc.v 1 (Zcf (H:=H6) (fv:=.fn 57 [] [.ptr id1 0,.ptr id3 0]) (ys:=[]) (hc:=Zfg.of (by kernel_rfl) hvr11)) Zc.f) (tq ?_)
 refine it h (fun hc12 h => ?_) (fun hc12 h => ?_)
 ·refine sq (rg Zc.f ?_)
  replace hH:HP H6 []:=HP.pick hH [] rfl
  refine tq (rt ?_)
  refine br (tr ?_)
  refine tr (br ?_)
  refine tr ?_
  obtain rfl:=Zb h
  exact ZA (by kernel_rfl)
 refine sk (bn ?_)
 refine tq (kq ?_)
 refine rg Zc.f (tq ?_)
 refine Zce ?_
 refine sq (rg Zc.f ?_)
 refine tq (sq ?_)
 refine Zdm (by kernel_rfl) ?_
 refine sk (tq ?_)
 refine kq (sq ?_)
 refine bk (sq ?_)
 have hlc13:=HP.get hH 0 rfl
 refine rg (Zc.u 1 (Zu (H:=H6) (id:=id5) (off:=2) (cs:=[.fn 56 [] [.ptr id3 0],.fn 57 [] [.ptr id1 0,.ptr id3 0],.fn 59 [] [.ptr id3 0],.fn 60 [] [.ptr id3 0],.fn 61 [] [.ptr id3 0],.fn 63 [] [.ptr id3 0],.fn 64 [] [.ptr id3 0,.ptr id1 0],.fn 66 [] [.ptr id3 0,.ptr id1 0]]) (c:=[.fn 59 [] [.ptr id3 0]]) (r:=.fn 59 [] [.ptr id3 0]) (hl:=hlc13)) Zc.f) (tq ?_)
 refine sq ?_
 obtain ⟨r14,hr14,h⟩:=bs h
 have hvr14:=(Zg8 N  a1_ id3 H6 (HP.now (HP.pick hH [1] rfl)) r14 hr14)
 refine rg (Zc.v 1 (Zcf (H:=H6) (fv:=.fn 59 [] [.ptr id3 0]) (ys:=[]) (hc:=Zfg.of (by kernel_rfl) hvr14)) Zc.f) (tq ?_)
 refine it h (fun hc15 h => ?_) (fun hc15 h => ?_)
 ·refine sq (rg Zc.f ?_)
  replace hH:HP H6 []:=HP.pick hH [] rfl
  refine tq (rt ?_)
  refine br (tr ?_)
  refine tr (br ?_)
  refine tr ?_
  obtain rfl:=Zb h
  exact ZA (by kernel_rfl)
 refine sk (bn ?_)
 refine tq (kq ?_)
 refine rg Zc.f (tq ?_)
 refine Zce ?_
 refine sq (rg Zc.f ?_)
 refine tq (sq ?_)
 refine Zdm (by kernel_rfl) ?_
 refine sk (tq ?_)
 refine kq (sq ?_)
 refine bk (sq ?_)
 have hlc16:=HP.get hH 0 rfl
 refine rg (Zc.u 1 (Zu (H:=H6) (id:=id5) (off:=3) (cs:=[.fn 56 [] [.ptr id3 0],.fn 57 [] [.ptr id1 0,.ptr id3 0],.fn 59 [] [.ptr id3 0],.fn 60 [] [.ptr id3 0],.fn 61 [] [.ptr id3 0],.fn 63 [] [.ptr id3 0],.fn 64 [] [.ptr id3 0,.ptr id1 0],.fn 66 [] [.ptr id3 0,.ptr id1 0]]) (c:=[.fn 60 [] [.ptr id3 0]]) (r:=.fn 60 [] [.ptr id3 0]) (hl:=hlc16)) Zc.f) (tq ?_)
 refine sq ?_
 obtain ⟨r17,hr17,h⟩:=bs h
 have hvr17:=(Zg7 N  a1_ id3 H6 (HP.now (HP.pick hH [1] rfl)) r17 hr17)
 refine rg (Zc.v 1 (Zcf (H:=H6) (fv:=.fn 60 [] [.ptr id3 0]) (ys:=[]) (hc:=Zfg.of (by kernel_rfl) hvr17)) Zc.f) (tq ?_)
 refine it h (fun hc18 h => ?_) (fun hc18 h => ?_)
 ·refine sq (rg Zc.f ?_)
  replace hH:HP H6 []:=HP.pick hH [] rfl
  refine tq (rt ?_)
  refine br (tr ?_)
  refine tr (br ?_)
  refine tr ?_
  obtain rfl:=Zb h
  exact ZA (by kernel_rfl)
 refine sk (bn ?_)
 refine tq (kq ?_)
 refine rg Zc.f (tq ?_)
 refine Zce ?_
 refine sq (rg Zc.f ?_)
 refine tq (sq ?_)
 refine Zdm (by kernel_rfl) ?_
 refine sk (tq ?_)
 refine kq (sq ?_)
 refine bk (sq ?_)
 have hlc19:=HP.get hH 0 rfl
 refine rg (Zc.u 1 (Zu (H:=H6) (id:=id5) (off:=4) (cs:=[.fn 56 [] [.ptr id3 0],.fn 57 [] [.ptr id1 0,.ptr id3 0],.fn 59 [] [.ptr id3 0],.fn 60 [] [.ptr id3 0],.fn 61 [] [.ptr id3 0],.fn 63 [] [.ptr id3 0],.fn 64 [] [.ptr id3 0,.ptr id1 0],.fn 66 [] [.ptr id3 0,.ptr id1 0]]) (c:=[.fn 61 [] [.ptr id3 0]]) (r:=.fn 61 [] [.ptr id3 0]) (hl:=hlc19)) Zc.f) (tq ?_)
 refine sq ?_
 obtain ⟨r20,hr20,h⟩:=bs h
 have hvr20:=(Zg6 N  a1_ id3 H6 (HP.now (HP.pick hH [1] rfl)) r20 hr20)
 refine rg (Zc.v 1 (Zcf (H:=H6) (fv:=.fn 61 [] [.ptr id3 0]) (ys:=[]) (hc:=Zfg.of (by kernel_rfl) hvr20)) Zc.f) (tq ?_)
 refine it h (fun hc21 h => ?_) (fun hc21 h => ?_)
 ·refine sq (rg Zc.f ?_)
  replace hH:HP H6 []:=HP.pick hH [] rfl
  refine tq (rt ?_)
  refine br (tr ?_)
  refine tr (br ?_)
  refine tr ?_
  obtain rfl:=Zb h
  exact ZA (by kernel_rfl)
 refine sk (bn ?_)
 refine tq (kq ?_)
 refine rg Zc.f (tq ?_)
 refine Zce ?_
 refine sq (rg Zc.f ?_)
 refine tq (sq ?_)
 refine Zdm (by kernel_rfl) ?_
 refine sk (tq ?_)
 refine kq (sq ?_)
 refine bk (sq ?_)
 have hlc22:=HP.get hH 0 rfl
 refine rg (Zc.u 1 (Zu (H:=H6) (id:=id5) (off:=5) (cs:=[.fn 56 [] [.ptr id3 0],.fn 57 [] [.ptr id1 0,.ptr id3 0],.fn 59 [] [.ptr id3 0],.fn 60 [] [.ptr id3 0],.fn 61 [] [.ptr id3 0],.fn 63 [] [.ptr id3 0],.fn 64 [] [.ptr id3 0,.ptr id1 0],.fn 66 [] [.ptr id3 0,.ptr id1 0]]) (c:=[.fn 63 [] [.ptr id3 0]]) (r:=.fn 63 [] [.ptr id3 0]) (hl:=hlc22)) Zc.f) (tq ?_)
 refine sq ?_
 obtain ⟨r23,hr23,h⟩:=bs h
 have hvr23:=(Zg5 N  a1_ id3 H6 (HP.now (HP.pick hH [1] rfl)) r23 hr23)
 refine rg (Zc.v 1 (Zcf (H:=H6) (fv:=.fn 63 [] [.ptr id3 0]) (ys:=[]) (hc:=Zfg.of (by kernel_rfl) hvr23)) Zc.f) (tq ?_)
 refine it h (fun hc24 h => ?_) (fun hc24 h => ?_)
 ·refine sq (rg Zc.f ?_)
  replace hH:HP H6 []:=HP.pick hH [] rfl
  refine tq (rt ?_)
  refine br (tr ?_)
  refine tr (br ?_)
  refine tr ?_
  obtain rfl:=Zb h
  exact ZA (by kernel_rfl)
 refine sk (bn ?_)
 refine tq (kq ?_)
 refine rg Zc.f (tq ?_)
 refine Zce ?_
 refine sq (rg Zc.f ?_)
 refine tq (sq ?_)
 refine Zdm (by kernel_rfl) ?_
 refine sk (tq ?_)
 refine kq (sq ?_)
 refine bk (sq ?_)
 have hlc25:=HP.get hH 0 rfl
 refine rg (Zc.u 1 (Zu (H:=H6) (id:=id5) (off:=6) (cs:=[.fn 56 [] [.ptr id3 0],.fn 57 [] [.ptr id1 0,.ptr id3 0],.fn 59 [] [.ptr id3 0],.fn 60 [] [.ptr id3 0],.fn 61 [] [.ptr id3 0],.fn 63 [] [.ptr id3 0],.fn 64 [] [.ptr id3 0,.ptr id1 0],.fn 66 [] [.ptr id3 0,.ptr id1 0]]) (c:=[.fn 64 [] [.ptr id3 0,.ptr id1 0]]) (r:=.fn 64 [] [.ptr id3 0,.ptr id1 0]) (hl:=hlc25)) Zc.f) (tq ?_)
 refine sq ?_
 obtain ⟨r26,hr26,h⟩:=bs h
 have hvr26:=(Zg3 N  a1_ a0_ id3 id1 H6 (HP.now (HP.pick hH [1,2] rfl)) r26 hr26)
 refine rg (Zc.v 1 (Zcf (H:=H6) (fv:=.fn 64 [] [.ptr id3 0,.ptr id1 0]) (ys:=[]) (hc:=Zfg.of (by kernel_rfl) hvr26)) Zc.f) (tq ?_)
 refine it h (fun hc27 h => ?_) (fun hc27 h => ?_)
 ·refine sq (rg Zc.f ?_)
  replace hH:HP H6 []:=HP.pick hH [] rfl
  refine tq (rt ?_)
  refine br (tr ?_)
  refine tr (br ?_)
  refine tr ?_
  obtain rfl:=Zb h
  exact ZA (by kernel_rfl)
 refine sk (bn ?_)
 refine tq (kq ?_)
 refine rg Zc.f (tq ?_)
 refine Zce ?_
 refine sq (rg Zc.f ?_)
 refine tq (sq ?_)
 refine Zdm (by kernel_rfl) ?_
 refine sk (tq ?_)
 refine kq (sq ?_)
 refine bk (sq ?_)
 have hlc28:=HP.get hH 0 rfl
 refine rg (Zc.u 1 (Zu (H:=H6) (id:=id5) (off:=7) (cs:=[.fn 56 [] [.ptr id3 0],.fn 57 [] [.ptr id1 0,.ptr id3 0],.fn 59 [] [.ptr id3 0],.fn 60 [] [.ptr id3 0],.fn 61 [] [.ptr id3 0],.fn 63 [] [.ptr id3 0],.fn 64 [] [.ptr id3 0,.ptr id1 0],.fn 66 [] [.ptr id3 0,.ptr id1 0]]) (c:=[.fn 66 [] [.ptr id3 0,.ptr id1 0]]) (r:=.fn 66 [] [.ptr id3 0,.ptr id1 0]) (hl:=hlc28)) Zc.f) (tq ?_)
 refine sq ?_
 obtain ⟨r29,hr29,h⟩:=bs h
 have hvr29:=(Zg1 N  a1_ a0_ id3 id1 H6 (HP.now (HP.pick hH [1,2] rfl)) r29 hr29)
 refine rg (Zc.v 1 (Zcf (H:=H6) (fv:=.fn 66 [] [.ptr id3 0,.ptr id1 0]) (ys:=[]) (hc:=Zfg.of (by kernel_rfl) hvr29)) Zc.f) (tq ?_)
 refine it h (fun hc30 h => ?_) (fun hc30 h => ?_)
 ·refine sq (rg Zc.f ?_)
  replace hH:HP H6 []:=HP.pick hH [] rfl
  refine tq (rt ?_)
  refine br (tr ?_)
  refine tr (br ?_)
  refine tr ?_
  obtain rfl:=Zb h
  exact ZA (by kernel_rfl)
 refine sk (bn ?_)
 refine tq (kq ?_)
 refine rg Zc.f (tq ?_)
 refine Zce ?_
 refine sq (rg Zc.f ?_)
 refine tq (sq ?_)
 refine Zh4 (by kernel_rfl) ?_
 refine kq ?_
 replace hH:HP H6 []:=HP.pick hH [] rfl
 refine xq (tx ?_)
 refine tx (bx ?_)
 refine tq (sq ?_)
 refine rg Zc.f (tq ?_)
 refine rt ?_
 obtain rfl:=Zb h
 exact ZA (by kernel_rfl)
theorem Zc8 (N:Nat) (a0_:Ze) (a1_:Zh) (r:Int) (h:ZaM N a0_ a1_=some r):Zar Try.prog 18 [.agg (Za a0_),.agg (Zf a1_)] (iv r):=by
 unfold ZaM at h
 have hH:HP ([]:List HO) []:=trivial
 refine ZI chk18 rfl rfl (Zv _ _ _ ?_) rfl
 refine sq (rg Zc.f ?_)
 refine tq (sq ?_)
 refine sq ?_
 obtain ⟨r1,hr1,h⟩:=bs h
 refine rg (Zc.v 1 (Zy (hc:=ZdX N a0_ r1 hr1)) Zc.f) (tq ?_)
 refine sq (rg Zc.f ?_)
 refine tq (it h (fun hc2 h => ?_) (fun hc2 h => ?_))
 ·refine sq (rg Zc.f ?_)
  refine tq (rt ?_)
  refine tr ?_
  obtain rfl:=Zb h
  exact ZA (by kernel_rfl)
 refine sk (tq ?_)
 refine kq (sq ?_)
 refine sq ?_
 obtain ⟨r3,hr3,h⟩:=bs h
 refine rg (Zc.v 2 (Zy (hc:=Zd4 N a0_ a1_ r3 hr3)) Zc.f) (tq ?_)
 refine it h (fun hc4 h => ?_) (fun hc4 h => ?_)
 ·refine sq (rg Zc.f ?_)
  refine tq (rt ?_)
  refine tr ?_
  obtain rfl:=Zb h
  exact ZA (by kernel_rfl)
 refine sk (tq ?_)
 refine kq (sq ?_)
 refine rg Zc.f (tq ?_)
 refine rt ?_
 obtain rfl:=Zb h
 exact ZA (by kernel_rfl)
theorem ZgC (N:Nat) (a0_:Ze) (a1_:(List Zh)) (r:Int) (h:ZbN N a0_ a1_=some r):Zar Try.prog 19 [.agg (Za a0_),ZB false a1_] (iv r):=by
 unfold ZbN at h
 have hH:HP ([]:List HO) []:=trivial
 refine ZI chk19 rfl rfl (Zv _ _ _ ?_) rfl
 refine sq (rg Zc.f ?_)
 refine tq (sq ?_)
 refine sq ?_
 obtain ⟨r1,hr1,h⟩:=bs h
 refine rg (Zc.v 1 (Zy (hc:=ZdX N a0_ r1 hr1)) Zc.f) (tq ?_)
 refine sq (rg Zc.f ?_)
 refine tq (it h (fun hc2 h => ?_) (fun hc2 h => ?_))
 ·refine sq (rg Zc.f ?_)
  refine tq (rt ?_)
  refine tr ?_
  obtain rfl:=Zb h
  exact ZA (by kernel_rfl)
 refine sk (tq ?_)
 refine kq (sq ?_)
 refine sq (rg (Zc.u 1 (Zo (ys:=[ZB false a1_]) (h:=Zw ZD)) Zc.f) ?_)
 refine tq (it h (fun hc3 h => ?_) (fun hc3 h => ?_))
 ·refine sq (rg Zc.f ?_)
  refine tq (rt ?_)
  refine tr ?_
  obtain rfl:=Zb h
  exact ZA (by kernel_rfl)
 refine sk (tq ?_)
 refine kq (sq ?_)
 refine sq (rg (Zc.u 1 (Zo (ys:=[ZB false a1_]) (h:=Zw ZD)) Zc.f) ?_)
 refine tq (bk ?_)
 obtain ⟨o509,ho509,h⟩:=bs h
 refine Zac ((ZV (fun (x:Int) s=>s=⟨[(1,ZB false a1_),(2,.loc 2 0),(19,ZB false a1_),(20,iv ((List.length a1_:Nat):Int)),(21,iv x)],[(2,(Za a0_))],[]⟩) (fun x:Int=>ZaJ N a0_ a1_ x) (fun (p:(Unit) ⊕ (Int)) e s=>match p with | (.inl p)=>e = .exit 0∧(s=⟨[(1,ZB false a1_)],[],[]⟩) | (.inr p)=>e = .ret∧∃ xs,resL s i19.res=some xs∧Zbb xs=iv p) ?_ N _ o509 _ ho509 (by show _=_;kernel_rfl)).mono ?_)
 ·clear h ho509
  rintro i4 o s h hR
  obtain rfl:=hR
  replace h:ZaJ N a0_ a1_ i4=some o:=h
  unfold ZaJ at h
  refine sq (rg Zc.f ?_)
  refine tq (sq ?_)
  refine it h (fun hc505 h => ?_) (fun hc505 h => ?_)
  ·refine sk (tq ?_)
   refine kq (sq ?_)
   refine bk (sq ?_)
   obtain ⟨e506,he506,h⟩:=bs h
   refine rg (Zc.u 0 (Zo (ys:=[ZB false a1_,iv i4]) (h:=Zi ZD he506)) (Zc.u 0 (Zp (sz:=10) (off:=0) (cs:=[.int .i64 e506.Id,.int .i64 e506.Talker,.int .i64 e506.Listener,.int .i64 e506.Class,.int .i64 e506.Size,.int .i64 e506.Period,.int .i64 e506.Bucket.Burst,.int .i64 e506.Bucket.Rate,.int .i64 e506.Deadline,.sl 1 false (List.map (eSl 1 eI64) e506.Routes)]) (r:=.agg (Zf e506)) ZD he506) Zc.f)) (tq ?_)
   refine sq ?_
   obtain ⟨r507,hr507,h⟩:=bs h
   refine rg (Zc.v 2 (Zy (hc:=Zd4 N a0_ e506 r507 hr507)) Zc.f) (tq ?_)
   refine it h (fun hc508 h => ?_) (fun hc508 h => ?_)
   ·refine sq (rg Zc.f ?_)
    refine tq (rt ?_)
    refine br (tr ?_)
    obtain rfl:=Zb h
    exact ⟨_,rfl,rfl,ZA (by kernel_rfl)⟩
   refine sk (bn ?_)
   refine tq (kq ?_)
   refine rg Zc.f ?_
   obtain rfl:=Zb h
   exact ⟨_,rfl,(by show _=_;kernel_rfl)⟩
  refine kq (xq ?_)
  refine tx ?_
  obtain rfl:=Zb h
  exact ⟨_,rfl,rfl,(by show _=_;kernel_rfl)⟩
 rintro e s hq
 rcases o509 with p510 | p1026
 ·dsimp only at h hq
  obtain ⟨rfl,hR⟩:=hq
  obtain rfl:=hR
  refine bx (tq ?_)
  refine sq ?_
  obtain ⟨id511,H512,hid511,hH512,hH⟩:=HP.newMp hH 0
  replace hH:HP H512 [mpT id511 0 (encE ke1 bv [])]:=hH
  refine rg (Zc.h 0 (st_mkMap' (H:=[]) 0 (by kernel_rfl) hid511 hH512) Zc.f) (tq ?_)
  refine sq (sq ?_)
  refine rg (Zc.u 1 (Zo (ys:=[ZB false a1_]) (h:=Zw ZD)) Zc.f) (tq ?_)
  refine bk ?_
  obtain ⟨o1023,ho1023,h⟩:=bs h
  refine Zac ((ZV (fun (x:Int × (List (Int × Bool))) s=>∃ (H513:List HO),s=⟨[(8,.map id511),(31,ZB false a1_),(32,iv ((List.length a1_:Nat):Int)),(33,iv x.1)],[],H513⟩∧HP H513 [mpT id511 0 (encE ke1 bv x.2)]) (fun x:Int × (List (Int × Bool))=>Zap N a1_ x.1 x.2) (fun (p:(Unit) ⊕ (Int)) e s=>match p with | (.inl p)=>e = .exit 2∧(∃ (H1016:List HO),s=⟨[],[],H1016⟩∧HP H1016 []) | (.inr p)=>e = .ret∧∃ xs,resL s i19.res=some xs∧Zbb xs=iv p) ?_ N _ o1023 _ ho1023 ⟨H512,(by show _=_;kernel_rfl),(HP.pick hH [0] rfl)⟩).mono ?_)
  ·clear h ho1023
   rintro ⟨i514,l515⟩ o s h hR
   obtain ⟨H513,rfl,hH⟩:=hR
   replace hH:HP H513 [mpT id511 0 (encE ke1 bv l515)]:=hH
   replace h:Zap N a1_ i514 l515=some o:=h
   unfold Zap at h
   refine sq (rg Zc.f ?_)
   refine tq (sq ?_)
   refine it h (fun hc1017 h => ?_) (fun hc1017 h => ?_)
   ·refine sk (tq ?_)
    refine kq (sq ?_)
    refine bk (sq ?_)
    obtain ⟨e1018,he1018,h⟩:=bs h
    refine rg (Zc.u 0 (Zo (ys:=[ZB false a1_,iv i514]) (h:=Zi ZD he1018)) (Zc.u 0 (Zp (sz:=10) (off:=0) (cs:=[.int .i64 e1018.Id,.int .i64 e1018.Talker,.int .i64 e1018.Listener,.int .i64 e1018.Class,.int .i64 e1018.Size,.int .i64 e1018.Period,.int .i64 e1018.Bucket.Burst,.int .i64 e1018.Bucket.Rate,.int .i64 e1018.Deadline,.sl 1 false (List.map (eSl 1 eI64) e1018.Routes)]) (r:=.agg (Zf e1018)) ZD he1018) Zc.f)) (tq ?_)
    refine sq (sq ?_)
    have hlm1019:=HP.get hH 0 rfl
    refine rg (Zc.u 3 (st_mapG (H:=H513) (id:=id511) (kn:=0) (ke:=ke1) (ve:=bv) (l:=l515) (x:=e1018.Id) (z:=false) (r:=bv (Zkt l515 e1018.Id false)) (by kernel_rfl) (by kernel_rfl) hlm1019 (by kernel_rfl) (by kernel_rfl) (fun _=>rfl)) Zc.f) (tq ?_)
    refine it h (fun hc1020 h => ?_) (fun hc1020 h => ?_)
    ·refine sq (rg Zc.f ?_)
     replace hH:HP H513 []:=HP.pick hH [] rfl
     refine tq (rt ?_)
     refine tr (br ?_)
     refine tr ?_
     obtain rfl:=Zb h
     exact ⟨_,rfl,rfl,ZA (by kernel_rfl)⟩
    refine sk (tq ?_)
    refine kq ?_
    have hlm1022:=HP.get hH 0 rfl
    obtain ⟨H1021,hH1021,hH⟩:=HP.setMp (k:=0) hH rfl (encE ke1 bv (Zh2 l515 e1018.Id true))
    replace hH:HP H1021 [mpT id511 0 (encE ke1 bv (Zh2 l515 e1018.Id true))]:=hH
    refine rg (Zc.o 3 (st_mapS (H:=H513) (id:=id511) (kn:=0) (ke:=ke1) (ve:=bv) (l:=l515) (x:=e1018.Id) (v:=true) (y:=bv true) (by kernel_rfl) (by kernel_rfl) hlm1022 (by kernel_rfl) (by kernel_rfl) hH1021) Zc.f) (bn ?_)
    refine tq (kq ?_)
    refine rg Zc.f ?_
    obtain rfl:=Zb h
    exact ⟨_,rfl,⟨H1021,(by show _=_;kernel_rfl),(HP.pick hH [0] rfl)⟩⟩
   refine kq ?_
   replace hH:HP H513 []:=HP.pick hH [] rfl
   refine xq (tx ?_)
   obtain rfl:=Zb h
   exact ⟨_,rfl,rfl,⟨H513,(by show _=_;kernel_rfl),(HP.pick hH [] rfl)⟩⟩
  rintro e s hq
  rcases o1023 with p1024 | p1025
  ·dsimp only at h hq
   obtain ⟨rfl,hR⟩:=hq
   obtain ⟨H1016,rfl,hH⟩:=hR
   replace hH:HP H1016 []:=hH
   refine bx (tq ?_)
   refine sq (rg Zc.f ?_)
   refine tq (rt ?_)
   obtain rfl:=Zb h
   exact ZA (by kernel_rfl)
  dsimp only at h hq
  obtain ⟨rfl,hq⟩:=hq
  refine br (tr ?_)
  obtain rfl:=Zb h
  exact hq
 dsimp only at h hq
 obtain ⟨rfl,hq⟩:=hq
 refine br (tr ?_)
 obtain rfl:=Zb h
 exact hq
theorem ZgB (N:Nat) (a0_:Ze) (a1_:ZL) (a2_:Zh) (a3_:Int) (r:Int) (h:Zdn N a0_ a1_ a2_ a3_=some r):Zar Try.prog 32 [.agg (Za a0_),.agg (Zk a1_),.agg (Zf a2_),iv a3_] (iv r):=by
 unfold Zdn at h
 have hH:HP ([]:List HO) []:=trivial
 refine ZI chk32 rfl rfl (Zv _ _ _ ?_) rfl
 refine sq (rg Zc.f ?_)
 refine tq (sq ?_)
 refine sq ?_
 obtain ⟨r1,hr1,h⟩:=bs h
 refine rg (Zc.v 1 (Zy (hc:=ZdX N a0_ r1 hr1)) Zc.f) (tq ?_)
 refine sq (rg Zc.f ?_)
 refine tq (it h (fun hc2 h => ?_) (fun hc2 h => ?_))
 ·refine sq (rg Zc.f ?_)
  refine tq (rt ?_)
  refine tr ?_
  obtain rfl:=Zb h
  exact ZA (by kernel_rfl)
 refine sk (tq ?_)
 refine kq (sq ?_)
 refine sq ?_
 obtain ⟨r3,hr3,h⟩:=bs h
 refine rg (Zc.v 1 (Zy (hc:=Zf7 N a1_ r3 hr3)) Zc.f) (tq ?_)
 refine sq (rg Zc.f ?_)
 refine tq (it h (fun hc4 h => ?_) (fun hc4 h => ?_))
 ·refine sq (rg Zc.f ?_)
  refine tq (rt ?_)
  refine tr ?_
  obtain rfl:=Zb h
  exact ZA (by kernel_rfl)
 refine sk (tq ?_)
 refine kq (sq ?_)
 refine sq ?_
 obtain ⟨r5,hr5,h⟩:=bs h
 refine rg (Zc.v 2 (Zy (hc:=Zd4 N a0_ a2_ r5 hr5)) Zc.f) (tq ?_)
 refine it h (fun hc6 h => ?_) (fun hc6 h => ?_)
 ·refine sq (rg Zc.f ?_)
  refine tq (rt ?_)
  refine tr ?_
  obtain rfl:=Zb h
  exact ZA (by kernel_rfl)
 refine sk (tq ?_)
 refine kq (sq ?_)
 refine sq ?_
 obtain ⟨j10,hj,h⟩:=bs h
 refine rgR (fun s=>s=⟨[(36,bv j10)],[],[]⟩) ?_ ?_
 ·clear h
  rcases Zx hj with ⟨hc7,hj⟩ | ⟨hc8,hj⟩
  ·obtain rfl:=Zb hj
   exact (EP.u 2 (Zl (c:=(a2_.Class != 7)) (h:=hc7)) (EP.f (by show _=_;kernel_rfl)))
  refine (EP.u 2 (Zl (c:=(a2_.Class != 7)) (h:=hc8)) (EP.u 4 (Zo (ys:=[Zj false a2_.Routes]) (h:=Zw (eSl 1 eI64))) ?_))
  obtain ⟨r9,hr9,hj⟩:=bs hj
  obtain rfl:=Zb hj
  exact (EP.v 1 (Zy (hc:=Z0 N a3_ 0 (w64 (((List.length a2_.Routes:Nat):Int) - 1)) r9 hr9)) (EP.f (by show _=_;kernel_rfl)))
 clear hj
 rintro s hR
 obtain rfl:=hR
 refine tq (it h (fun hc11 h => ?_) (fun hc11 h => ?_))
 ·refine sq (rg Zc.f ?_)
  refine tq (rt ?_)
  refine tr ?_
  obtain rfl:=Zb h
  exact ZA (by kernel_rfl)
 refine sk (tq ?_)
 refine kq (sq ?_)
 refine rg Zc.f (tq ?_)
 refine rt ?_
 obtain rfl:=Zb h
 exact ZA (by kernel_rfl)
theorem ZeA (N:Nat) (a0_:Ze) (a1_:ZL) (a2_:Zh) (a3_:Int) (r:(List ZQ) × Int) (h:Zbo N a0_ a1_ a2_ a3_=some r):Zar Try.prog 11 [.agg (Za a0_),.agg (Zk a1_),.agg (Zf a2_),iv a3_] (.tup [Z2 false r.1,iv r.2]):=by
 unfold Zbo at h
 have hH:HP ([]:List HO) []:=trivial
 refine ZI chk11 rfl rfl (Zv _ _ _ ?_) rfl
 refine sq (rgS ⟨[(3,iv a3_),(4,.loc 4 0),(5,.loc 5 0),(6,.loc 6 0)],[(4,(Za a0_)),(5,(Zk a1_)),(6,(Zf a2_))],[]⟩ Zc.f (by kernel_rfl) ?_)
 refine tq (sq ?_)
 refine sq ?_
 obtain ⟨r1,hr1,h⟩:=bs h
 refine rgS ⟨[(3,iv a3_),(4,.loc 4 0),(5,.loc 5 0),(6,.loc 6 0),(10,iv r1)],[(4,(Za a0_)),(5,(Zk a1_)),(6,(Zf a2_))],[]⟩ (Zc.v 4 (Zy (hc:=ZgB N a0_ a1_ a2_ a3_ r1 hr1)) Zc.f) (by kernel_rfl) ?_
 refine tq (sq ?_)
 refine rgS ⟨[(3,iv a3_),(4,.loc 4 0),(5,.loc 5 0),(6,.loc 6 0),(10,iv r1),(19,bv (r1 != 0))],[(4,(Za a0_)),(5,(Zk a1_)),(6,(Zf a2_))],[]⟩ Zc.f (by kernel_rfl) ?_
 refine tq (it h (fun hc2 h => ?_) (fun hc2 h => ?_))
 ·refine sq (rgS ⟨[(8,Z2 true []),(9,iv r1)],[],[]⟩ Zc.f (by kernel_rfl) ?_)
  refine tq (rt ?_)
  refine tr ?_
  obtain rfl:=Zb h
  exact ZA (by kernel_rfl)
 refine sk (tq ?_)
 refine kq (sq ?_)
 obtain ⟨id3,H4,hid3,hH4,hH⟩:=HP.newCell hH [Z2 true []]
 replace hH:HP H4 [.cel id3 [Z2 true []]]:=hH
 refine rgS ⟨[(3,iv a3_),(4,.loc 4 0),(5,.loc 5 0),(6,.loc 6 0),(11,.ptr id3 0)],[(4,(Za a0_)),(5,(Zk a1_)),(6,(Zf a2_))],H4⟩ (Zc.h 0 (Zhc (H:=[]) (by kernel_rfl) hid3 hH4) Zc.f) (by kernel_rfl) ?_
 refine tq (sq ?_)
 refine sq ?_
 obtain ⟨r5,hr5,h⟩:=bs h
 obtain ⟨id7,id8,id9,id10,H6,hvr5,hpr5⟩:=Zga N a0_ a1_ a2_ a3_ H4 r5 hr5
 replace hH:HP H6 [.cel id7 (Zf r5.1),.cel id8 [iv r5.2.1],.cel id9 (Za r5.2.2.1),.cel id10 (Zk r5.2.2.2),.cel id3 [Z2 true []]]:=HP.callee (fp:=[]) (rest:=[.cel id3 [Z2 true []]]) hH hpr5
 refine rgS ⟨[(11,.ptr id3 0),(25,.fn 46 [] [.ptr id7 0,.ptr id8 0,.ptr id9 0,.ptr id10 0])],[],H6⟩ (Zc.v 4 (ZfT (H:=H4) (ys:=[.agg (Za a0_),.agg (Zk a1_),.agg (Zf a2_),iv a3_]) (by kernel_rfl) (by kernel_rfl) (by kernel_rfl) hvr5) Zc.f) (by kernel_rfl) ?_
 refine tq (bk ?_)
 obtain ⟨o520,ho520,h⟩:=bs h
 have hyo520:∀ (x12:ZQ) (s:(List ZQ)) (r:((List ZQ)) × Bool) (H:List HO) (its:List Zaf),(fun (s:(List ZQ)) (its:List Zaf)=>∃ (a13:AV),its=[.arr a13 5 false (List.map ZM s),.cel id3 [a13]]++[.lp (List.length H6) (lcOf Try.prog i11.nt [26] Zdk Zdj) [(11,.ptr id3 0)] .ready]) s its→HP H its→(fun (s:(List ZQ)) (x12:ZQ)=>Zc6 (fun v:(List ZQ)=>Zbh N v x12) s) s x12=some r→∃ H' its',ZgV Try.prog (List.length H6) [.agg (Zbt x12)] H r.2 H'∧(fun (s:(List ZQ)) (its:List Zaf)=>∃ (a13:AV),its=[.arr a13 5 false (List.map ZM s),.cel id3 [a13]]++[.lp (List.length H6) (lcOf Try.prog i11.nt [26] Zdk Zdj) [(11,.ptr id3 0)] .ready]) r.1 its'∧Fp H H' its its':=by
  clear h
  intro x12 s r H11 its hT hH h
  obtain ⟨q,hb,rfl⟩:=Zgm h
  clear h
  obtain ⟨vs,rfl⟩:∃ v,v=s:=⟨s,rfl⟩
  obtain ⟨l14,rfl⟩:∃ v,v=vs:=⟨vs,rfl⟩
  obtain ⟨a13,rfl⟩:=hT
  replace h:Zbh N l14 x12=some q:=hb
  clear hb
  unfold Zbh at h
  replace hH:Fp H11 H11 [.arr a13 5 false (List.map ZM l14),.cel id3 [a13],.lp (List.length H6) (lcOf Try.prog i11.nt [26] Zdk Zdj) [(11,.ptr id3 0)] .ready] [.arr a13 5 false (List.map ZM l14),.cel id3 [a13],.lp (List.length H6) (lcOf Try.prog i11.nt [26] Zdk Zdj) [(11,.ptr id3 0)] .ready]:=Fp.refl hH
  have hfa13:=Zr (Fp.get hH 0 rfl)
  suffices hs:∃ H',ZgV Try.prog (List.length H6) [.agg (Zbt x12)] H11 true H'∧∃ its',(fun (s:(List ZQ)) (its:List Zaf)=>∃ (a13:AV),its=[.arr a13 5 false (List.map ZM s),.cel id3 [a13]]++[.lp (List.length H6) (lcOf Try.prog i11.nt [26] Zdk Zdj) [(11,.ptr id3 0)] .ready]) q its'∧Fp H11 H' [.arr a13 5 false (List.map ZM l14),.cel id3 [a13],.lp (List.length H6) (lcOf Try.prog i11.nt [26] Zdk Zdj) [(11,.ptr id3 0)] .ready] its' by
   obtain ⟨H',h1,its',h2,h3⟩:=hs
   exact ⟨H',its',h1,h2,h3⟩
  refine Zgz (id:=(List.length H6)) (args:=[.agg (Zbt x12)]) (H:=H11) (n:=i11.nt) (ps:=[26]) (fr0:=[(11,.ptr id3 0)]) (ia:=Zdk) (ib:=Zdj) true (fun H'=>∃ its',(fun (s:(List ZQ)) (its:List Zaf)=>∃ (a13:AV),its=[.arr a13 5 false (List.map ZM s),.cel id3 [a13]]++[.lp (List.length H6) (lcOf Try.prog i11.nt [26] Zdk Zdj) [(11,.ptr id3 0)] .ready]) q its'∧Fp H11 H' [.arr a13 5 false (List.map ZM l14),.cel id3 [a13],.lp (List.length H6) (lcOf Try.prog i11.nt [26] Zdk Zdj) [(11,.ptr id3 0)] .ready] its') (Fp.get hH 2 rfl) rfl (by decide +kernel) rfl ?_
  show vc _ _ _ _ ⟨[(11,.ptr id3 0),(26,.agg (Zbt x12))],[],H11⟩
  refine rgS ⟨[(11,.ptr id3 0),(12,.loc 12 0)],[(12,(Zbt x12))],H11⟩ Zc.f (by kernel_rfl) ?_
  refine Zkw (k:=2) hH rfl ?_
  intro H514 hH
  replace hH:Fp H11 H514 [.arr a13 5 false (List.map ZM l14),.cel id3 [a13],.lp (List.length H6) (lcOf Try.prog i11.nt [26] Zdk Zdj) [(11,.ptr id3 0)] .ready] [.arr a13 5 false (List.map ZM l14),.cel id3 [a13],.lp (List.length H6) (lcOf Try.prog i11.nt [26] Zdk Zdj) [(11,.ptr id3 0)] .busy]:=hH
  show vc _ _ _ _ ⟨[(11,.ptr id3 0),(12,.loc 12 0)],[(12,(Zbt x12))],H514⟩
  refine bk ?_
  have hlc515:=Fp.get hH 1 rfl
  obtain ⟨l518,hl518,h⟩:=bs h
  obtain ⟨a516,H517,ha516,hH⟩:=Fp.app (k:=0) (a:=a13) (sz:=5) (frz:=false) ZM hH rfl hl518
  replace hH:Fp H11 H517 [.arr a13 5 false (List.map ZM l14),.cel id3 [a13],.lp (List.length H6) (lcOf Try.prog i11.nt [26] Zdk Zdj) [(11,.ptr id3 0)] .ready] [.arr a516 5 false (List.map ZM l518),.cel id3 [a13],.lp (List.length H6) (lcOf Try.prog i11.nt [26] Zdk Zdj) [(11,.ptr id3 0)] .busy]:=hH
  have hfa516:=Zr (Fp.get hH 0 rfl)
  obtain ⟨H519,hH519,hH⟩:=Fp.setCell (k:=1) (off:=0) (cs:=[a13]) (vs:=[a516]) (cs':=[a516]) hH rfl (by kernel_rfl)
  replace hH:Fp H11 H519 [.arr a13 5 false (List.map ZM l14),.cel id3 [a13],.lp (List.length H6) (lcOf Try.prog i11.nt [26] Zdk Zdj) [(11,.ptr id3 0)] .ready] [.arr a516 5 false (List.map ZM l518),.cel id3 [a516],.lp (List.length H6) (lcOf Try.prog i11.nt [26] Zdk Zdj) [(11,.ptr id3 0)] .busy]:=hH
  refine rgS ⟨[],[],H519⟩ (Zc.u 0 (Zu (H:=H514) (id:=id3) (off:=0) (cs:=[a13]) (c:=[a13]) (r:=a13) (by rcases hfa13 with ha13e | ⟨_,_,ha13e⟩<;>subst ha13e<;>kernel_rfl) (by rcases hfa13 with ha13e | ⟨_,_,ha13e⟩<;>subst ha13e<;>kernel_rfl) hlc515 (by rcases hfa13 with ha13e | ⟨_,_,ha13e⟩<;>subst ha13e<;>kernel_rfl) (by rcases hfa13 with ha13e | ⟨_,_,ha13e⟩<;>subst ha13e<;>kernel_rfl) (by rcases hfa13 with ha13e | ⟨_,_,ha13e⟩<;>subst ha13e<;>kernel_rfl)) (Zc.h 2 (Zfm (H:=H514) (a:=a13) (b:=Z2 true [x12]) (by rcases hfa13 with ha13e | ⟨_,_,ha13e⟩<;>subst ha13e<;>kernel_rfl) (by rcases hfa13 with ha13e | ⟨_,_,ha13e⟩<;>subst ha13e<;>kernel_rfl) (by rcases hfa13 with ha13e | ⟨_,_,ha13e⟩<;>subst ha13e<;>kernel_rfl) (by rcases hfa13 with ha13e | ⟨_,_,ha13e⟩<;>subst ha13e<;>kernel_rfl) ha516) (Zc.o 0 (ZgE (H:=H517) (v:=a516) (cs:=[a516]) (by rcases hfa516 with ha516e | ⟨_,_,ha516e⟩<;>subst ha516e<;>kernel_rfl) (by rcases hfa516 with ha516e | ⟨_,_,ha516e⟩<;>subst ha516e<;>kernel_rfl) (by rcases hfa516 with ha516e | ⟨_,_,ha516e⟩<;>subst ha516e<;>kernel_rfl) (by rcases hfa516 with ha516e | ⟨_,_,ha516e⟩<;>subst ha516e<;>kernel_rfl) (by rcases hfa516 with ha516e | ⟨_,_,ha516e⟩<;>subst ha516e<;>kernel_rfl) hH519) Zc.f))) (by kernel_rfl) ?_
  refine bn ?_
  obtain rfl:=Zb h
  exact rbd (k:=2) (.ready) hH rfl rfl (fun H6 hH=>⟨_,⟨a516,Eq.refl _⟩,(Fp.pick hH [0,1,2] rfl)⟩)
 refine Zh3 (s:=⟨[(11,.ptr id3 0),(25,.fn 46 [] [.ptr id7 0,.ptr id8 0,.ptr id9 0,.ptr id10 0])],[],H6⟩) [(11,.ptr id3 0)] (FrOK.cons (by kernel_rfl) (by kernel_rfl) FrOK.nil) (by kernel_rfl) (fun H=>rfl) (capT:=[.cel id7 (Zf r5.1),.cel id8 [iv r5.2.1],.cel id9 (Za r5.2.2.1),.cel id10 (Zk r5.2.2.2)]) (cells0:=[.arr (.p (.sl 5 true [])) 5 false (List.map ZM []),.cel id3 [Z2 true []]]) (rest:=[]) (HP.now (HP.pick (HP.nilArr hH 5 false) [1,2,3,4,0,5] rfl)) (fun (s:(List ZQ)) (its:List Zaf)=>∃ (a13:AV),its=[.arr a13 5 false (List.map ZM s),.cel id3 [a13]]++[.lp (List.length H6) (lcOf Try.prog i11.nt [26] Zdk Zdj) [(11,.ptr id3 0)] .ready]) [] o520 (by exact ⟨(.p (.sl 5 true [])),Eq.refl _⟩) (fun H its hT hH=>Zfj N (fun (s:(List ZQ)) (x12:ZQ)=>Zc6 (fun v:(List ZQ)=>Zbh N v x12) s) r5.1 r5.2.1 r5.2.2.1 r5.2.2.2 [] id7 id8 id9 id10 (List.length H6) (fun (s:(List ZQ)) (its:List Zaf)=>∃ (a13:AV),its=[.arr a13 5 false (List.map ZM s),.cel id3 [a13]]++[.lp (List.length H6) (lcOf Try.prog i11.nt [26] Zdk Zdj) [(11,.ptr id3 0)] .ready]) hyo520 H its hT hH o520 ho520) ?_
 rintro its hT
 obtain ⟨a13,rfl⟩:=hT
 refine ⟨_,_,rfl,?_⟩
 intro H521 hF
 replace hH:HP H521 [.cel id7 (Zf r5.1),.cel id8 [iv r5.2.1],.cel id9 (Za r5.2.2.1),.cel id10 (Zk r5.2.2.2),.arr a13 5 false (List.map ZM o520),.cel id3 [a13]]:=HP.after (HP.pick (HP.nilArr hH 5 false) [1,2,3,4,0,5] rfl) hF
 have hfa13:=Zr (HP.get hH 4 rfl)
 refine Zhl (S:=⟨[(11,.ptr id3 0),(25,.fn 46 [] [.ptr id7 0,.ptr id8 0,.ptr id9 0,.ptr id10 0])],[],H521⟩) ?_
 refine bn (tq ?_)
 refine kq ?_
 replace hH:HP H521 [.arr a13 5 false (List.map ZM o520),.cel id3 [a13]]:=HP.pick hH [4,5] rfl
 refine sq ?_
 have hlc522:=HP.get hH 1 rfl
 refine rgS ⟨[(8,a13),(9,iv 0)],[],H521⟩ (Zc.u 0 (Zu (H:=H521) (id:=id3) (off:=0) (cs:=[a13]) (c:=[a13]) (r:=a13) (by rcases hfa13 with ha13e | ⟨_,_,ha13e⟩<;>subst ha13e<;>kernel_rfl) (by rcases hfa13 with ha13e | ⟨_,_,ha13e⟩<;>subst ha13e<;>kernel_rfl) hlc522 (by rcases hfa13 with ha13e | ⟨_,_,ha13e⟩<;>subst ha13e<;>kernel_rfl) (by rcases hfa13 with ha13e | ⟨_,_,ha13e⟩<;>subst ha13e<;>kernel_rfl) (by rcases hfa13 with ha13e | ⟨_,_,ha13e⟩<;>subst ha13e<;>kernel_rfl)) Zc.f) (by rcases hfa13 with ha13e | ⟨_,_,ha13e⟩<;>subst ha13e<;>kernel_rfl) ?_
 replace hH:HP H521 [.arr a13 5 false (List.map ZM o520)]:=HP.pick hH [0] rfl
 refine tq (rt ?_)
 obtain rfl:=Zb h
 exact ZeD (H:=H521) (ys:=[a13,iv 0]) (xs:=[.p (.sl 5 false (List.map ZM o520)),iv 0]) (by rcases hfa13 with ha13e | ⟨_,_,ha13e⟩<;>subst ha13e<;>kernel_rfl) (by rcases hfa13 with ha13e | ⟨_,_,ha13e⟩<;>subst ha13e<;>kernel_rfl) (Za6 (HP.pure (k:=0) (frz:=false) ZM hH rfl).2 (Za6 rfl Zcb)) (by kernel_rfl)
theorem Zgb (N:Nat) (a0_:Ze) (a1_:ZL) (a2_:Zh) (a3_:Int) (r:Int × Int) (h:Zb0 N a0_ a1_ a2_ a3_=some r):Zar Try.prog 13 [.agg (Za a0_),.agg (Zk a1_),.agg (Zf a2_),iv a3_] (.tup [iv r.1,iv r.2]):=by
 unfold Zb0 at h
 have hH:HP ([]:List HO) []:=trivial
 refine ZI chk13 rfl rfl (Zv _ _ _ ?_) rfl
 refine sq ?_
 obtain ⟨id1,H2,hid1,hH2,hH⟩:=HP.newCell hH (Za a0_)
 replace hH:HP H2 [.cel id1 (Za a0_)]:=hH
 obtain ⟨id3,H4,hid3,hH4,hH⟩:=HP.newCell hH (Zk a1_)
 replace hH:HP H4 [.cel id3 (Zk a1_),.cel id1 (Za a0_)]:=hH
 refine rgS ⟨[(3,iv a3_),(4,.ptr id1 0),(5,.ptr id3 0),(6,.loc 6 0)],[(6,(Zf a2_))],H4⟩ (Zc.h 0 (ZcX (H:=[]) (v:=.agg (Za a0_)) (hid:=hid1) (hH:=hH2)) (Zc.h 0 (ZcX (H:=H2) (v:=.agg (Zk a1_)) (hid:=hid3) (hH:=hH4)) Zc.f)) (by kernel_rfl) ?_
 refine tq (sq ?_)
 refine sq ?_
 have hlc5:=HP.get hH 1 rfl
 have hlc6:=HP.get hH 0 rfl
 obtain ⟨r7,hr7,h⟩:=bs h
 refine rgS ⟨[(3,iv a3_),(4,.ptr id1 0),(5,.ptr id3 0),(6,.loc 6 0),(10,iv r7)],[(6,(Zf a2_))],H4⟩ (Zc.u 0 (Zu (H:=H4) (id:=id1) (off:=0) (cs:=(Za a0_)) (c:=(Za a0_)) (r:=.agg (Za a0_)) (hl:=hlc5)) (Zc.u 0 (Zu (H:=H4) (id:=id3) (off:=0) (cs:=(Zk a1_)) (c:=(Zk a1_)) (r:=.agg (Zk a1_)) (hl:=hlc6)) (Zc.v 2 (Zy (hc:=ZgB N a0_ a1_ a2_ a3_ r7 hr7)) Zc.f))) (by kernel_rfl) ?_
 refine tq (sq ?_)
 refine rgS ⟨[(3,iv a3_),(4,.ptr id1 0),(5,.ptr id3 0),(6,.loc 6 0),(10,iv r7),(19,bv (r7 != 0))],[(6,(Zf a2_))],H4⟩ Zc.f (by kernel_rfl) ?_
 refine tq (it h (fun hc8 h => ?_) (fun hc8 h => ?_))
 ·refine sq (rgS ⟨[(8,iv 0),(9,iv r7)],[],H4⟩ Zc.f (by kernel_rfl) ?_)
  replace hH:HP H4 []:=HP.pick hH [] rfl
  refine tq (rt ?_)
  refine tr ?_
  obtain rfl:=Zb h
  exact ZA (by kernel_rfl)
 refine sk (tq ?_)
 refine kq (sq ?_)
 obtain ⟨id9,H10,hid9,hH10,hH⟩:=HP.newCell hH [iv 0]
 replace hH:HP H10 [.cel id9 [iv 0],.cel id3 (Zk a1_),.cel id1 (Za a0_)]:=hH
 obtain ⟨H11,hH11,hH⟩:=HP.setCell (k:=0) (off:=0) (cs:=[iv 0]) (vs:=[iv 0]) (cs':=[iv 0]) hH rfl (by kernel_rfl)
 replace hH:HP H11 [.cel id9 [iv 0],.cel id3 (Zk a1_),.cel id1 (Za a0_)]:=hH
 refine rgS ⟨[(3,iv a3_),(4,.ptr id1 0),(5,.ptr id3 0),(6,.loc 6 0),(11,.ptr id9 0)],[(6,(Zf a2_))],H11⟩ (Zc.h 0 (Zhc (H:=H4) (by kernel_rfl) hid9 hH10) (Zc.o 0 (Za0 (H:=H10) (v:=iv 0) (hw:=hH11)) Zc.f)) (by kernel_rfl) ?_
 refine tq (sq ?_)
 refine sq ?_
 have hlc12:=HP.get hH 2 rfl
 have hlc13:=HP.get hH 1 rfl
 obtain ⟨r14,hr14,h⟩:=bs h
 obtain ⟨id16,id17,id18,id19,H15,hvr14,hpr14⟩:=Zga N a0_ a1_ a2_ a3_ H11 r14 hr14
 replace hH:HP H15 [.cel id16 (Zf r14.1),.cel id17 [iv r14.2.1],.cel id18 (Za r14.2.2.1),.cel id19 (Zk r14.2.2.2),.cel id9 [iv 0],.cel id3 (Zk a1_),.cel id1 (Za a0_)]:=HP.callee (fp:=[]) (rest:=[.cel id9 [iv 0],.cel id3 (Zk a1_),.cel id1 (Za a0_)]) hH hpr14
 refine rgS ⟨[(4,.ptr id1 0),(5,.ptr id3 0),(11,.ptr id9 0),(25,.fn 46 [] [.ptr id16 0,.ptr id17 0,.ptr id18 0,.ptr id19 0])],[],H15⟩ (Zc.u 0 (Zu (H:=H11) (id:=id1) (off:=0) (cs:=(Za a0_)) (c:=(Za a0_)) (r:=.agg (Za a0_)) (hl:=hlc12)) (Zc.u 0 (Zu (H:=H11) (id:=id3) (off:=0) (cs:=(Zk a1_)) (c:=(Zk a1_)) (r:=.agg (Zk a1_)) (hl:=hlc13)) (Zc.v 2 (ZfT (H:=H11) (ys:=[.agg (Za a0_),.agg (Zk a1_),.agg (Zf a2_),iv a3_]) (by kernel_rfl) (by kernel_rfl) (by kernel_rfl) hvr14) Zc.f))) (by kernel_rfl) ?_
 refine tq (bk ?_)
 obtain ⟨o527,ho527,h⟩:=bs h
 have hyo527:∀ (x21:ZQ) (s:Int) (r:(Int) × Bool) (H:List HO) (its:List Zaf),(fun (s:Int) (its:List Zaf)=>its=[.cel id9 [iv s],.cel id3 (Zk a1_),.cel id1 (Za a0_)]++[.lp (List.length H15) (lcOf Try.prog i13.nt [26] ZdV ZdU) [(4,.ptr id1 0),(5,.ptr id3 0),(11,.ptr id9 0)] .ready]) s its→HP H its→(fun (s:Int) (x21:ZQ)=>Zc6 (fun v:Int=>Zbg N a0_ a1_ v x21) s) s x21=some r→∃ H' its',ZgV Try.prog (List.length H15) [.agg (Zbt x21)] H r.2 H'∧(fun (s:Int) (its:List Zaf)=>its=[.cel id9 [iv s],.cel id3 (Zk a1_),.cel id1 (Za a0_)]++[.lp (List.length H15) (lcOf Try.prog i13.nt [26] ZdV ZdU) [(4,.ptr id1 0),(5,.ptr id3 0),(11,.ptr id9 0)] .ready]) r.1 its'∧Fp H H' its its':=by
  clear h
  intro x21 s r H20 its hT hH h
  obtain ⟨q,hb,rfl⟩:=Zgm h
  clear h
  obtain ⟨vs,rfl⟩:∃ v,v=s:=⟨s,rfl⟩
  obtain ⟨i22,rfl⟩:∃ v,v=vs:=⟨vs,rfl⟩
  obtain rfl:=hT
  replace h:Zbg N a0_ a1_ i22 x21=some q:=hb
  clear hb
  unfold Zbg at h
  replace hH:Fp H20 H20 [.cel id9 [iv i22],.cel id3 (Zk a1_),.cel id1 (Za a0_),.lp (List.length H15) (lcOf Try.prog i13.nt [26] ZdV ZdU) [(4,.ptr id1 0),(5,.ptr id3 0),(11,.ptr id9 0)] .ready] [.cel id9 [iv i22],.cel id3 (Zk a1_),.cel id1 (Za a0_),.lp (List.length H15) (lcOf Try.prog i13.nt [26] ZdV ZdU) [(4,.ptr id1 0),(5,.ptr id3 0),(11,.ptr id9 0)] .ready]:=Fp.refl hH
  suffices hs:∃ H',ZgV Try.prog (List.length H15) [.agg (Zbt x21)] H20 true H'∧∃ its',(fun (s:Int) (its:List Zaf)=>its=[.cel id9 [iv s],.cel id3 (Zk a1_),.cel id1 (Za a0_)]++[.lp (List.length H15) (lcOf Try.prog i13.nt [26] ZdV ZdU) [(4,.ptr id1 0),(5,.ptr id3 0),(11,.ptr id9 0)] .ready]) q its'∧Fp H20 H' [.cel id9 [iv i22],.cel id3 (Zk a1_),.cel id1 (Za a0_),.lp (List.length H15) (lcOf Try.prog i13.nt [26] ZdV ZdU) [(4,.ptr id1 0),(5,.ptr id3 0),(11,.ptr id9 0)] .ready] its' by
   obtain ⟨H',h1,its',h2,h3⟩:=hs
   exact ⟨H',its',h1,h2,h3⟩
  refine Zgz (id:=(List.length H15)) (args:=[.agg (Zbt x21)]) (H:=H20) (n:=i13.nt) (ps:=[26]) (fr0:=[(4,.ptr id1 0),(5,.ptr id3 0),(11,.ptr id9 0)]) (ia:=ZdV) (ib:=ZdU) true (fun H'=>∃ its',(fun (s:Int) (its:List Zaf)=>its=[.cel id9 [iv s],.cel id3 (Zk a1_),.cel id1 (Za a0_)]++[.lp (List.length H15) (lcOf Try.prog i13.nt [26] ZdV ZdU) [(4,.ptr id1 0),(5,.ptr id3 0),(11,.ptr id9 0)] .ready]) q its'∧Fp H20 H' [.cel id9 [iv i22],.cel id3 (Zk a1_),.cel id1 (Za a0_),.lp (List.length H15) (lcOf Try.prog i13.nt [26] ZdV ZdU) [(4,.ptr id1 0),(5,.ptr id3 0),(11,.ptr id9 0)] .ready] its') (Fp.get hH 3 rfl) rfl (by decide +kernel) rfl ?_
  show vc _ _ _ _ ⟨[(4,.ptr id1 0),(5,.ptr id3 0),(11,.ptr id9 0),(26,.agg (Zbt x21))],[],H20⟩
  refine rgS ⟨[(4,.ptr id1 0),(5,.ptr id3 0),(11,.ptr id9 0),(12,.loc 12 0)],[(12,(Zbt x21))],H20⟩ Zc.f (by kernel_rfl) ?_
  refine Zkw (k:=3) hH rfl ?_
  intro H522 hH
  replace hH:Fp H20 H522 [.cel id9 [iv i22],.cel id3 (Zk a1_),.cel id1 (Za a0_),.lp (List.length H15) (lcOf Try.prog i13.nt [26] ZdV ZdU) [(4,.ptr id1 0),(5,.ptr id3 0),(11,.ptr id9 0)] .ready] [.cel id9 [iv i22],.cel id3 (Zk a1_),.cel id1 (Za a0_),.lp (List.length H15) (lcOf Try.prog i13.nt [26] ZdV ZdU) [(4,.ptr id1 0),(5,.ptr id3 0),(11,.ptr id9 0)] .busy]:=hH
  show vc _ _ _ _ ⟨[(4,.ptr id1 0),(5,.ptr id3 0),(11,.ptr id9 0),(12,.loc 12 0)],[(12,(Zbt x21))],H522⟩
  refine bk ?_
  have hlc523:=Fp.get hH 2 rfl
  obtain ⟨e524,he524,h⟩:=bs h
  have hlc525:=Fp.get hH 1 rfl
  obtain ⟨H526,hH526,hH⟩:=Fp.setCell (k:=0) (off:=0) (cs:=[iv i22]) (vs:=[iv (w64 ((w64 ((w64 (x21.Open+x21.Long))+e524.Delay))+a1_.Proc))]) (cs':=[iv (w64 ((w64 ((w64 (x21.Open+x21.Long))+e524.Delay))+a1_.Proc))]) hH rfl (by kernel_rfl)
  replace hH:Fp H20 H526 [.cel id9 [iv i22],.cel id3 (Zk a1_),.cel id1 (Za a0_),.lp (List.length H15) (lcOf Try.prog i13.nt [26] ZdV ZdU) [(4,.ptr id1 0),(5,.ptr id3 0),(11,.ptr id9 0)] .ready] [.cel id9 [iv (w64 ((w64 ((w64 (x21.Open+x21.Long))+e524.Delay))+a1_.Proc))],.cel id3 (Zk a1_),.cel id1 (Za a0_),.lp (List.length H15) (lcOf Try.prog i13.nt [26] ZdV ZdU) [(4,.ptr id1 0),(5,.ptr id3 0),(11,.ptr id9 0)] .busy]:=hH
  refine rqS ⟨[],[],H526⟩ (Zc.u 6 (ZK (Zu (H:=H522) (id:=id1) (off:=2) (cs:=(Za a0_)) (c:=[Zd false a0_.Links]) (r:=Zd false a0_.Links) (hl:=hlc523))) (Zc.u 3 (Zo (ys:=[Zd false a0_.Links,iv (w64 (Int.tdiv x21.Port 2))]) (h:=Zi Zn he524)) (Zc.u 1 (ZK (Zp (sz:=4) (off:=3) (cs:=[.int .i64 e524.Delay]) (r:=iv e524.Delay) Zn he524)) (Zc.u 2 (ZK (Zu (H:=H522) (id:=id3) (off:=2) (cs:=(Zk a1_)) (c:=[iv a1_.Proc]) (r:=iv a1_.Proc) (hl:=hlc525))) (Zc.o 1 (Zno (Za0 (H:=H522) (v:=iv (w64 ((w64 ((w64 (x21.Open+x21.Long))+e524.Delay))+a1_.Proc))) (hw:=hH526)) (by kernel_rfl)) Zc.f))))) (by kernel_rfl) ?_
  refine bn ?_
  obtain rfl:=Zb h
  exact rbd (k:=3) (.ready) hH rfl rfl (fun H6 hH=>⟨_,(Eq.refl _),(Fp.pick hH [0,1,2,3] rfl)⟩)
 refine Zh3 (s:=⟨[(4,.ptr id1 0),(5,.ptr id3 0),(11,.ptr id9 0),(25,.fn 46 [] [.ptr id16 0,.ptr id17 0,.ptr id18 0,.ptr id19 0])],[],H15⟩) [(4,.ptr id1 0),(5,.ptr id3 0),(11,.ptr id9 0)] (FrOK.cons (by kernel_rfl) (by kernel_rfl) (FrOK.cons (by kernel_rfl) (by kernel_rfl) (FrOK.cons (by kernel_rfl) (by kernel_rfl) FrOK.nil))) (by kernel_rfl) (fun H=>rfl) (capT:=[.cel id16 (Zf r14.1),.cel id17 [iv r14.2.1],.cel id18 (Za r14.2.2.1),.cel id19 (Zk r14.2.2.2)]) (cells0:=[.cel id9 [iv 0],.cel id3 (Zk a1_),.cel id1 (Za a0_)]) (rest:=[]) (HP.now (HP.pick hH [0,1,2,3,4,5,6] rfl)) (fun (s:Int) (its:List Zaf)=>its=[.cel id9 [iv s],.cel id3 (Zk a1_),.cel id1 (Za a0_)]++[.lp (List.length H15) (lcOf Try.prog i13.nt [26] ZdV ZdU) [(4,.ptr id1 0),(5,.ptr id3 0),(11,.ptr id9 0)] .ready]) 0 o527 (by exact (Eq.refl _)) (fun H its hT hH=>Zfj N (fun (s:Int) (x21:ZQ)=>Zc6 (fun v:Int=>Zbg N a0_ a1_ v x21) s) r14.1 r14.2.1 r14.2.2.1 r14.2.2.2 0 id16 id17 id18 id19 (List.length H15) (fun (s:Int) (its:List Zaf)=>its=[.cel id9 [iv s],.cel id3 (Zk a1_),.cel id1 (Za a0_)]++[.lp (List.length H15) (lcOf Try.prog i13.nt [26] ZdV ZdU) [(4,.ptr id1 0),(5,.ptr id3 0),(11,.ptr id9 0)] .ready]) hyo527 H its hT hH o527 ho527) ?_
 rintro its hT
 obtain rfl:=hT
 refine ⟨_,_,rfl,?_⟩
 intro H528 hF
 replace hH:HP H528 [.cel id16 (Zf r14.1),.cel id17 [iv r14.2.1],.cel id18 (Za r14.2.2.1),.cel id19 (Zk r14.2.2.2),.cel id9 [iv o527],.cel id3 (Zk a1_),.cel id1 (Za a0_)]:=HP.after (HP.pick hH [0,1,2,3,4,5,6] rfl) hF
 refine Zhl (S:=⟨[(4,.ptr id1 0),(5,.ptr id3 0),(11,.ptr id9 0),(25,.fn 46 [] [.ptr id16 0,.ptr id17 0,.ptr id18 0,.ptr id19 0])],[],H528⟩) ?_
 refine bn (tq ?_)
 refine kq ?_
 replace hH:HP H528 [.cel id9 [iv o527]]:=HP.pick hH [4] rfl
 refine sq ?_
 have hlc529:=HP.get hH 0 rfl
 refine rgS ⟨[(8,iv o527),(9,iv 0)],[],H528⟩ (Zc.u 0 (Zu (H:=H528) (id:=id9) (off:=0) (cs:=[iv o527]) (c:=[iv o527]) (r:=iv o527) (hl:=hlc529)) Zc.f) (by kernel_rfl) ?_
 replace hH:HP H528 []:=HP.pick hH [] rfl
 refine tq (rt ?_)
 obtain rfl:=Zb h
 exact ZA (by kernel_rfl)
theorem Zjv (N:Nat) (r:Bool) (h:Zef N=some r):Zar Try.prog 16 [] (bv r):=by
 unfold Zef at h
 have hH:HP ([]:List HO) []:=trivial
 refine ZI chk16 rfl rfl (Zv _ _ _ ?_) rfl
 refine sq (rg Zc.f ?_)
 refine tq (sq ?_)
 obtain ⟨r1,hr1,h⟩:=bs h
 obtain ⟨r2,hr2,h⟩:=bs h
 obtain ⟨r3,hr3,h⟩:=bs h
 refine rg (Zc.v 0 (Zy (hc:=Zkv N  r1 hr1)) (Zc.v 0 (Zy (hc:=Zjw N  r2 hr2)) (Zc.v 0 (Zy (hc:=ZgQ N  r3 hr3)) Zc.f))) (tq ?_)
 refine sq ?_
 obtain ⟨r4,hr4,h⟩:=bs h
 refine rg (Zc.v 3 (Zy (hc:=ZeA N r1 r2 r3 0 r4 hr4)) Zc.f) (tq ?_)
 refine sq ?_
 obtain ⟨r5,hr5,h⟩:=bs h
 refine rg (Zc.v 3 (Zy (hc:=Zgb N r1 r2 r3 0 r5 hr5)) Zc.f) (tq ?_)
 refine sq ?_
 obtain ⟨r6,hr6,h⟩:=bs h
 refine rg (Zc.v 3 (Zy (hc:=ZeA N r1 r2 r3 1 r6 hr6)) Zc.f) (tq ?_)
 refine sq (sq ?_)
 obtain ⟨j17,hj,h⟩:=bs h
 refine rgR (fun s=>s=⟨[(1,.loc 1 0),(3,.loc 3 0),(6,iv r5.1),(9,iv r6.2),(62,bv j17)],[(1,(Za r1)),(3,(Zf r3))],[]⟩) ?_ ?_
 ·clear h
  rcases Zx hj with ⟨hc7,hj⟩ | ⟨hc8,hj⟩
  ·obtain rfl:=Zb hj
   exact (EP.u 1 (Zl (c:=(r4.2 != 0)) (h:=hc7)) (EP.f (by show _=_;kernel_rfl)))
  refine (EP.u 1 (Zl (c:=(r4.2 != 0)) (h:=hc8)) ?_)
  rcases Zx hj with ⟨hc9,hj⟩ | ⟨hc10,hj⟩
  ·obtain rfl:=Zb hj
   exact (EP.u 2 (Zl (c:=(r5.2 != 0)) (h:=hc9)) (EP.f (by show _=_;kernel_rfl)))
  refine (EP.u 2 (Zl (c:=(r5.2 != 0)) (h:=hc10)) (EP.u 3 (Zo (ys:=[Z2 false r4.1]) (h:=Zw ZM)) ?_))
  rcases Zx hj with ⟨hc11,hj⟩ | ⟨hc12,hj⟩
  ·obtain rfl:=Zb hj
   exact (EP.u 0 (Zl (c:=(((List.length r4.1:Nat):Int) != 2)) (h:=hc11)) (EP.f (by show _=_;kernel_rfl)))
  refine (EP.u 0 (Zl (c:=(((List.length r4.1:Nat):Int) != 2)) (h:=hc12)) ?_)
  obtain ⟨e13,he13,hj⟩:=bs hj
  refine (EP.u 3 (Zo (ys:=[Z2 false r4.1,iv 0]) (h:=Zi ZM he13)) (EP.u 0 (Zp (sz:=5) (off:=0) (cs:=[.int .i64 e13.Port,.int .i64 e13.Early,.int .i64 e13.Late,.int .i64 e13.Open,.int .i64 e13.Long]) (r:=.agg (Zbt e13)) ZM he13) ?_))
  rcases Zx hj with ⟨hc14,hj⟩ | ⟨hc15,hj⟩
  ·obtain rfl:=Zb hj
   exact (EP.u 1 (Zl (c:=(!((e13.Port==0)&&((e13.Early==0)&&((e13.Late==0)&&((e13.Open==0)&&((e13.Long==800)&&true))))))) (h:=hc14)) (EP.f (by show _=_;kernel_rfl)))
  refine (EP.u 1 (Zl (c:=(!((e13.Port==0)&&((e13.Early==0)&&((e13.Late==0)&&((e13.Open==0)&&((e13.Long==800)&&true))))))) (h:=hc15)) ?_)
  obtain ⟨e16,he16,hj⟩:=bs hj
  obtain rfl:=Zb hj
  exact (EP.u 3 (Zo (ys:=[Z2 false r4.1,iv 1]) (h:=Zi ZM he16)) (EP.u 0 (Zp (sz:=5) (off:=0) (cs:=[.int .i64 e16.Port,.int .i64 e16.Early,.int .i64 e16.Late,.int .i64 e16.Open,.int .i64 e16.Long]) (r:=.agg (Zbt e16)) ZM he16) (EP.f (by show _=_;kernel_rfl))))
 clear hj
 rintro s hR
 obtain rfl:=hR
 refine tq (it h (fun hc18 h => ?_) (fun hc18 h => ?_))
 ·refine sq (rg Zc.f ?_)
  refine tq (rt ?_)
  refine tr ?_
  obtain rfl:=Zb h
  exact ZA (by kernel_rfl)
 refine sk (tq ?_)
 refine kq (sq ?_)
 refine rq Zc.f (tq ?_)
 refine sq (rg Zc.f ?_)
 refine tq (sq ?_)
 obtain ⟨j26,hj,h⟩:=bs h
 refine rgR (fun s=>s=⟨[(1,.loc 1 0),(3,.loc 3 0),(6,iv r5.1),(9,iv r6.2),(13,bv j26)],[(1,(Za r1)),(3,(Zf r3))],[]⟩) ?_ ?_
 ·clear h
  obtain ⟨r19,hr19,hj⟩:=bs hj
  refine (EP.v 2 (Zy (hc:=Zc8 N r1 (Zh.mk r3.Id r3.Talker 1 r3.Class r3.Size r3.Period r3.Bucket r3.Deadline r3.Routes) r19 hr19)) ?_)
  rcases Zx hj with ⟨hc20,hj⟩ | ⟨hc25,hj⟩
  ·refine (EP.u 0 (Zl (c:=(r19==321)) (h:=hc20)) ?_)
   obtain ⟨r21,hr21,hj⟩:=bs hj
   refine (EP.v 3 (Zy (hc:=Zc8 N r1 (Zh.mk r3.Id r3.Talker r3.Listener r3.Class 83 r3.Period r3.Bucket r3.Deadline r3.Routes) r21 hr21)) ?_)
   rcases Zx hj with ⟨hc22,hj⟩ | ⟨hc24,hj⟩
   ·refine (EP.u 0 (Zl (c:=(r21==321)) (h:=hc22)) ?_)
    obtain ⟨r23,hr23,hj⟩:=bs hj
    obtain rfl:=Zb hj
    exact (EP.v 4 (Zy (hc:=Zc8 N r1 (Zh.mk r3.Id r3.Talker r3.Listener r3.Class r3.Size r3.Period r3.Bucket r3.Deadline ([[2,0]])) r23 hr23)) (EP.f (by show _=_;kernel_rfl)))
   obtain rfl:=Zb hj
   exact (EP.u 0 (Zl (c:=(r21==321)) (h:=hc24)) (EP.f (by show _=_;kernel_rfl)))
  obtain rfl:=Zb hj
  exact (EP.u 0 (Zl (c:=(r19==321)) (h:=hc25)) (EP.f (by show _=_;kernel_rfl)))
 clear hj
 rintro s hR
 obtain rfl:=hR
 refine tq (sq ?_)
 obtain ⟨j37,hj,h⟩:=bs h
 refine rgR (fun s=>s=⟨[(0,bv j37)],[],[]⟩) ?_ ?_
 ·clear h
  rcases Zx hj with ⟨hc27,hj⟩ | ⟨hc36,hj⟩
  ·refine (EP.u 1 (Zl (c:=(r5.1==1715)) (h:=hc27)) ?_)
   rcases Zx hj with ⟨hc28,hj⟩ | ⟨hc35,hj⟩
   ·refine (EP.u 2 (Zl (c:=(r6.2==2)) (h:=hc28)) ?_)
    rcases Zx hj with ⟨hc29,hj⟩ | ⟨hc34,hj⟩
    ·refine (EP.u 2 (Zl (c:=j26) (h:=hc29)) ?_)
     obtain ⟨r30,hr30,hj⟩:=bs hj
     refine (EP.v 6 (Zy (hc:=ZgC N r1 ([r3,r3]) r30 hr30)) ?_)
     rcases Zx hj with ⟨hc31,hj⟩ | ⟨hc33,hj⟩
     ·refine (EP.u 0 (Zl (c:=(r30==322)) (h:=hc31)) ?_)
      obtain ⟨r32,hr32,hj⟩:=bs hj
      obtain rfl:=Zb hj
      exact (EP.v 4 (Zy (hc:=Zc8 N r1 r3 r32 hr32)) (EP.f (by show _=_;kernel_rfl)))
     obtain rfl:=Zb hj
     exact (EP.u 0 (Zl (c:=(r30==322)) (h:=hc33)) (EP.f (by show _=_;kernel_rfl)))
    obtain rfl:=Zb hj
    exact (EP.u 2 (Zl (c:=j26) (h:=hc34)) (EP.f (by show _=_;kernel_rfl)))
   obtain rfl:=Zb hj
   exact (EP.u 2 (Zl (c:=(r6.2==2)) (h:=hc35)) (EP.f (by show _=_;kernel_rfl)))
  obtain rfl:=Zb hj
  exact (EP.u 1 (Zl (c:=(r5.1==1715)) (h:=hc36)) (EP.f (by show _=_;kernel_rfl)))
 clear hj
 rintro s hR
 obtain rfl:=hR
 refine tq (rt ?_)
 obtain rfl:=Zb h
 exact ZA (by kernel_rfl)
end Go.Sh

