/- Part of the proof; written by a program out of the texts in wip/. -/
import Derived.Test.YtmplmekdilmdgaaStreamHopsSh
import Derived.Test.YtmplmekdilmdgaaStreamHopsChk
namespace Go.Sh
open Go Go.Eng Go.Proofs
set_option linter.unusedVariables false
set_option linter.unusedSimpArgs false
set_option maxRecDepth 100000
set_option maxHeartbeats 4000000
attribute [local irreducible] vc ev ZfH opsD opsF Zg7 upd updH updO
theorem ZfT (N:Nat) (a0_:Int) (a1_:Int) (a2_:Int) (r:ZE) (h:Zb1 N a0_ a1_ a2_=some r):Zal Try.prog 10 [.p (.int .u8 a0_),.p (.int .u8 a1_),.p (.int .u8 a2_)] (.agg [iv r.Grid,iv r.Slack,iv r.Proc,iv r.Cap]):=by
 unfold Zb1 at h
 have hH:HP ([]:List HO) []:=trivial
 refine ZF chk10 rfl rfl (Zv _ _ _ ?_) rfl
 refine sq (rg Zb.f ?_)
 refine tq (sq ?_)
 refine rg Zb.f (tq ?_)
 refine rt ?_
 obtain rfl:=Zc h
 exact ZC (by kernel_rfl)
theorem Zae (N:Nat) (a0_:(List ZJ)) (a1_:(List ZJ)) (r:Bool) (h:Z7 N a0_ a1_=some r):Zal Try.prog 15 [Z1 false a0_,Z1 false a1_] (bv r):=by
 unfold Z7 at h
 have hH:HP ([]:List HO) []:=trivial
 refine ZF chk15 rfl rfl (Zv _ _ _ ?_) rfl
 refine sq (rg Zb.f ?_)
 refine tq (sq ?_)
 refine sq (rg (Zb.u 1 (Zo (ys:=[Z1 false a0_]) (h:=ZB ZK)) (Zb.u 1 (Zo (ys:=[Z1 false a1_]) (h:=ZB ZK)) Zb.f)) ?_)
 refine tq (it h (fun hc1 h => ?_) (fun hc1 h => ?_))
 ·refine sq (rg Zb.f ?_)
  refine tq (rt ?_)
  refine tr ?_
  obtain rfl:=Zc h
  exact ZC (by kernel_rfl)
 refine sk (tq ?_)
 refine kq (sq ?_)
 refine sq (rg Zb.f ?_)
 refine tq (bk ?_)
 obtain ⟨o507,ho507,h⟩:=bs h
 refine Z8 ((ZT (fun (x:Int) s=>s=⟨[(0,Z1 false a0_),(1,Z1 false a1_),(5,iv x)],[],[]⟩) (fun x:Int=>Zbg N a0_ a1_ x) (fun (p:(Unit) ⊕ (Bool)) e s=>match p with | (.inl p)=>e = .exit 0∧(s=⟨[],[],[]⟩) | (.inr p)=>e = .ret∧∃ xs,resL s i15.res=some xs∧Zbr xs=bv p) ?_ N _ o507 _ ho507 (by show _=_;kernel_rfl)).mono ?_)
 ·clear h ho507
  rintro i2 o s h hR
  obtain rfl:=hR
  replace h:Zbg N a0_ a1_ i2=some o:=h
  unfold Zbg at h
  refine sq (sq ?_)
  refine rg (Zb.u 2 (Zo (ys:=[Z1 false a0_]) (h:=ZB ZK)) Zb.f) (tq ?_)
  refine it h (fun hc503 h => ?_) (fun hc503 h => ?_)
  ·refine sk (tq ?_)
   refine kq (sq ?_)
   refine bk (sq ?_)
   obtain ⟨e504,he504,h⟩:=bs h
   obtain ⟨e505,he505,h⟩:=bs h
   refine rq (Zb.u 2 (Zo (ys:=[Z1 false a0_,iv i2]) (h:=Zg ZK he504)) (Zb.u 0 (Zw (Zq (sz:=5) (off:=0) (cs:=[.int .i64 e504.Port,.int .i64 e504.Early,.int .i64 e504.Late,.int .i64 e504.Open,.int .i64 e504.Long]) (r:=.agg (Za7 e504)) ZK he504)) (Zb.u 2 (Zo (ys:=[Z1 false a1_,iv i2]) (h:=Zg ZK he505)) (Zb.u 0 (Zw (Zq (sz:=5) (off:=0) (cs:=[.int .i64 e505.Port,.int .i64 e505.Early,.int .i64 e505.Late,.int .i64 e505.Open,.int .i64 e505.Long]) (r:=.agg (Za7 e505)) ZK he505)) Zb.f)))) (tq ?_)
   refine it h (fun hc506 h => ?_) (fun hc506 h => ?_)
   ·refine sq (rg Zb.f ?_)
    refine tq (rt ?_)
    refine br (tr ?_)
    obtain rfl:=Zc h
    exact ⟨_,rfl,rfl,ZC (by kernel_rfl)⟩
   refine sk (bn ?_)
   refine tq (kq ?_)
   refine rg Zb.f ?_
   obtain rfl:=Zc h
   exact ⟨_,rfl,(by show _=_;kernel_rfl)⟩
  refine kq (xq ?_)
  refine tx ?_
  obtain rfl:=Zc h
  exact ⟨_,rfl,rfl,(by show _=_;kernel_rfl)⟩
 rintro e s hq
 rcases o507 with p508 | p509
 ·dsimp only at h hq
  obtain ⟨rfl,hR⟩:=hq
  obtain rfl:=hR
  refine bx (tq ?_)
  refine sq (rg Zb.f ?_)
  refine tq (rt ?_)
  obtain rfl:=Zc h
  exact ZC (by kernel_rfl)
 dsimp only at h hq
 obtain ⟨rfl,hq⟩:=hq
 refine br (tr ?_)
 obtain rfl:=Zc h
 exact hq
theorem Zlg (N:Nat) (r:Zi) (h:ZgA N=some r):Zal Try.prog 26 [] (.agg [iv r.Nodes,s_eB false r.Station,Zh false r.Links]):=by
 unfold ZgA at h
 have hH:HP ([]:List HO) []:=trivial
 refine ZF chk26 rfl rfl (Zv _ _ _ ?_) rfl
 refine sq (rg Zb.f ?_)
 refine tq (sq ?_)
 refine rg Zb.f (tq ?_)
 refine rt ?_
 obtain rfl:=Zc h
 exact ZC (by kernel_rfl)
theorem Zkk (N:Nat) (r:ZE) (h:ZfG N=some r):Zal Try.prog 27 [] (.agg [iv r.Grid,iv r.Slack,iv r.Proc,iv r.Cap]):=by
 unfold ZfG at h
 have hH:HP ([]:List HO) []:=trivial
 refine ZF chk27 rfl rfl (Zv _ _ _ ?_) rfl
 refine sq (rg Zb.f ?_)
 refine tq (sq ?_)
 refine rg Zb.f (tq ?_)
 refine rt ?_
 obtain rfl:=Zc h
 exact ZC (by kernel_rfl)
theorem Zhw (N:Nat) (r:Zm) (h:ZdF N=some r):Zal Try.prog 28 [] (.agg [iv r.Id,iv r.Talker,iv r.Listener,iv r.Class,iv r.Size,iv r.Period,iv r.Bucket.Burst,iv r.Bucket.Rate,iv r.Deadline,Zl false r.Routes]):=by
 unfold ZdF at h
 have hH:HP ([]:List HO) []:=trivial
 refine ZF chk28 rfl rfl (Zv _ _ _ ?_) rfl
 refine sq (rg Zb.f ?_)
 refine tq (sq ?_)
 refine rg Zb.f (tq ?_)
 refine rt ?_
 obtain rfl:=Zc h
 exact ZC (by kernel_rfl)
theorem ZdC (N:Nat) (a0_:(List Int)) (a1_:Int) (r:Int) (h:Zc2 N a0_ a1_=some r):Zal Try.prog 31 [Zdz false a0_,iv a1_] (iv r):=by
 unfold Zc2 at h
 have hH:HP ([]:List HO) []:=trivial
 refine ZF chk31 rfl rfl (Zv _ _ _ ?_) rfl
 refine sq (rg Zb.f ?_)
 refine tq (sq ?_)
 refine sq (rg (Zb.u 2 (Zo (ys:=[Zdz false a0_]) (h:=ZB (eI .u8))) Zb.f) ?_)
 refine tq (it h (fun hc1 h => ?_) (fun hc1 h => ?_))
 ·refine sq ?_
  obtain ⟨e2,he2,h⟩:=bs h
  refine rg (Zb.u 2 (Zo (ys:=[Zdz false a0_,iv a1_]) (h:=Zg (eI .u8) he2)) (Zb.u 0 (Zq (sz:=1) (off:=0) (cs:=[.int .u8 e2]) (r:=.p (.int .u8 e2)) (eI .u8) he2) Zb.f)) (tq ?_)
  refine rt (tr ?_)
  obtain rfl:=Zc h
  exact ZC (by kernel_rfl)
 refine sk (tq ?_)
 refine kq (sq ?_)
 refine rg Zb.f (tq ?_)
 refine rt ?_
 obtain rfl:=Zc h
 exact ZC (by kernel_rfl)
theorem ZgL (N:Nat) (a0_:Zi) (a1_:ZE) (a2_:Zm) (a3_:Int) (H:List HO) (r:Zm × Int × Zi × ZE) (h:Zfw N a0_ a1_ a2_ a3_=some r):∃ (id0_ id1_ id2_ id3_:Nat) (H':List HO),ZbG Try.prog 33 [.agg (Za a0_),.agg (Zn a1_),.agg (Ze a2_),iv a3_] H (.fn 46 [] [.ptr id0_ 0,.ptr id1_ 0,.ptr id2_ 0,.ptr id3_ 0]) H'∧Fp H H' [] [.cel id0_ [iv r.1.Id,iv r.1.Talker,iv r.1.Listener,iv r.1.Class,iv r.1.Size,iv r.1.Period,iv r.1.Bucket.Burst,iv r.1.Bucket.Rate,iv r.1.Deadline,Zl false r.1.Routes],.cel id1_ [iv r.2.1],.cel id2_ [iv r.2.2.1.Nodes,s_eB false r.2.2.1.Station,Zh false r.2.2.1.Links],.cel id3_ [iv r.2.2.2.Grid,iv r.2.2.2.Slack,iv r.2.2.2.Proc,iv r.2.2.2.Cap]]:=by
 suffices hs:∃ r' H',ZbG Try.prog 33 [.agg (Za a0_),.agg (Zn a1_),.agg (Ze a2_),iv a3_] H r' H'∧∃ (id0_ id1_ id2_ id3_:Nat),r' = .fn 46 [] [.ptr id0_ 0,.ptr id1_ 0,.ptr id2_ 0,.ptr id3_ 0]∧Fp H H' [] [.cel id0_ [iv r.1.Id,iv r.1.Talker,iv r.1.Listener,iv r.1.Class,iv r.1.Size,iv r.1.Period,iv r.1.Bucket.Burst,iv r.1.Bucket.Rate,iv r.1.Deadline,Zl false r.1.Routes],.cel id1_ [iv r.2.1],.cel id2_ [iv r.2.2.1.Nodes,s_eB false r.2.2.1.Station,Zh false r.2.2.1.Links],.cel id3_ [iv r.2.2.2.Grid,iv r.2.2.2.Slack,iv r.2.2.2.Proc,iv r.2.2.2.Cap]] by
  obtain ⟨_,H',h1,id0_,id1_,id2_,id3_,rfl,h2⟩:=hs
  exact ⟨id0_,id1_,id2_,id3_,H',h1,h2⟩
 unfold Zfw at h
 have hH:Fp H H [] []:=Fp.refl trivial
 refine ZkL chk33 (fun r' H'=>∃ (id0_ id1_ id2_ id3_:Nat),r' = .fn 46 [] [.ptr id0_ 0,.ptr id1_ 0,.ptr id2_ 0,.ptr id3_ 0]∧Fp H H' [] [.cel id0_ [iv r.1.Id,iv r.1.Talker,iv r.1.Listener,iv r.1.Class,iv r.1.Size,iv r.1.Period,iv r.1.Bucket.Burst,iv r.1.Bucket.Rate,iv r.1.Deadline,Zl false r.1.Routes],.cel id1_ [iv r.2.1],.cel id2_ [iv r.2.2.1.Nodes,s_eB false r.2.2.1.Station,Zh false r.2.2.1.Links],.cel id3_ [iv r.2.2.2.Grid,iv r.2.2.2.Slack,iv r.2.2.2.Proc,iv r.2.2.2.Cap]]) (fun r' H' ⟨_,_,_,_,e,_⟩=>by rw [e];rfl) rfl rfl ?_
 refine sq ?_
 obtain ⟨id1,H2,hid1,hH2,hH⟩:=Fp.newCell hH (Za a0_)
 replace hH:Fp H H2 [] [.cel id1 (Za a0_)]:=hH
 obtain ⟨id3,H4,hid3,hH4,hH⟩:=Fp.newCell hH (Zn a1_)
 replace hH:Fp H H4 [] [.cel id3 (Zn a1_),.cel id1 (Za a0_)]:=hH
 obtain ⟨id5,H6,hid5,hH6,hH⟩:=Fp.newCell hH (Ze a2_)
 replace hH:Fp H H6 [] [.cel id5 (Ze a2_),.cel id3 (Zn a1_),.cel id1 (Za a0_)]:=hH
 obtain ⟨id7,H8,hid7,hH8,hH⟩:=Fp.newCell hH [iv a3_]
 replace hH:Fp H H8 [] [.cel id7 [iv a3_],.cel id5 (Ze a2_),.cel id3 (Zn a1_),.cel id1 (Za a0_)]:=hH
 refine rg (Zb.h 0 (Zdi (H:=H) (v:=.agg (Za a0_)) (hid:=hid1) (hH:=hH2)) (Zb.h 0 (Zdi (H:=H2) (v:=.agg (Zn a1_)) (hid:=hid3) (hH:=hH4)) (Zb.h 0 (Zdi (H:=H4) (v:=.agg (Ze a2_)) (hid:=hid5) (hH:=hH6)) (Zb.h 0 (Zdi (H:=H6) (v:=iv a3_) (hid:=hid7) (hH:=hH8)) Zb.f)))) (tq ?_)
 refine sq (rg Zb.f ?_)
 refine tq (rt ?_)
 obtain rfl:=Zc h
 exact ⟨[.fn 46 [] [.ptr id5 0,.ptr id7 0,.ptr id1 0,.ptr id3 0]],(by kernel_rfl),id5,id7,id1,id3,rfl,Fp.pk hH [1,0,3,2] rfl⟩
theorem Z9 (N:Nat) (a0_:Int) (a1_:Int) (a2_:Int) (r:Bool) (h:Zao N a0_ a1_ a2_=some r):Zal Try.prog 40 [iv a0_,iv a1_,iv a2_] (bv r):=by
 unfold Zao at h
 have hH:HP ([]:List HO) []:=trivial
 refine ZF chk40 rfl rfl (Zv _ _ _ ?_) rfl
 refine sq (rg Zb.f ?_)
 refine tq (sq ?_)
 refine rgX ⟨[(6,bv ((decide (a0_ ≥ a1_))&&(decide (a0_≤a2_))))],[],[]⟩ ?_ ?_
 ·rcases Bool.eq_false_or_eq_true (decide (a0_ ≥ a1_)) with hc1 | hc2
  ·exact (EP.u 2 (Zj (c:=(decide (a0_ ≥ a1_))) (h:=hc1)) (EP.f (by simp only [hc1];kernel_rfl)))
  exact (EP.u 2 (Zj (c:=(decide (a0_ ≥ a1_))) (h:=hc2)) (EP.f (by simp only [hc2];kernel_rfl)))
 refine tq (rt ?_)
 obtain rfl:=Zc h
 exact ZC (by kernel_rfl)
theorem ZgU (N:Nat) (a0_:Zy) (a1_:Int) (a2_:Int) (r:Bool) (h:ZdS N a0_ a1_ a2_=some r):Zal Try.prog 44 [.agg (ZR a0_),iv a1_,iv a2_] (bv r):=by
 unfold ZdS at h
 have hH:HP ([]:List HO) []:=trivial
 refine ZF chk44 rfl rfl (Zv _ _ _ ?_) rfl
 refine sq (rg Zb.f ?_)
 refine tq (sq ?_)
 refine rgX ⟨[(6,bv (if (a0_.A==a1_) then ((a0_.B==a2_)||((a0_.A==a2_)&&(a0_.B==a1_))) else ((a0_.A==a2_)&&(a0_.B==a1_))))],[],[]⟩ ?_ ?_
 ·rcases Bool.eq_false_or_eq_true (a0_.A==a1_) with hc1 | hc6
  ·refine (EP.u 3 (Zj (c:=(a0_.A==a1_)) (h:=hc1)) ?_)
   rcases Bool.eq_false_or_eq_true (a0_.B==a2_) with hc2 | hc3
   ·exact (EP.u 4 (Zj (c:=(a0_.B==a2_)) (h:=hc2)) (EP.f (by simp only [hc1,hc2];kernel_rfl)))
   refine (EP.u 4 (Zj (c:=(a0_.B==a2_)) (h:=hc3)) ?_)
   rcases Bool.eq_false_or_eq_true (a0_.A==a2_) with hc4 | hc5
   ·exact (EP.u 5 (Zj (c:=(a0_.A==a2_)) (h:=hc4)) (EP.f (by simp only [hc1,hc3,hc4];kernel_rfl)))
   exact (EP.u 5 (Zj (c:=(a0_.A==a2_)) (h:=hc5)) (EP.f (by simp only [hc1,hc3,hc5];kernel_rfl)))
  refine (EP.u 3 (Zj (c:=(a0_.A==a1_)) (h:=hc6)) ?_)
  rcases Bool.eq_false_or_eq_true (a0_.A==a2_) with hc7 | hc8
  ·exact (EP.u 10 (Zj (c:=(a0_.A==a2_)) (h:=hc7)) (EP.f (by simp only [hc6,hc7];kernel_rfl)))
  exact (EP.u 10 (Zj (c:=(a0_.A==a2_)) (h:=hc8)) (EP.f (by simp only [hc6,hc8];kernel_rfl)))
 refine tq (rt ?_)
 obtain rfl:=Zc h
 exact ZC (by kernel_rfl)
theorem ZfP {σ:Type} (N:Nat) (y_:σ→ZJ→Option (σ × Bool)) (c0_:Zm) (c1_:Int) (c2_:Zi) (c3_:ZE) (s_:σ) (k0_:Nat) (k1_:Nat) (k2_:Nat) (k3_:Nat) (yid_:Nat) (T_:σ→List Zan→Prop) (hy_:∀ (x0:ZJ) (s:σ) (r:σ × Bool) (H:List HO) (its:List Zan),T_ s its→HP H its→y_ s x0=some r→∃ H' its',ZhB Try.prog yid_ [.agg [iv x0.Port,iv x0.Early,iv x0.Late,iv x0.Open,iv x0.Long]] H r.2 H'∧T_ r.1 its'∧Fp H H' its its') (H:List HO) (its:List Zan) (hT:T_ s_ its) (hH:HP H (.cel k0_ (Ze c0_) :: .cel k1_ [iv c1_] :: .cel k2_ (Za c2_) :: .cel k3_ (Zn c3_)::its)) (r:σ) (h:ZbX N y_ c0_ c1_ c2_ c3_ s_=some r):∃ H' its',ZbG Try.prog 46 [.yl yid_,.ptr k0_ 0,.ptr k1_ 0,.ptr k2_ 0,.ptr k3_ 0] H (.tup []) H'∧T_ r its'∧Fp H H' (.cel k0_ (Ze c0_) :: .cel k1_ [iv c1_] :: .cel k2_ (Za c2_) :: .cel k3_ (Zn c3_)::its) (.cel k0_ (Ze c0_) :: .cel k1_ [iv c1_] :: .cel k2_ (Za c2_) :: .cel k3_ (Zn c3_)::its'):=by
 suffices hs:∃ H',ZbG Try.prog 46 [.yl yid_,.ptr k0_ 0,.ptr k1_ 0,.ptr k2_ 0,.ptr k3_ 0] H (.tup []) H'∧∃ its',T_ r its'∧Fp H H' (.cel k0_ (Ze c0_) :: .cel k1_ [iv c1_] :: .cel k2_ (Za c2_) :: .cel k3_ (Zn c3_)::its) (.cel k0_ (Ze c0_) :: .cel k1_ [iv c1_] :: .cel k2_ (Za c2_) :: .cel k3_ (Zn c3_)::its') by
  obtain ⟨H',h1,its',h2,h3⟩:=hs
  exact ⟨H',its',h1,h2,h3⟩
 unfold ZbX at h
 replace hH:Fp H H (.cel k0_ (Ze c0_) :: .cel k1_ [iv c1_] :: .cel k2_ (Za c2_) :: .cel k3_ (Zn c3_)::its) (.cel k0_ (Ze c0_) :: .cel k1_ [iv c1_] :: .cel k2_ (Za c2_) :: .cel k3_ (Zn c3_)::its):=Fp.refl hH
 refine Zmo chk46 (fun H'=>∃ its',T_ r its'∧Fp H H' (.cel k0_ (Ze c0_) :: .cel k1_ [iv c1_] :: .cel k2_ (Za c2_) :: .cel k3_ (Zn c3_)::its) (.cel k0_ (Ze c0_) :: .cel k1_ [iv c1_] :: .cel k2_ (Za c2_) :: .cel k3_ (Zn c3_)::its')) rfl rfl rfl ?_
 refine sq (rg Zb.f ?_)
 refine tq (sq ?_)
 have hlc1:=Fp.get hH 0 rfl
 have hlc2:=Fp.get hH 1 rfl
 obtain ⟨e3,he3,h⟩:=bs h
 refine rg (Zb.u 1 (ZA (H:=H) (id:=k0_) (off:=9) (cs:=(Ze c0_)) (c:=[Zl false c0_.Routes]) (r:=Zl false c0_.Routes) (hl:=hlc1)) (Zb.u 0 (ZA (H:=H) (id:=k1_) (off:=0) (cs:=[iv c1_]) (c:=[iv c1_]) (r:=iv c1_) (hl:=hlc2)) (Zb.u 0 (Zo (ys:=[Zl false c0_.Routes,iv c1_]) (h:=Zg (eSl 1 eI64) he3)) (Zb.u 0 (Zq (sz:=1) (off:=0) (cs:=[.sl 1 false (List.map eI64 e3)]) (r:=Zk false e3) (eSl 1 eI64) he3) (Zb.u 0 (Zo (ys:=[Zk false e3]) (h:=ZB eI64)) Zb.f))))) (tq ?_)
 refine bk ?_
 obtain ⟨o1035,ho1035,h⟩:=bs h
 refine Z8 ((ZT (fun (x:Int × Int × Int × Int × Int × Int × σ) s=>∃ (its4:List Zan) (H5:List HO),s=⟨[(0,.yl yid_),(1,.ptr k0_ 0),(3,.ptr k2_ 0),(4,.ptr k3_ 0),(6,.loc 6 0),(14,Zk false e3),(15,iv ((List.length e3:Nat):Int)),(16,iv x.1)],[(6,[iv x.2.1,iv x.2.2.1,iv x.2.2.2.1,iv x.2.2.2.2.1,iv x.2.2.2.2.2.1])],H5⟩∧T_ x.2.2.2.2.2.2 its4∧Fp H H5 (.cel k0_ (Ze c0_) :: .cel k1_ [iv c1_] :: .cel k2_ (Za c2_) :: .cel k3_ (Zn c3_)::its) (.cel k0_ (Ze c0_) :: .cel k1_ [iv c1_] :: .cel k2_ (Za c2_) :: .cel k3_ (Zn c3_)::its4)) (fun x:Int × Int × Int × Int × Int × Int × σ=>ZaI N y_ c0_ c2_ c3_ e3 x.1 x.2.1 x.2.2.1 x.2.2.2.1 x.2.2.2.2.1 x.2.2.2.2.2.1 x.2.2.2.2.2.2) (fun (p:(σ) ⊕ (σ)) e s=>match p with | (.inl p)=>e = .exit 0∧(∃ (its513:List Zan) (H514:List HO),s=⟨[],[],H514⟩∧T_ p its513∧Fp H H514 (.cel k0_ (Ze c0_) :: .cel k1_ [iv c1_] :: .cel k2_ (Za c2_) :: .cel k3_ (Zn c3_)::its) (.cel k0_ (Ze c0_) :: .cel k1_ [iv c1_] :: .cel k2_ (Za c2_) :: .cel k3_ (Zn c3_)::its513)) | (.inr p)=>e = .ret∧∃ xs,rawL s i46.res=some xs∧Zbr xs = .tup []∧∃ its',T_ p its'∧Fp H s.H (.cel k0_ (Ze c0_) :: .cel k1_ [iv c1_] :: .cel k2_ (Za c2_) :: .cel k3_ (Zn c3_)::its) (.cel k0_ (Ze c0_) :: .cel k1_ [iv c1_] :: .cel k2_ (Za c2_) :: .cel k3_ (Zn c3_)::its')) ?_ N _ o1035 _ ho1035 ⟨its,H,(by show _=_;kernel_rfl),hT,Fp.at hH⟩).mono ?_)
 ·clear h ho1035
  rintro ⟨i6,i7,i10,i11,i12,i8,g9⟩ o s h hR
  obtain ⟨its4,H5,rfl,hT,hH⟩:=hR
  replace hH:Fp H H5 (.cel k0_ (Ze c0_) :: .cel k1_ [iv c1_] :: .cel k2_ (Za c2_) :: .cel k3_ (Zn c3_)::its) (.cel k0_ (Ze c0_) :: .cel k1_ [iv c1_] :: .cel k2_ (Za c2_) :: .cel k3_ (Zn c3_)::its4):=hH
  replace h:ZaI N y_ c0_ c2_ c3_ e3 i6 i7 i10 i11 i12 i8 g9=some o:=h
  unfold ZaI at h
  refine sq (rg Zb.f ?_)
  refine tq (sq ?_)
  refine it h (fun hc515 h => ?_) (fun hc515 h => ?_)
  ·refine sk (tq ?_)
   refine kq (sq ?_)
   refine bk (sq ?_)
   obtain ⟨e516,he516,h⟩:=bs h
   refine rg (Zb.u 1 (Zo (ys:=[Zk false e3,iv i6]) (h:=Zg eI64 he516)) (Zb.u 0 (Zq (sz:=1) (off:=0) (cs:=[.int .i64 e516]) (r:=iv e516) eI64 he516) Zb.f)) (tq ?_)
   obtain ⟨j1017,hj1017,h⟩:=bs h
   refine Zcu [0,1,3,4,6,8,14,15,16] (fun s=>s=⟨[(0,.yl yid_),(1,.ptr k0_ 0),(3,.ptr k2_ 0),(4,.ptr k3_ 0),(6,.loc 6 0),(8,iv e516),(14,Zk false e3),(15,iv ((List.length e3:Nat):Int)),(16,iv i6)],[(6,[iv i7,iv j1017.1,iv j1017.2.1,iv j1017.2.2,iv i8])],H5⟩) ?_ ?_
   ·clear h
    have h:=hj1017
    refine sq (rg Zb.f ?_)
    refine tq (it h (fun hc1018 h => ?_) (fun hc1018 h => ?_))
    ·refine sq ?_
     have hlc1019:=Fp.get hH 2 rfl
     obtain ⟨e1020,he1020,h⟩:=bs h
     have hlc1021:=Fp.get hH 3 rfl
     refine rq (Zb.u 6 (Zw (ZA (H:=H5) (id:=k2_) (off:=2) (cs:=(Za c2_)) (c:=[Zh false c2_.Links]) (r:=Zh false c2_.Links) (hl:=hlc1019))) (Zb.u 3 (Zo (ys:=[Zh false c2_.Links,iv (w64 (Int.tdiv i7 2))]) (h:=Zg Zp he1020)) (Zb.u 1 (Zw (Zq (sz:=4) (off:=3) (cs:=[.int .i64 e1020.Delay]) (r:=iv e1020.Delay) Zp he1020)) (Zb.u 2 (Zw (ZA (H:=H5) (id:=k3_) (off:=2) (cs:=(Zn c3_)) (c:=[iv c3_.Proc]) (r:=iv c3_.Proc) (hl:=hlc1021))) Zb.f)))) (tq ?_)
     refine sq ?_
     have hlc1022:=Fp.get hH 3 rfl
     have hlc1023:=Fp.get hH 3 rfl
     refine rq (Zb.u 2 (Zw (ZA (H:=H5) (id:=k3_) (off:=1) (cs:=(Zn c3_)) (c:=[iv c3_.Slack]) (r:=iv c3_.Slack) (hl:=hlc1022))) (Zb.u 4 (Zw (ZA (H:=H5) (id:=k3_) (off:=1) (cs:=(Zn c3_)) (c:=[iv c3_.Slack]) (r:=iv c3_.Slack) (hl:=hlc1023))) Zb.f)) (tq ?_)
     have hlc1024:=Fp.get hH 3 rfl
     have hlc1025:=Fp.get hH 3 rfl
     obtain ⟨q1026,hq1026,h⟩:=bs h
     have hlc1027:=Fp.get hH 3 rfl
     refine rq (Zb.u 3 (Zw (ZA (H:=H5) (id:=k3_) (off:=0) (cs:=(Zn c3_)) (c:=[iv c3_.Grid]) (r:=iv c3_.Grid) (hl:=hlc1024))) (Zb.u 3 (Zw (ZA (H:=H5) (id:=k3_) (off:=0) (cs:=(Zn c3_)) (c:=[iv c3_.Grid]) (r:=iv c3_.Grid) (hl:=hlc1025))) (Zb.u 0 (Zo (ys:=[iv (w64 ((w64 ((w64 ((w64 ((w64 ((w64 (i12+i8))+e1020.Delay))+c3_.Proc))+(w64 (2 * c3_.Slack))))+c3_.Grid)) - 1)),iv c3_.Grid]) (h:=ZnZ hq1026)) (Zb.u 1 (Zw (ZA (H:=H5) (id:=k3_) (off:=0) (cs:=(Zn c3_)) (c:=[iv c3_.Grid]) (r:=iv c3_.Grid) (hl:=hlc1027))) Zb.f)))) ?_
     obtain rfl:=Zc h
     exact ⟨rfl,(by show _=_;kernel_rfl)⟩
    refine sk ?_
    obtain rfl:=Zc h
    exact ⟨rfl,(by show _=_;kernel_rfl)⟩
   clear hj1017
   rintro s hR
   obtain rfl:=hR
   refine sq ?_
   have hlc1028:=Fp.get hH 0 rfl
   have hlc1029:=Fp.get hH 2 rfl
   obtain ⟨e1030,he1030,h⟩:=bs h
   refine rq (Zb.u 2 (Zw (ZA (H:=H5) (id:=k0_) (off:=4) (cs:=(Ze c0_)) (c:=[iv c0_.Size]) (r:=iv c0_.Size) (hl:=hlc1028))) (Zb.u 1 (Zw (ZA (H:=H5) (id:=k2_) (off:=2) (cs:=(Za c2_)) (c:=[Zh false c2_.Links]) (r:=Zh false c2_.Links) (hl:=hlc1029))) (Zb.u 2 (Zo (ys:=[Zh false c2_.Links,iv (w64 (Int.tdiv e516 2))]) (h:=Zg Zp he1030)) (Zb.u 1 (Zw (Zq (sz:=4) (off:=2) (cs:=[.int .i64 e1030.Per]) (r:=iv e1030.Per) Zp he1030)) Zb.f)))) (tq ?_)
   refine sq ?_
   obtain ⟨r1031,hr1031,h⟩:=bs h
   obtain ⟨H1032,its1033,hvr1031,hT,hFr1031⟩:=hy_ (ZJ.mk e516 j1017.1 j1017.2.1 j1017.2.2 (w64 (c0_.Size * e1030.Per))) g9 r1031 H5 its4 hT (Fp.tail (own:=[.cel k0_ (Ze c0_),.cel k1_ [iv c1_],.cel k2_ (Za c2_),.cel k3_ (Zn c3_)]) (its:=its4) hH) hr1031
   replace hH:Fp H H1032 (.cel k0_ (Ze c0_) :: .cel k1_ [iv c1_] :: .cel k2_ (Za c2_) :: .cel k3_ (Zn c3_)::its) (.cel k0_ (Ze c0_) :: .cel k1_ [iv c1_] :: .cel k2_ (Za c2_) :: .cel k3_ (Zn c3_)::its1033):=Fp.callT (own:=[.cel k0_ (Ze c0_),.cel k1_ [iv c1_],.cel k2_ (Za c2_),.cel k3_ (Zn c3_)]) (its:=its4) hH hFr1031
   refine rg (Zb.v 2 (ZmX (H:=H5) (id:=yid_) (ys:=[.agg [iv e516,iv j1017.1,iv j1017.2.1,iv j1017.2.2,iv (w64 (c0_.Size * e1030.Per))]]) (by kernel_rfl) (by kernel_rfl) (by kernel_rfl) (by kernel_rfl) hvr1031) Zb.f) (tq ?_)
   refine it h (fun hc1034 h => ?_) (fun hc1034 h => ?_)
   ·refine rt (br ?_)
    refine tr ?_
    obtain rfl:=Zc h
    exact ⟨_,rfl,rfl,⟨[],(by kernel_rfl),(by kernel_rfl),its1033,hT,Fp.at hH⟩⟩
   refine sk (bn ?_)
   refine tq (kq ?_)
   refine rg Zb.f ?_
   obtain rfl:=Zc h
   exact ⟨_,rfl,⟨its1033,H1032,(by show _=_;kernel_rfl),hT,Fp.at hH⟩⟩
  refine kq (xq ?_)
  refine tx ?_
  obtain rfl:=Zc h
  exact ⟨_,rfl,rfl,⟨its4,H5,(by show _=_;kernel_rfl),hT,Fp.at hH⟩⟩
 rintro e s hq
 rcases o1035 with p1036 | p1037
 ·dsimp only at h hq
  obtain ⟨rfl,hR⟩:=hq
  obtain ⟨its513,H514,rfl,hT,hH⟩:=hR
  replace hH:Fp H H514 (.cel k0_ (Ze c0_) :: .cel k1_ [iv c1_] :: .cel k2_ (Za c2_) :: .cel k3_ (Zn c3_)::its) (.cel k0_ (Ze c0_) :: .cel k1_ [iv c1_] :: .cel k2_ (Za c2_) :: .cel k3_ (Zn c3_)::its513):=hH
  refine bx ?_
  obtain rfl:=Zc h
  exact ⟨[],(by kernel_rfl),(by kernel_rfl),its513,hT,Fp.at hH⟩
 dsimp only at h hq
 obtain ⟨rfl,hq⟩:=hq
 refine br ?_
 obtain rfl:=Zc h
 exact hq
theorem Zih (N:Nat) (a0_:Zi) (a1_:Int) (r:Int) (h:Zft N a0_ a1_=some r):Zal Try.prog 47 [.agg (Za a0_),iv a1_] (iv r):=by
 unfold Zft at h
 have hH:HP ([]:List HO) []:=trivial
 refine ZF chk47 rfl rfl (Zv _ _ _ ?_) rfl
 refine sq (rg Zb.f ?_)
 refine tq (sq ?_)
 obtain ⟨e1,he1,h⟩:=bs h
 refine rg (Zb.u 4 (Zo (ys:=[Zh false a0_.Links,iv (w64 (Int.tdiv a1_ 2))]) (h:=Zg Zp he1)) (Zb.u 1 (Zq (sz:=4) (off:=2) (cs:=[.int .i64 e1.Per]) (r:=iv e1.Per) Zp he1) Zb.f)) (tq ?_)
 refine rt ?_
 obtain rfl:=Zc h
 exact ZC (by kernel_rfl)
theorem ZgW (N:Nat) (a0_:Zi) (a1_:Int) (r:Int) (h:ZdT N a0_ a1_=some r):Zal Try.prog 48 [.agg (Za a0_),iv a1_] (iv r):=by
 unfold ZdT at h
 have hH:HP ([]:List HO) []:=trivial
 refine ZF chk48 rfl rfl (Zv _ _ _ ?_) rfl
 refine sq (rg Zb.f ?_)
 refine tq (sq ?_)
 obtain ⟨e1,he1,h⟩:=bs h
 refine rg (Zb.u 4 (Zo (ys:=[Zh false a0_.Links,iv (w64 (Int.tdiv a1_ 2))]) (h:=Zg Zp he1)) (Zb.u 1 (Zq (sz:=4) (off:=3) (cs:=[.int .i64 e1.Delay]) (r:=iv e1.Delay) Zp he1) Zb.f)) (tq ?_)
 refine rt ?_
 obtain rfl:=Zc h
 exact ZC (by kernel_rfl)
theorem Zcz (N:Nat) (a0_:Zi) (a1_:Int) (r:Int) (h:ZbW N a0_ a1_=some r):Zal Try.prog 50 [.agg (Za a0_),iv a1_] (iv r):=by
 unfold ZbW at h
 have hH:HP ([]:List HO) []:=trivial
 refine ZF chk50 rfl rfl (Zv _ _ _ ?_) rfl
 refine sq (rg Zb.f ?_)
 refine tq (sq ?_)
 obtain ⟨e1,he1,h⟩:=bs h
 refine rg (Zb.u 4 (Zo (ys:=[Zh false a0_.Links,iv (w64 (Int.tdiv a1_ 2))]) (h:=Zg Zp he1)) (Zb.u 0 (Zq (sz:=4) (off:=0) (cs:=[.int .i64 e1.A,.int .i64 e1.B,.int .i64 e1.Per,.int .i64 e1.Delay]) (r:=.agg (ZR e1)) Zp he1) Zb.f)) (tq ?_)
 refine sq (sq ?_)
 refine rg Zb.f (tq ?_)
 refine it h (fun hc2 h => ?_) (fun hc2 h => ?_)
 ·refine sq (rg Zb.f ?_)
  refine tq (rt ?_)
  refine tr ?_
  obtain rfl:=Zc h
  exact ZC (by kernel_rfl)
 refine sk (tq ?_)
 refine kq (sq ?_)
 refine rg Zb.f (tq ?_)
 refine rt ?_
 obtain rfl:=Zc h
 exact ZC (by kernel_rfl)
theorem ZcQ (N:Nat) (a0_:Zi) (a1_:Int) (r:Int) (h:ZcK N a0_ a1_=some r):Zal Try.prog 51 [.agg (Za a0_),iv a1_] (iv r):=by
 unfold ZcK at h
 have hH:HP ([]:List HO) []:=trivial
 refine ZF chk51 rfl rfl (Zv _ _ _ ?_) rfl
 refine sq (rg Zb.f ?_)
 refine tq (sq ?_)
 obtain ⟨e1,he1,h⟩:=bs h
 refine rg (Zb.u 4 (Zo (ys:=[Zh false a0_.Links,iv (w64 (Int.tdiv a1_ 2))]) (h:=Zg Zp he1)) (Zb.u 0 (Zq (sz:=4) (off:=0) (cs:=[.int .i64 e1.A,.int .i64 e1.B,.int .i64 e1.Per,.int .i64 e1.Delay]) (r:=.agg (ZR e1)) Zp he1) Zb.f)) (tq ?_)
 refine sq (sq ?_)
 refine rg Zb.f (tq ?_)
 refine it h (fun hc2 h => ?_) (fun hc2 h => ?_)
 ·refine sq (rg Zb.f ?_)
  refine tq (rt ?_)
  refine tr ?_
  obtain rfl:=Zc h
  exact ZC (by kernel_rfl)
 refine sk (tq ?_)
 refine kq (sq ?_)
 refine rg Zb.f (tq ?_)
 refine rt ?_
 obtain rfl:=Zc h
 exact ZC (by kernel_rfl)
theorem ZkV (N:Nat) (a0_:Zi) (a1_:Int) (a2_:ZbN) (r:(List Bool)) (h:Zfk N a0_ a1_ a2_=some r):Zal Try.prog 55 [.agg (Za a0_),iv a1_,.agg (Zar a2_)] (s_eB false r):=by
 unfold Zfk at h
 have hH:HP ([]:List HO) []:=trivial
 refine ZF chk55 rfl rfl (Zv _ _ _ ?_) rfl
 refine sq (rg Zb.f ?_)
 refine tq (sq ?_)
 obtain ⟨l3,hl3,h⟩:=bs h
 obtain ⟨a1,H2,ha1,hH2,ha1b,hH⟩:=HP.make eB hH hl3
 replace hH:HP H2 [.arr a1 1 false (List.map eB l3)]:=hH
 have hfa1:=Zu (HP.get hH 0 rfl)
 refine rgS ⟨[(1,iv a1_),(3,.loc 3 0),(5,.loc 5 0),(7,a1)],[(3,(Za a0_)),(5,(Zar a2_))],H2⟩ (Zb.h 2 (Zi6 (H:=[]) (zero:=[.bool false]) (bytes:=1) (by kernel_rfl) (by kernel_rfl) (by kernel_rfl) ha1 hH2 ha1b) Zb.f) (by rcases hfa1 with ha1e | ⟨_,_,ha1e⟩<;>subst ha1e<;>kernel_rfl) ?_
 refine tq (sq ?_)
 obtain ⟨e4,he4,h⟩:=bs h
 obtain ⟨id5,ver6,_,hid5f,hid5,hid5a,hid5v⟩:=HP.elem (k:=0) (a:=a1) (sz:=1) (frz:=false) eB hH rfl he4
 obtain ⟨H7,hH7,hH⟩:=HP.setRow (k:=0) (off:=0) (cs:=[bv true]) (ps:=[.bool true]) (e':=true) eB hH rfl hid5a hid5 (hid5f rfl) he4 (by kernel_rfl) (by kernel_rfl)
 replace hH:HP H7 [.arr a1 1 false (List.map eB (List.set l3 (Int.toNat a1_) true))]:=hH
 refine rgS ⟨[(3,.loc 3 0),(5,.loc 5 0),(7,a1)],[(3,(Za a0_)),(5,(Zar a2_))],H7⟩ (Zb.u 2 (Zo (ys:=[a1,iv a1_]) (by rcases hfa1 with ha1e | ⟨_,_,ha1e⟩<;>subst ha1e<;>kernel_rfl) (hid5v .i64)) (Zb.o 0 (ZaD (H:=H2) (v:=bv true) (hw:=hH7)) Zb.f)) (by rcases hfa1 with ha1e | ⟨_,_,ha1e⟩<;>subst ha1e<;>kernel_rfl) ?_
 refine tq (sq ?_)
 refine sq (rgS ⟨[(3,.loc 3 0),(5,.loc 5 0),(7,a1),(17,iv a0_.Nodes),(18,iv 0)],[(3,(Za a0_)),(5,(Zar a2_))],H7⟩ Zb.f (by rcases hfa1 with ha1e | ⟨_,_,ha1e⟩<;>subst ha1e<;>kernel_rfl) ?_)
 refine tq (bk ?_)
 obtain ⟨o1546,ho1546,h⟩:=bs h
 refine Z8 ((ZT (fun (x:Int × (List Bool)) s=>∃ (a8:AV) (H9:List HO),s=⟨[(3,.loc 3 0),(5,.loc 5 0),(7,a8),(17,iv a0_.Nodes),(18,iv x.1)],[(3,(Za a0_)),(5,(Zar a2_))],H9⟩∧HP H9 [.arr a8 1 false (List.map eB x.2)]) (fun x:Int × (List Bool)=>ZbC N a0_ a2_ x.1 x.2) (fun (p:(List Bool)) e s=>e = .exit 0∧(∃ (a512:AV) (H513:List HO),s=⟨[(7,a512)],[],H513⟩∧HP H513 [.arr a512 1 false (List.map eB p)])) ?_ N _ o1546 _ ho1546 ⟨a1,H7,(by show _=_;rcases hfa1 with ha1e | ⟨_,_,ha1e⟩<;>subst ha1e<;>kernel_rfl),(HP.pick hH [0] rfl)⟩).mono ?_)
 ·clear h ho1546
  rintro ⟨i10,l11⟩ o s h hR
  obtain ⟨a8,H9,rfl,hH⟩:=hR
  replace hH:HP H9 [.arr a8 1 false (List.map eB l11)]:=hH
  have hfa8:=Zu (HP.get hH 0 rfl)
  replace h:ZbC N a0_ a2_ i10 l11=some o:=h
  unfold ZbC at h
  refine sq (rgS ⟨[(3,.loc 3 0),(5,.loc 5 0),(7,a8),(17,iv a0_.Nodes),(18,iv i10),(19,bv (decide (i10<a0_.Nodes)))],[(3,(Za a0_)),(5,(Zar a2_))],H9⟩ Zb.f (by rcases hfa8 with ha8e | ⟨_,_,ha8e⟩<;>subst ha8e<;>kernel_rfl) ?_)
  refine tq (sq ?_)
  refine it h (fun hc514 h => ?_) (fun hc514 h => ?_)
  ·refine sk (tq ?_)
   refine kq (sq ?_)
   refine bk (sq ?_)
   refine rgS ⟨[(3,.loc 3 0),(5,.loc 5 0),(7,a8),(17,iv a0_.Nodes),(18,iv i10),(21,Zh false a0_.Links),(22,iv ((List.length a0_.Links:Nat):Int)),(23,iv 0)],[(3,(Za a0_)),(5,(Zar a2_))],H9⟩ (Zb.u 2 (Zo (ys:=[Zh false a0_.Links]) (h:=ZB Zp)) Zb.f) (by rcases hfa8 with ha8e | ⟨_,_,ha8e⟩<;>subst ha8e<;>kernel_rfl) ?_
   refine tq (bk ?_)
   obtain ⟨o1545,ho1545,h⟩:=bs h
   refine Z8 ((ZT (fun (x:Int × (List Bool)) s=>∃ (a515:AV) (H516:List HO),s=⟨[(3,.loc 3 0),(5,.loc 5 0),(7,a515),(17,iv a0_.Nodes),(18,iv i10),(21,Zh false a0_.Links),(22,iv ((List.length a0_.Links:Nat):Int)),(23,iv x.1)],[(3,(Za a0_)),(5,(Zar a2_))],H516⟩∧HP H516 [.arr a515 1 false (List.map eB x.2)]) (fun x:Int × (List Bool)=>Zbk N a0_ a2_ x.1 x.2) (fun (p:(List Bool)) e s=>e = .exit 2∧(∃ (a1019:AV) (H1020:List HO),s=⟨[(3,.loc 3 0),(5,.loc 5 0),(7,a1019),(17,iv a0_.Nodes),(18,iv i10)],[(3,(Za a0_)),(5,(Zar a2_))],H1020⟩∧HP H1020 [.arr a1019 1 false (List.map eB p)])) ?_ N _ o1545 _ ho1545 ⟨a8,H9,(by show _=_;rcases hfa8 with ha8e | ⟨_,_,ha8e⟩<;>subst ha8e<;>kernel_rfl),(HP.pick hH [0] rfl)⟩).mono ?_)
   ·clear h ho1545
    rintro ⟨i517,l518⟩ o s h hR
    obtain ⟨a515,H516,rfl,hH⟩:=hR
    replace hH:HP H516 [.arr a515 1 false (List.map eB l518)]:=hH
    have hfa515:=Zu (HP.get hH 0 rfl)
    replace h:Zbk N a0_ a2_ i517 l518=some o:=h
    unfold Zbk at h
    refine sq (rgS ⟨[(3,.loc 3 0),(5,.loc 5 0),(7,a515),(17,iv a0_.Nodes),(18,iv i10),(21,Zh false a0_.Links),(22,iv ((List.length a0_.Links:Nat):Int)),(23,iv i517),(24,bv (decide (i517<((List.length a0_.Links:Nat):Int))))],[(3,(Za a0_)),(5,(Zar a2_))],H516⟩ Zb.f (by rcases hfa515 with ha515e | ⟨_,_,ha515e⟩<;>subst ha515e<;>kernel_rfl) ?_)
    refine tq (sq ?_)
    refine it h (fun hc1021 h => ?_) (fun hc1021 h => ?_)
    ·refine sk (tq ?_)
     refine kq ?_
     obtain ⟨j1524,hj1524,h⟩:=bs h
     refine Zcu [3,5,7,17,18,21,22,23] (fun s=>∃ (a1522:AV) (H1523:List HO),s=⟨[(3,.loc 3 0),(5,.loc 5 0),(7,a1522),(17,iv a0_.Nodes),(18,iv i10),(21,Zh false a0_.Links),(22,iv ((List.length a0_.Links:Nat):Int)),(23,iv i517)],[(3,(Za a0_)),(5,(Zar a2_))],H1523⟩∧HP H1523 [.arr a1522 1 false (List.map eB j1524)]) ?_ ?_
     ·clear h
      have h:=hj1524
      refine bk (sq ?_)
      obtain ⟨e1525,he1525,h⟩:=bs h
      refine rgS ⟨[(3,.loc 3 0),(5,.loc 5 0),(7,a515),(8,iv i517),(9,.loc 9 0),(17,iv a0_.Nodes),(18,iv i10),(21,Zh false a0_.Links),(22,iv ((List.length a0_.Links:Nat):Int)),(23,iv i517)],[(3,(Za a0_)),(5,(Zar a2_)),(9,(ZR e1525))],H516⟩ (Zb.u 1 (Zo (ys:=[Zh false a0_.Links,iv i517]) (h:=Zg Zp he1525)) (Zb.u 0 (Zq (sz:=4) (off:=0) (cs:=[.int .i64 e1525.A,.int .i64 e1525.B,.int .i64 e1525.Per,.int .i64 e1525.Delay]) (r:=.agg (ZR e1525)) Zp he1525) (Zb.f (h:=(by rcases hfa515 with ha515e | ⟨_,_,ha515e⟩<;>subst ha515e<;>kernel_rfl))))) (by rcases hfa515 with ha515e | ⟨_,_,ha515e⟩<;>subst ha515e<;>kernel_rfl) ?_
      refine tq (sq ?_)
      obtain ⟨j1535,hj,h⟩:=bs h
      refine rqR (fun s=>s=⟨[(3,.loc 3 0),(5,.loc 5 0),(7,a515),(9,.loc 9 0),(17,iv a0_.Nodes),(18,iv i10),(21,Zh false a0_.Links),(22,iv ((List.length a0_.Links:Nat):Int)),(23,iv i517),(44,bv j1535)],[(3,(Za a0_)),(5,(Zar a2_)),(9,(ZR e1525))],H516⟩) ?_ ?_
      ·clear h
       obtain ⟨e1526,he1526,hj⟩:=bs hj
       refine (EP.u 1 (Zo (ys:=[.loc 5 0,iv i517]) (h:=Zly (l:=a2_.l) he1526 rfl)) (EP.o 0 (Zns (t:=5) (off:=0) (cs:=(Zar a2_)) (l:=a2_.l) (fun x=>bv x) [] [] he1526 (by kernel_rfl) (by kernel_rfl) rfl rfl) ?_))
       rcases Zt hj with ⟨hc1527,hj⟩ | ⟨hc1534,hj⟩
       ·refine (EP.u 0 (Zj (c:=(!e1526)) (h:=hc1527)) ?_)
        obtain ⟨e1528,he1528,hj⟩:=bs hj
        obtain ⟨id1529,ver1530,_,hid1529f,hid1529,hid1529a,hid1529v⟩:=HP.elem (k:=0) (a:=a515) (sz:=1) (frz:=false) eB hH rfl he1528
        refine (EP.u 4 (Zo (ys:=[a515,iv e1525.A]) (by rcases hfa515 with ha515e | ⟨_,_,ha515e⟩<;>subst ha515e<;>kernel_rfl) (hid1529v .i64)) (EP.u 0 (Zw (ZbD (H:=H516) (off:=0) (cs:=[.bool e1528]) (r:=bv e1528) eB he1528 hid1529)) ?_))
        obtain ⟨e1531,he1531,hj⟩:=bs hj
        obtain ⟨id1532,ver1533,_,hid1532f,hid1532,hid1532a,hid1532v⟩:=HP.elem (k:=0) (a:=a515) (sz:=1) (frz:=false) eB hH rfl he1531
        obtain rfl:=Zc hj
        exact (EP.u 3 (Zo (ys:=[a515,iv e1525.B]) (by rcases hfa515 with ha515e | ⟨_,_,ha515e⟩<;>subst ha515e<;>kernel_rfl) (hid1532v .i64)) (EP.u 0 (Zw (ZbD (H:=H516) (off:=0) (cs:=[.bool e1531]) (r:=bv e1531) eB he1531 hid1532)) (EP.f (by show _=_;rcases hfa515 with ha515e | ⟨_,_,ha515e⟩<;>subst ha515e<;>kernel_rfl))))
       obtain rfl:=Zc hj
       exact (EP.u 0 (Zj (c:=(!e1526)) (h:=hc1534)) (EP.f (by show _=_;rcases hfa515 with ha515e | ⟨_,_,ha515e⟩<;>subst ha515e<;>kernel_rfl)))
      clear hj
      rintro s hR
      obtain rfl:=hR
      refine tq (it h (fun hc1536 h => ?_) (fun hc1536 h => ?_))
      ·obtain ⟨e1537,he1537,h⟩:=bs h
       obtain ⟨id1538,ver1539,_,hid1538f,hid1538,hid1538a,hid1538v⟩:=HP.elem (k:=0) (a:=a515) (sz:=1) (frz:=false) eB hH rfl he1537
       obtain ⟨H1540,hH1540,hH⟩:=HP.setRow (k:=0) (off:=0) (cs:=[bv true]) (ps:=[.bool true]) (e':=true) eB hH rfl hid1538a hid1538 (hid1538f rfl) he1537 (by kernel_rfl) (by kernel_rfl)
       replace hH:HP H1540 [.arr a515 1 false (List.map eB (List.set l518 (Int.toNat e1525.A) true))]:=hH
       obtain ⟨e1541,he1541,h⟩:=bs h
       obtain ⟨id1542,ver1543,_,hid1542f,hid1542,hid1542a,hid1542v⟩:=HP.elem (k:=0) (a:=a515) (sz:=1) (frz:=false) eB hH rfl he1541
       obtain ⟨H1544,hH1544,hH⟩:=HP.setRow (k:=0) (off:=0) (cs:=[bv true]) (ps:=[.bool true]) (e':=true) eB hH rfl hid1542a hid1542 (hid1542f rfl) he1541 (by kernel_rfl) (by kernel_rfl)
       replace hH:HP H1544 [.arr a515 1 false (List.map eB (List.set (List.set l518 (Int.toNat e1525.A) true) (Int.toNat e1525.B) true))]:=hH
       refine rqS ⟨[(3,.loc 3 0),(5,.loc 5 0),(7,a515),(17,iv a0_.Nodes),(18,iv i10),(21,Zh false a0_.Links),(22,iv ((List.length a0_.Links:Nat):Int)),(23,iv i517)],[(3,(Za a0_)),(5,(Zar a2_))],H1544⟩ (Zb.u 6 (Zo (ys:=[a515,iv e1525.A]) (by rcases hfa515 with ha515e | ⟨_,_,ha515e⟩<;>subst ha515e<;>kernel_rfl) (hid1538v .i64)) (Zb.o 0 (ZlD (ZaD (H:=H516) (v:=bv true) (hw:=hH1540)) (by kernel_rfl)) (Zb.u 0 (Zo (ys:=[a515,iv e1525.B]) (by rcases hfa515 with ha515e | ⟨_,_,ha515e⟩<;>subst ha515e<;>kernel_rfl) (hid1542v .i64)) (Zb.o 0 (ZlD (ZaD (H:=H1540) (v:=bv true) (hw:=hH1544)) (by kernel_rfl)) Zb.f)))) (by rcases hfa515 with ha515e | ⟨_,_,ha515e⟩<;>subst ha515e<;>kernel_rfl) ?_
       refine bn ?_
       obtain rfl:=Zc h
       exact ⟨rfl,⟨a515,H1544,(by show _=_;rcases hfa515 with ha515e | ⟨_,_,ha515e⟩<;>subst ha515e<;>kernel_rfl),(HP.pick hH [0] rfl)⟩⟩
      refine sk (bn ?_)
      obtain rfl:=Zc h
      exact ⟨rfl,⟨a515,H516,(by show _=_;rcases hfa515 with ha515e | ⟨_,_,ha515e⟩<;>subst ha515e<;>kernel_rfl),(HP.pick hH [0] rfl)⟩⟩
     clear hj1524
     rintro s hR
     obtain ⟨a1522,H1523,rfl,hH⟩:=hR
     replace hH:HP H1523 [.arr a1522 1 false (List.map eB j1524)]:=hH
     have hfa1522:=Zu (HP.get hH 0 rfl)
     refine rgS ⟨[(3,.loc 3 0),(5,.loc 5 0),(7,a1522),(17,iv a0_.Nodes),(18,iv i10),(21,Zh false a0_.Links),(22,iv ((List.length a0_.Links:Nat):Int)),(23,iv (w64 (i517+1)))],[(3,(Za a0_)),(5,(Zar a2_))],H1523⟩ Zb.f (by rcases hfa1522 with ha1522e | ⟨_,_,ha1522e⟩<;>subst ha1522e<;>kernel_rfl) ?_
     obtain rfl:=Zc h
     exact ⟨_,rfl,⟨a1522,H1523,(by show _=_;rcases hfa1522 with ha1522e | ⟨_,_,ha1522e⟩<;>subst ha1522e<;>kernel_rfl),(HP.pick hH [0] rfl)⟩⟩
    refine kq (xq ?_)
    refine tx ?_
    obtain rfl:=Zc h
    exact ⟨_,rfl,rfl,⟨a515,H516,(by show _=_;rcases hfa515 with ha515e | ⟨_,_,ha515e⟩<;>subst ha515e<;>kernel_rfl),(HP.pick hH [0] rfl)⟩⟩
   rintro e s hq
   obtain ⟨rfl,hR⟩:=hq
   obtain ⟨a1019,H1020,rfl,hH⟩:=hR
   replace hH:HP H1020 [.arr a1019 1 false (List.map eB o1545)]:=hH
   have hfa1019:=Zu (HP.get hH 0 rfl)
   refine bx (bn ?_)
   refine tq (rgS ⟨[(3,.loc 3 0),(5,.loc 5 0),(7,a1019),(17,iv a0_.Nodes),(18,iv (w64 (i10+1)))],[(3,(Za a0_)),(5,(Zar a2_))],H1020⟩ Zb.f (by rcases hfa1019 with ha1019e | ⟨_,_,ha1019e⟩<;>subst ha1019e<;>kernel_rfl) ?_)
   obtain rfl:=Zc h
   exact ⟨_,rfl,⟨a1019,H1020,(by show _=_;rcases hfa1019 with ha1019e | ⟨_,_,ha1019e⟩<;>subst ha1019e<;>kernel_rfl),(HP.pick hH [0] rfl)⟩⟩
  refine kq (xq ?_)
  refine tx ?_
  obtain rfl:=Zc h
  exact ⟨_,rfl,rfl,⟨a8,H9,(by show _=_;rcases hfa8 with ha8e | ⟨_,_,ha8e⟩<;>subst ha8e<;>kernel_rfl),(HP.pick hH [0] rfl)⟩⟩
 rintro e s hq
 obtain ⟨rfl,hR⟩:=hq
 obtain ⟨a512,H513,rfl,hH⟩:=hR
 replace hH:HP H513 [.arr a512 1 false (List.map eB o1546)]:=hH
 have hfa512:=Zu (HP.get hH 0 rfl)
 refine bx (tq ?_)
 refine sq (rgS ⟨[(6,a512)],[],H513⟩ Zb.f (by rcases hfa512 with ha512e | ⟨_,_,ha512e⟩<;>subst ha512e<;>kernel_rfl) ?_)
 refine tq (rt ?_)
 obtain rfl:=Zc h
 exact ZdO (H:=H513) (ys:=[a512]) (xs:=[.p (.sl 1 false (List.map eB o1546))]) (by rcases hfa512 with ha512e | ⟨_,_,ha512e⟩<;>subst ha512e<;>kernel_rfl) (by rcases hfa512 with ha512e | ⟨_,_,ha512e⟩<;>subst ha512e<;>kernel_rfl) (ZaU (HP.pure (k:=0) (frz:=false) eB hH rfl).2 ZbM) (by kernel_rfl)
theorem ZhQ (N:Nat) (c0_:Zm) (k0_:Nat) (H:List HO) (hH:HP H [.cel k0_ (Ze c0_)]) (r:Bool) (h:Zd1 N c0_=some r):ZbG Try.prog 56 [.ptr k0_ 0] H (bv r) H:=by
 unfold Zd1 at h
 refine ZbB chk56 rfl rfl rfl (Zv _ _ _ ?_)
 refine sq (rg Zb.f ?_)
 refine tq (sq ?_)
 have hlc1:=HP.get hH 0 rfl
 obtain ⟨r2,hr2,h⟩:=bs h
 refine rg (Zb.u 1 (ZA (H:=H) (id:=k0_) (off:=0) (cs:=(Ze c0_)) (c:=[iv c0_.Id]) (r:=iv c0_.Id) (hl:=hlc1)) (Zb.v 0 (Zs (hc:=Z9 N c0_.Id 1 4095 r2 hr2)) Zb.f)) ?_
 replace hH:HP H []:=HP.pick hH [] rfl
 refine tq (rt ?_)
 obtain rfl:=Zc h
 exact Za1 (by kernel_rfl) (by kernel_rfl)
theorem ZcW (N:Nat) (a0_:Zi) (a1_:Int) (r:Bool) (h:ZcC N a0_ a1_=some r):Zal Try.prog 58 [.agg (Za a0_),iv a1_] (bv r):=by
 unfold ZcC at h
 have hH:HP ([]:List HO) []:=trivial
 refine ZF chk58 rfl rfl (Zv _ _ _ ?_) rfl
 refine sq (rg Zb.f ?_)
 refine tq (sq ?_)
 obtain ⟨j5,hj,h⟩:=bs h
 refine rgR (fun s=>s=⟨[(4,bv j5)],[],[]⟩) ?_ ?_
 ·clear h
  obtain ⟨r1,hr1,hj⟩:=bs hj
  rcases Zt hj with ⟨hc2,hj⟩ | ⟨hc4,hj⟩
  ·refine (EP.h 4 (Zbs (by kernel_rfl) (Z9 N a1_ 0 (w64 (a0_.Nodes - 1)) r1 hr1) hc2) ?_)
   obtain ⟨e3,he3,hj⟩:=bs hj
   obtain rfl:=Zc hj
   exact (EP.u 4 (Zo (ys:=[s_eB false a0_.Station,iv a1_]) (h:=Zg eB he3)) (EP.u 0 (Zq (sz:=1) (off:=0) (cs:=[.bool e3]) (r:=bv e3) eB he3) (EP.f (by show _=_;kernel_rfl))))
  obtain rfl:=Zc hj
  exact (EP.h 4 (Zbs (by kernel_rfl) (Z9 N a1_ 0 (w64 (a0_.Nodes - 1)) r1 hr1) hc4) (EP.f (by show _=_;kernel_rfl)))
 clear hj
 rintro s hR
 obtain rfl:=hR
 refine tq (rt ?_)
 obtain rfl:=Zc h
 exact ZC (by kernel_rfl)
theorem ZhO (N:Nat) (c0_:Zm) (k0_:Nat) (H:List HO) (hH:HP H [.cel k0_ (Ze c0_)]) (r:Bool) (h:ZdZ N c0_=some r):ZbG Try.prog 59 [.ptr k0_ 0] H (bv r) H:=by
 unfold ZdZ at h
 refine ZbB chk59 rfl rfl rfl (Zv _ _ _ ?_)
 refine sq (rg Zb.f ?_)
 refine tq (sq ?_)
 have hlc1:=HP.get hH 0 rfl
 obtain ⟨r2,hr2,h⟩:=bs h
 refine rg (Zb.u 1 (ZA (H:=H) (id:=k0_) (off:=4) (cs:=(Ze c0_)) (c:=[iv c0_.Size]) (r:=iv c0_.Size) (hl:=hlc1)) (Zb.v 0 (Zs (hc:=Z9 N c0_.Size 84 1542 r2 hr2)) Zb.f)) ?_
 replace hH:HP H []:=HP.pick hH [] rfl
 refine tq (rt ?_)
 obtain rfl:=Zc h
 exact Za1 (by kernel_rfl) (by kernel_rfl)
theorem ZhN (N:Nat) (c0_:Zm) (k0_:Nat) (H:List HO) (hH:HP H [.cel k0_ (Ze c0_)]) (r:Bool) (h:ZdY N c0_=some r):ZbG Try.prog 60 [.ptr k0_ 0] H (bv r) H:=by
 unfold ZdY at h
 refine ZbB chk60 rfl rfl rfl (Zv _ _ _ ?_)
 refine sq (rg Zb.f ?_)
 refine tq (sq ?_)
 have hlc1:=HP.get hH 0 rfl
 obtain ⟨r2,hr2,h⟩:=bs h
 refine rg (Zb.u 1 (ZA (H:=H) (id:=k0_) (off:=8) (cs:=(Ze c0_)) (c:=[iv c0_.Deadline]) (r:=iv c0_.Deadline) (hl:=hlc1)) (Zb.v 0 (Zs (hc:=Z9 N c0_.Deadline 1 1099511627776 r2 hr2)) Zb.f)) ?_
 replace hH:HP H []:=HP.pick hH [] rfl
 refine tq (rt ?_)
 obtain rfl:=Zc h
 exact Za1 (by kernel_rfl) (by kernel_rfl)
theorem ZhL (N:Nat) (c0_:Zm) (k0_:Nat) (H:List HO) (hH:HP H [.cel k0_ (Ze c0_)]) (r:Bool) (h:ZdX N c0_=some r):ZbG Try.prog 63 [.ptr k0_ 0] H (bv r) H:=by
 unfold ZdX at h
 refine ZbB chk63 rfl rfl rfl (Zv _ _ _ ?_)
 refine sq (rg Zb.f ?_)
 refine tq (sq ?_)
 have hlc1:=HP.get hH 0 rfl
 obtain ⟨r2,hr2,h⟩:=bs h
 refine rg (Zb.u 1 (ZA (H:=H) (id:=k0_) (off:=9) (cs:=(Ze c0_)) (c:=[Zl false c0_.Routes]) (r:=Zl false c0_.Routes) (hl:=hlc1)) (Zb.u 0 (Zo (ys:=[Zl false c0_.Routes]) (h:=ZB (eSl 1 eI64))) (Zb.v 0 (Zs (hc:=Z9 N ((List.length c0_.Routes:Nat):Int) 1 2 r2 hr2)) Zb.f))) ?_
 replace hH:HP H []:=HP.pick hH [] rfl
 refine tq (rt ?_)
 obtain rfl:=Zc h
 exact Za1 (by kernel_rfl) (by kernel_rfl)
theorem ZaR (N:Nat) (a0_:Int) (a1_:Int) (a2_:Int) (r:Bool) (h:Zb0 N a0_ a1_ a2_=some r):Zal Try.prog 68 [iv a0_,iv a1_,iv a2_] (bv r):=by
 unfold Zb0 at h
 have hH:HP ([]:List HO) []:=trivial
 refine ZF chk68 rfl rfl (Zv _ _ _ ?_) rfl
 refine sq (rg Zb.f ?_)
 refine tq (sq ?_)
 refine rgX ⟨[(6,bv ((decide (a0_ ≥ a1_))&&(decide (a0_≤a2_))))],[],[]⟩ ?_ ?_
 ·rcases Bool.eq_false_or_eq_true (decide (a0_ ≥ a1_)) with hc1 | hc2
  ·exact (EP.u 2 (Zj (c:=(decide (a0_ ≥ a1_))) (h:=hc1)) (EP.f (by simp only [hc1];kernel_rfl)))
  exact (EP.u 2 (Zj (c:=(decide (a0_ ≥ a1_))) (h:=hc2)) (EP.f (by simp only [hc2];kernel_rfl)))
 refine tq (rt ?_)
 obtain rfl:=Zc h
 exact ZC (by kernel_rfl)
theorem ZfS (N:Nat) (a0_:Zi) (a1_:Int) (r:Bool) (h:ZbZ N a0_ a1_=some r):Zal Try.prog 69 [.agg (Za a0_),iv a1_] (bv r):=by
 unfold ZbZ at h
 have hH:HP ([]:List HO) []:=trivial
 refine ZF chk69 rfl rfl (Zv _ _ _ ?_) rfl
 refine sq (rg Zb.f ?_)
 refine tq (sq ?_)
 obtain ⟨j5,hj,h⟩:=bs h
 refine rgR (fun s=>s=⟨[(4,bv j5)],[],[]⟩) ?_ ?_
 ·clear h
  obtain ⟨r1,hr1,hj⟩:=bs hj
  rcases Zt hj with ⟨hc2,hj⟩ | ⟨hc4,hj⟩
  ·refine (EP.h 4 (Zbs (by kernel_rfl) (ZaR N a1_ 0 (w64 (a0_.Nodes - 1)) r1 hr1) hc2) ?_)
   obtain ⟨e3,he3,hj⟩:=bs hj
   obtain rfl:=Zc hj
   exact (EP.u 4 (Zo (ys:=[s_eB false a0_.Station,iv a1_]) (h:=Zg eB he3)) (EP.u 0 (Zq (sz:=1) (off:=0) (cs:=[.bool e3]) (r:=bv e3) eB he3) (EP.f (by show _=_;kernel_rfl))))
  obtain rfl:=Zc hj
  exact (EP.h 4 (Zbs (by kernel_rfl) (ZaR N a1_ 0 (w64 (a0_.Nodes - 1)) r1 hr1) hc4) (EP.f (by show _=_;kernel_rfl)))
 clear hj
 rintro s hR
 obtain rfl:=hR
 refine tq (rt ?_)
 obtain rfl:=Zc h
 exact ZC (by kernel_rfl)
theorem Zho (N:Nat) (a0_:Zi) (a1_:Int) (r:Bool) (h:Zex N a0_ a1_=some r):Zal Try.prog 71 [.agg (Za a0_),iv a1_] (bv r):=by
 unfold Zex at h
 have hH:HP ([]:List HO) []:=trivial
 refine ZF chk71 rfl rfl (Zv _ _ _ ?_) rfl
 refine sq (rg Zb.f ?_)
 refine tq (sq ?_)
 refine rgX ⟨[(4,bv ((decide (a1_ ≥ 0))&&(decide (a1_<a0_.Nodes))))],[],[]⟩ ?_ ?_
 ·rcases Bool.eq_false_or_eq_true (decide (a1_ ≥ 0)) with hc1 | hc2
  ·exact (EP.u 1 (Zj (c:=(decide (a1_ ≥ 0))) (h:=hc1)) (EP.f (by simp only [hc1];kernel_rfl)))
  exact (EP.u 1 (Zj (c:=(decide (a1_ ≥ 0))) (h:=hc2)) (EP.f (by simp only [hc2];kernel_rfl)))
 refine tq (rt ?_)
 obtain rfl:=Zc h
 exact ZC (by kernel_rfl)
theorem ZfD (N:Nat) (a0_:(List Int)) (a1_:Int) (r:Bool) (h:Ze3 N a0_ a1_=some r):Zal Try.prog 72 [Zk false a0_,iv a1_] (bv r):=by
 unfold Ze3 at h
 have hH:HP ([]:List HO) []:=trivial
 refine ZF chk72 rfl rfl (Zv _ _ _ ?_) rfl
 refine sq (rg Zb.f ?_)
 refine tq (sq ?_)
 refine sq (rg Zb.f ?_)
 refine tq (bk ?_)
 obtain ⟨o505,ho505,h⟩:=bs h
 refine Z8 ((ZT (fun (x:Int) s=>s=⟨[(0,Zk false a0_),(1,iv a1_),(5,iv x)],[],[]⟩) (fun x:Int=>Zdl N a0_ a1_ x) (fun (p:(Unit) ⊕ (Bool)) e s=>match p with | (.inl p)=>e = .exit 0∧(s=⟨[],[],[]⟩) | (.inr p)=>e = .ret∧∃ xs,resL s i72.res=some xs∧Zbr xs=bv p) ?_ N _ o505 _ ho505 (by show _=_;kernel_rfl)).mono ?_)
 ·clear h ho505
  rintro i1 o s h hR
  obtain rfl:=hR
  replace h:Zdl N a0_ a1_ i1=some o:=h
  unfold Zdl at h
  refine sq (sq ?_)
  refine rg (Zb.u 2 (Zo (ys:=[Zk false a0_]) (h:=ZB eI64)) Zb.f) (tq ?_)
  refine it h (fun hc502 h => ?_) (fun hc502 h => ?_)
  ·refine sk (tq ?_)
   refine kq (sq ?_)
   refine bk (sq ?_)
   obtain ⟨e503,he503,h⟩:=bs h
   refine rg (Zb.u 2 (Zo (ys:=[Zk false a0_,iv i1]) (h:=Zg eI64 he503)) (Zb.u 0 (Zq (sz:=1) (off:=0) (cs:=[.int .i64 e503]) (r:=iv e503) eI64 he503) Zb.f)) (tq ?_)
   refine it h (fun hc504 h => ?_) (fun hc504 h => ?_)
   ·refine sq (rg Zb.f ?_)
    refine tq (rt ?_)
    refine br (tr ?_)
    obtain rfl:=Zc h
    exact ⟨_,rfl,rfl,ZC (by kernel_rfl)⟩
   refine sk (bn ?_)
   refine tq (kq ?_)
   refine rg Zb.f ?_
   obtain rfl:=Zc h
   exact ⟨_,rfl,(by show _=_;kernel_rfl)⟩
  refine kq (xq ?_)
  refine tx ?_
  obtain rfl:=Zc h
  exact ⟨_,rfl,rfl,(by show _=_;kernel_rfl)⟩
 rintro e s hq
 rcases o505 with p506 | p507
 ·dsimp only at h hq
  obtain ⟨rfl,hR⟩:=hq
  obtain rfl:=hR
  refine bx (tq ?_)
  refine sq (rg Zb.f ?_)
  refine tq (rt ?_)
  obtain rfl:=Zc h
  exact ZC (by kernel_rfl)
 dsimp only at h hq
 obtain ⟨rfl,hq⟩:=hq
 refine br (tr ?_)
 obtain rfl:=Zc h
 exact hq
theorem ZfU (N:Nat) (a0_:(List Int)) (a1_:(List Int)) (r:Bool) (h:Zc1 N a0_ a1_=some r):Zal Try.prog 74 [Zk false a0_,Zk false a1_] (bv r):=by
 unfold Zc1 at h
 have hH:HP ([]:List HO) []:=trivial
 refine ZF chk74 rfl rfl (Zv _ _ _ ?_) rfl
 refine sq (rg Zb.f ?_)
 refine tq (sq ?_)
 refine sq (rg Zb.f ?_)
 refine tq (bk ?_)
 obtain ⟨o506,ho506,h⟩:=bs h
 refine Z8 ((ZT (fun (x:Int) s=>s=⟨[(0,Zk false a0_),(1,Zk false a1_),(5,iv x)],[],[]⟩) (fun x:Int=>Zbx N a0_ a1_ x) (fun (p:(Unit) ⊕ (Bool)) e s=>match p with | (.inl p)=>e = .exit 0∧(s=⟨[],[],[]⟩) | (.inr p)=>e = .ret∧∃ xs,resL s i74.res=some xs∧Zbr xs=bv p) ?_ N _ o506 _ ho506 (by show _=_;kernel_rfl)).mono ?_)
 ·clear h ho506
  rintro i1 o s h hR
  obtain rfl:=hR
  replace h:Zbx N a0_ a1_ i1=some o:=h
  unfold Zbx at h
  refine sq (sq ?_)
  refine rg (Zb.u 2 (Zo (ys:=[Zk false a0_]) (h:=ZB eI64)) Zb.f) (tq ?_)
  refine it h (fun hc502 h => ?_) (fun hc502 h => ?_)
  ·refine sk (tq ?_)
   refine kq (sq ?_)
   refine bk (sq ?_)
   obtain ⟨e503,he503,h⟩:=bs h
   obtain ⟨r504,hr504,h⟩:=bs h
   refine rg (Zb.u 3 (Zo (ys:=[Zk false a0_,iv i1]) (h:=Zg eI64 he503)) (Zb.u 0 (Zq (sz:=1) (off:=0) (cs:=[.int .i64 e503]) (r:=iv e503) eI64 he503) (Zb.v 0 (Zs (hc:=ZfD N a1_ e503 r504 hr504)) Zb.f))) (tq ?_)
   refine it h (fun hc505 h => ?_) (fun hc505 h => ?_)
   ·refine sq (rg Zb.f ?_)
    refine tq (rt ?_)
    refine br (tr ?_)
    obtain rfl:=Zc h
    exact ⟨_,rfl,rfl,ZC (by kernel_rfl)⟩
   refine sk (bn ?_)
   refine tq (kq ?_)
   refine rg Zb.f ?_
   obtain rfl:=Zc h
   exact ⟨_,rfl,(by show _=_;kernel_rfl)⟩
  refine kq (xq ?_)
  refine tx ?_
  obtain rfl:=Zc h
  exact ⟨_,rfl,rfl,(by show _=_;kernel_rfl)⟩
 rintro e s hq
 rcases o506 with p507 | p508
 ·dsimp only at h hq
  obtain ⟨rfl,hR⟩:=hq
  obtain rfl:=hR
  refine bx (tq ?_)
  refine sq (rg Zb.f ?_)
  refine tq (rt ?_)
  obtain rfl:=Zc h
  exact ZC (by kernel_rfl)
 dsimp only at h hq
 obtain ⟨rfl,hq⟩:=hq
 refine br (tr ?_)
 obtain rfl:=Zc h
 exact hq
theorem Zdb (N:Nat) (a0_:Zi) (a1_:(List Int)) (r:(List Int)) (h:Zcx N a0_ a1_=some r):Zal Try.prog 75 [.agg (Za a0_),Zk false a1_] (Zk false r):=by
 unfold Zcx at h
 have hH:HP ([]:List HO) []:=trivial
 refine ZF chk75 rfl rfl (Zv _ _ _ ?_) rfl
 refine sq (rg Zb.f ?_)
 refine tq (sq ?_)
 obtain ⟨e1,he1,h⟩:=bs h
 obtain ⟨r2,hr2,h⟩:=bs h
 obtain ⟨a3,H4,ha3,hH4,hH⟩:=HP.lit 1 [r2] eI64 hH
 replace hH:HP H4 [.arr a3 1 false (List.map eI64 [r2])]:=hH
 have hfa3:=Zu (HP.get hH 0 rfl)
 refine rqS ⟨[(1,Zk false a1_),(2,.loc 2 0),(5,a3)],[(2,(Za a0_))],H4⟩ (Zb.u 2 (Zo (ys:=[Zk false a1_,iv 0]) (h:=Zg eI64 he1)) (Zb.u 0 (Zw (Zq (sz:=1) (off:=0) (cs:=[.int .i64 e1]) (r:=iv e1) eI64 he1)) (Zb.v 0 (Zs (hc:=Zcz N a0_ e1 r2 hr2)) (Zb.h 0 (ZiI (H:=[]) (ys:=[iv r2]) (rows:=(List.map eI64 [r2])) (by kernel_rfl) (by kernel_rfl) (by kernel_rfl) ha3 hH4) Zb.f)))) (by rcases hfa3 with ha3e | ⟨_,_,ha3e⟩<;>subst ha3e<;>kernel_rfl) ?_
 refine tq (sq ?_)
 refine sq (rgS ⟨[(1,Zk false a1_),(2,.loc 2 0),(5,a3),(6,iv 0)],[(2,(Za a0_))],H4⟩ Zb.f (by rcases hfa3 with ha3e | ⟨_,_,ha3e⟩<;>subst ha3e<;>kernel_rfl) ?_)
 refine tq (bk ?_)
 obtain ⟨o517,ho517,h⟩:=bs h
 refine Z8 ((ZT (fun (x:Int × (List Int)) s=>∃ (a5:AV) (H6:List HO),s=⟨[(1,Zk false a1_),(2,.loc 2 0),(5,a5),(6,iv x.1)],[(2,(Za a0_))],H6⟩∧HP H6 [.arr a5 1 false (List.map eI64 x.2)]) (fun x:Int × (List Int)=>Zbn N a0_ a1_ x.1 x.2) (fun (p:(List Int)) e s=>e = .exit 0∧(∃ (a509:AV) (H510:List HO),s=⟨[(5,a509)],[],H510⟩∧HP H510 [.arr a509 1 false (List.map eI64 p)])) ?_ N _ o517 _ ho517 ⟨a3,H4,(by show _=_;rcases hfa3 with ha3e | ⟨_,_,ha3e⟩<;>subst ha3e<;>kernel_rfl),(HP.pick hH [0] rfl)⟩).mono ?_)
 ·clear h ho517
  rintro ⟨i7,l8⟩ o s h hR
  obtain ⟨a5,H6,rfl,hH⟩:=hR
  replace hH:HP H6 [.arr a5 1 false (List.map eI64 l8)]:=hH
  have hfa5:=Zu (HP.get hH 0 rfl)
  replace h:Zbn N a0_ a1_ i7 l8=some o:=h
  unfold Zbn at h
  refine sq (sq ?_)
  refine rgS ⟨[(1,Zk false a1_),(2,.loc 2 0),(5,a5),(6,iv i7),(16,bv (decide (i7<((List.length a1_:Nat):Int))))],[(2,(Za a0_))],H6⟩ (Zb.u 2 (Zo (ys:=[Zk false a1_]) (h:=ZB eI64)) Zb.f) (by rcases hfa5 with ha5e | ⟨_,_,ha5e⟩<;>subst ha5e<;>kernel_rfl) ?_
  refine tq (it h (fun hc511 h => ?_) (fun hc511 h => ?_))
  ·refine sk (tq ?_)
   refine kq (sq ?_)
   refine bk ?_
   obtain ⟨e512,he512,h⟩:=bs h
   obtain ⟨r513,hr513,h⟩:=bs h
   obtain ⟨l516,hl516,h⟩:=bs h
   obtain ⟨a514,H515,ha514,hH⟩:=HP.app (k:=0) (a:=a5) (sz:=1) (frz:=false) eI64 hH rfl hl516
   replace hH:HP H515 [.arr a514 1 false (List.map eI64 l516)]:=hH
   have hfa514:=Zu (HP.get hH 0 rfl)
   refine rqS ⟨[(1,Zk false a1_),(2,.loc 2 0),(5,a514),(6,iv i7)],[(2,(Za a0_))],H515⟩ (Zb.u 4 (Zo (ys:=[Zk false a1_,iv i7]) (h:=Zg eI64 he512)) (Zb.u 0 (Zw (Zq (sz:=1) (off:=0) (cs:=[.int .i64 e512]) (r:=iv e512) eI64 he512)) (Zb.u 0 (Zaw (hc:=ZcQ N a0_ e512 r513 hr513)) (Zb.h 1 (ZdH (H:=H6) (a:=a5) (b:=Zk true [r513]) (by rcases hfa5 with ha5e | ⟨_,_,ha5e⟩<;>subst ha5e<;>kernel_rfl) (by rcases hfa5 with ha5e | ⟨_,_,ha5e⟩<;>subst ha5e<;>kernel_rfl) (by rcases hfa5 with ha5e | ⟨_,_,ha5e⟩<;>subst ha5e<;>kernel_rfl) (by rcases hfa5 with ha5e | ⟨_,_,ha5e⟩<;>subst ha5e<;>kernel_rfl) ha514) Zb.f)))) (by rcases hfa5 with ha5e | ⟨_,_,ha5e⟩<;>rcases hfa514 with ha514e | ⟨_,_,ha514e⟩<;>subst ha5e ha514e<;>kernel_rfl) ?_
   refine bn (tq ?_)
   refine rgS ⟨[(1,Zk false a1_),(2,.loc 2 0),(5,a514),(6,iv (w64 (i7+1)))],[(2,(Za a0_))],H515⟩ Zb.f (by rcases hfa514 with ha514e | ⟨_,_,ha514e⟩<;>subst ha514e<;>kernel_rfl) ?_
   obtain rfl:=Zc h
   exact ⟨_,rfl,⟨a514,H515,(by show _=_;rcases hfa514 with ha514e | ⟨_,_,ha514e⟩<;>subst ha514e<;>kernel_rfl),(HP.pick hH [0] rfl)⟩⟩
  refine kq (xq ?_)
  refine tx ?_
  obtain rfl:=Zc h
  exact ⟨_,rfl,rfl,⟨a5,H6,(by show _=_;rcases hfa5 with ha5e | ⟨_,_,ha5e⟩<;>subst ha5e<;>kernel_rfl),(HP.pick hH [0] rfl)⟩⟩
 rintro e s hq
 obtain ⟨rfl,hR⟩:=hq
 obtain ⟨a509,H510,rfl,hH⟩:=hR
 replace hH:HP H510 [.arr a509 1 false (List.map eI64 o517)]:=hH
 have hfa509:=Zu (HP.get hH 0 rfl)
 refine bx (tq ?_)
 refine sq (rgS ⟨[(4,a509)],[],H510⟩ Zb.f (by rcases hfa509 with ha509e | ⟨_,_,ha509e⟩<;>subst ha509e<;>kernel_rfl) ?_)
 refine tq (rt ?_)
 obtain rfl:=Zc h
 exact ZdO (H:=H510) (ys:=[a509]) (xs:=[.p (.sl 1 false (List.map eI64 o517))]) (by rcases hfa509 with ha509e | ⟨_,_,ha509e⟩<;>subst ha509e<;>kernel_rfl) (by rcases hfa509 with ha509e | ⟨_,_,ha509e⟩<;>subst ha509e<;>kernel_rfl) (ZaU (HP.pure (k:=0) (frz:=false) eI64 hH rfl).2 ZbM) (by kernel_rfl)
theorem ZeZ (N:Nat) (a0_:Zi) (a1_:Int) (r:Bool) (h:Zfl N a0_ a1_=some r):Zal Try.prog 77 [.agg (Za a0_),iv a1_] (bv r):=by
 unfold Zfl at h
 have hH:HP ([]:List HO) []:=trivial
 refine ZF chk77 rfl rfl (Zv _ _ _ ?_) rfl
 refine sq (rg Zb.f ?_)
 refine tq (sq ?_)
 refine rgX ⟨[(4,bv ((decide (a1_ ≥ 0))&&(decide (a1_<a0_.Nodes))))],[],[]⟩ ?_ ?_
 ·rcases Bool.eq_false_or_eq_true (decide (a1_ ≥ 0)) with hc1 | hc2
  ·exact (EP.u 1 (Zj (c:=(decide (a1_ ≥ 0))) (h:=hc1)) (EP.f (by simp only [hc1];kernel_rfl)))
  exact (EP.u 1 (Zj (c:=(decide (a1_ ≥ 0))) (h:=hc2)) (EP.f (by simp only [hc2];kernel_rfl)))
 refine tq (rt ?_)
 obtain rfl:=Zc h
 exact ZC (by kernel_rfl)
theorem ZiV (N:Nat) (a0_:Int) (c0_:Zi) (k0_:Nat) (H:List HO) (hH:HP H [.cel k0_ (Za c0_)]) (r:Bool) (h:ZeX N a0_ c0_=some r):ZbG Try.prog 78 [iv a0_,.ptr k0_ 0] H (bv r) H:=by
 unfold ZeX at h
 refine ZbB chk78 rfl rfl rfl (Zv _ _ _ ?_)
 refine sq (rg Zb.f ?_)
 refine tq (sq ?_)
 have hlc1:=HP.get hH 0 rfl
 obtain ⟨e2,he2,h⟩:=bs h
 refine rg (Zb.u 1 (ZA (H:=H) (id:=k0_) (off:=2) (cs:=(Za c0_)) (c:=[Zh false c0_.Links]) (r:=Zh false c0_.Links) (hl:=hlc1)) (Zb.u 1 (Zo (ys:=[Zh false c0_.Links,iv a0_]) (h:=Zg Zp he2)) (Zb.u 0 (Zq (sz:=4) (off:=0) (cs:=[.int .i64 e2.A,.int .i64 e2.B,.int .i64 e2.Per,.int .i64 e2.Delay]) (r:=.agg (ZR e2)) Zp he2) Zb.f))) (tq ?_)
 refine sq ?_
 obtain ⟨j9,hj,h⟩:=bs h
 refine rgR (fun s=>s=⟨[(3,bv j9)],[],H⟩) ?_ ?_
 ·clear h
  have hlc3:=HP.get hH 0 rfl
  refine (EP.u 1 (ZA (H:=H) (id:=k0_) (off:=1) (cs:=(Za c0_)) (c:=[s_eB false c0_.Station]) (r:=s_eB false c0_.Station) (hl:=hlc3)) ?_)
  obtain ⟨e4,he4,hj⟩:=bs hj
  refine (EP.u 2 (Zo (ys:=[s_eB false c0_.Station,iv e2.A]) (h:=Zg eB he4)) (EP.u 0 (Zq (sz:=1) (off:=0) (cs:=[.bool e4]) (r:=bv e4) eB he4) ?_))
  rcases Zt hj with ⟨hc5,hj⟩ | ⟨hc6,hj⟩
  ·obtain rfl:=Zc hj
   exact (EP.u 0 (Zj (c:=(!e4)) (h:=hc5)) (EP.f (by show _=_;kernel_rfl)))
  refine (EP.u 0 (Zj (c:=(!e4)) (h:=hc6)) ?_)
  have hlc7:=HP.get hH 0 rfl
  refine (EP.u 2 (ZA (H:=H) (id:=k0_) (off:=1) (cs:=(Za c0_)) (c:=[s_eB false c0_.Station]) (r:=s_eB false c0_.Station) (hl:=hlc7)) ?_)
  obtain ⟨e8,he8,hj⟩:=bs hj
  obtain rfl:=Zc hj
  exact (EP.u 2 (Zo (ys:=[s_eB false c0_.Station,iv e2.B]) (h:=Zg eB he8)) (EP.u 0 (Zq (sz:=1) (off:=0) (cs:=[.bool e8]) (r:=bv e8) eB he8) (EP.f (by show _=_;kernel_rfl))))
 clear hj
 rintro s hR
 obtain rfl:=hR
 refine tq (rt ?_)
 obtain rfl:=Zc h
 exact Za1 (by kernel_rfl) (by kernel_rfl)
theorem ZiU (N:Nat) (a0_:Int) (c0_:Zi) (k0_:Nat) (H:List HO) (hH:HP H [.cel k0_ (Za c0_)]) (r:Bool) (h:Zd9 N a0_ c0_=some r):ZbG Try.prog 79 [iv a0_,.ptr k0_ 0] H (bv r) H:=by
 unfold Zd9 at h
 refine ZbB chk79 rfl rfl rfl (Zv _ _ _ ?_)
 refine sq (rg Zb.f ?_)
 refine tq (sq ?_)
 have hlc1:=HP.get hH 0 rfl
 obtain ⟨e2,he2,h⟩:=bs h
 refine rg (Zb.u 1 (ZA (H:=H) (id:=k0_) (off:=2) (cs:=(Za c0_)) (c:=[Zh false c0_.Links]) (r:=Zh false c0_.Links) (hl:=hlc1)) (Zb.u 1 (Zo (ys:=[Zh false c0_.Links,iv a0_]) (h:=Zg Zp he2)) (Zb.u 0 (Zq (sz:=4) (off:=0) (cs:=[.int .i64 e2.A,.int .i64 e2.B,.int .i64 e2.Per,.int .i64 e2.Delay]) (r:=.agg (ZR e2)) Zp he2) Zb.f))) (tq ?_)
 refine sq (sq ?_)
 have hlc3:=HP.get hH 0 rfl
 obtain ⟨l4,hl4,h⟩:=bs h
 refine rg (Zb.u 1 (ZA (H:=H) (id:=k0_) (off:=2) (cs:=(Za c0_)) (c:=[Zh false c0_.Links]) (r:=Zh false c0_.Links) (hl:=hlc3)) (Zb.u 1 (Zo (ys:=[Zh false c0_.Links,iv a0_]) (h:=Zhb Zp hl4)) (Zb.u 0 (Zo (ys:=[Zh false l4]) (h:=ZB Zp)) Zb.f))) ?_
 replace hH:HP H []:=HP.pick hH [] rfl
 refine tq (bk ?_)
 obtain ⟨o517,ho517,h⟩:=bs h
 refine Z8 ((ZT (fun (x:Int) s=>s=⟨[(4,.loc 4 0),(15,Zh false l4),(16,iv ((List.length l4:Nat):Int)),(17,iv x)],[(4,(ZR e2))],H⟩) (fun x:Int=>ZbO N e2 l4 x) (fun (p:(Unit) ⊕ (Bool)) e s=>match p with | (.inl p)=>e = .exit 0∧(s=⟨[],[],H⟩) | (.inr p)=>e = .ret∧∃ xs,rawL s i79.res=some xs∧Zbr (weakVs xs)=bv p∧s.H=H) ?_ N _ o517 _ ho517 (by show _=_;kernel_rfl)).mono ?_)
 ·clear h ho517
  rintro i5 o s h hR
  obtain rfl:=hR
  replace h:ZbO N e2 l4 i5=some o:=h
  unfold ZbO at h
  refine sq (rg Zb.f ?_)
  refine tq (sq ?_)
  refine it h (fun hc506 h => ?_) (fun hc506 h => ?_)
  ·refine sk (tq ?_)
   refine kq (sq ?_)
   refine bk (sq ?_)
   obtain ⟨e507,he507,h⟩:=bs h
   refine rg (Zb.u 0 (Zo (ys:=[Zh false l4,iv i5]) (h:=Zg Zp he507)) (Zb.u 0 (Zq (sz:=4) (off:=0) (cs:=[.int .i64 e507.A,.int .i64 e507.B,.int .i64 e507.Per,.int .i64 e507.Delay]) (r:=.agg (ZR e507)) Zp he507) Zb.f)) (tq ?_)
   refine sq (rgX ⟨[(4,.loc 4 0),(15,Zh false l4),(16,iv ((List.length l4:Nat):Int)),(17,iv i5),(46,bv (if (e2.A==e507.A) then ((e2.B==e507.B)||((e2.A==e507.B)&&(e2.B==e507.A))) else ((e2.A==e507.B)&&(e2.B==e507.A))))],[(4,(ZR e2))],H⟩ ?_ ?_)
   ·rcases Bool.eq_false_or_eq_true (e2.A==e507.A) with hc508 | hc513
    ·refine (EP.u 4 (Zj (c:=(e2.A==e507.A)) (h:=hc508)) ?_)
     rcases Bool.eq_false_or_eq_true (e2.B==e507.B) with hc509 | hc510
     ·exact (EP.u 5 (Zj (c:=(e2.B==e507.B)) (h:=hc509)) (EP.f (by simp only [hc508,hc509];kernel_rfl)))
     refine (EP.u 5 (Zj (c:=(e2.B==e507.B)) (h:=hc510)) ?_)
     rcases Bool.eq_false_or_eq_true (e2.A==e507.B) with hc511 | hc512
     ·exact (EP.u 6 (Zj (c:=(e2.A==e507.B)) (h:=hc511)) (EP.f (by simp only [hc508,hc510,hc511];kernel_rfl)))
     exact (EP.u 6 (Zj (c:=(e2.A==e507.B)) (h:=hc512)) (EP.f (by simp only [hc508,hc510,hc512];kernel_rfl)))
    refine (EP.u 4 (Zj (c:=(e2.A==e507.A)) (h:=hc513)) ?_)
    rcases Bool.eq_false_or_eq_true (e2.A==e507.B) with hc514 | hc515
    ·exact (EP.u 12 (Zj (c:=(e2.A==e507.B)) (h:=hc514)) (EP.f (by simp only [hc513,hc514];kernel_rfl)))
    exact (EP.u 12 (Zj (c:=(e2.A==e507.B)) (h:=hc515)) (EP.f (by simp only [hc513,hc515];kernel_rfl)))
   refine tq (it h (fun hc516 h => ?_) (fun hc516 h => ?_))
   ·refine sq (rg Zb.f ?_)
    refine tq (rt ?_)
    refine br (tr ?_)
    obtain rfl:=Zc h
    exact ⟨_,rfl,rfl,Za1 (by kernel_rfl) (by kernel_rfl)⟩
   refine sk (bn ?_)
   refine tq (kq ?_)
   refine rg Zb.f ?_
   obtain rfl:=Zc h
   exact ⟨_,rfl,(by show _=_;kernel_rfl)⟩
  refine kq (xq ?_)
  refine tx ?_
  obtain rfl:=Zc h
  exact ⟨_,rfl,rfl,(by show _=_;kernel_rfl)⟩
 rintro e s hq
 rcases o517 with p518 | p519
 ·dsimp only at h hq
  obtain ⟨rfl,hR⟩:=hq
  obtain rfl:=hR
  refine bx (tq ?_)
  refine sq (rg Zb.f ?_)
  refine tq (rt ?_)
  obtain rfl:=Zc h
  exact Za1 (by kernel_rfl) (by kernel_rfl)
 dsimp only at h hq
 obtain ⟨rfl,hq⟩:=hq
 refine br (tr ?_)
 obtain rfl:=Zc h
 exact hq
theorem ZiT (N:Nat) (a0_:Int) (c0_:Zi) (k0_:Nat) (H:List HO) (hH:HP H [.cel k0_ (Za c0_)]) (r:Bool) (h:ZeW N a0_ c0_=some r):ZbG Try.prog 80 [iv a0_,.ptr k0_ 0] H (bv r) H:=by
 unfold ZeW at h
 refine ZbB chk80 rfl rfl rfl (Zv _ _ _ ?_)
 refine sq (rg Zb.f ?_)
 refine tq (sq ?_)
 have hlc1:=HP.get hH 0 rfl
 obtain ⟨e2,he2,h⟩:=bs h
 refine rg (Zb.u 1 (ZA (H:=H) (id:=k0_) (off:=2) (cs:=(Za c0_)) (c:=[Zh false c0_.Links]) (r:=Zh false c0_.Links) (hl:=hlc1)) (Zb.u 1 (Zo (ys:=[Zh false c0_.Links,iv a0_]) (h:=Zg Zp he2)) (Zb.u 0 (Zq (sz:=4) (off:=0) (cs:=[.int .i64 e2.A,.int .i64 e2.B,.int .i64 e2.Per,.int .i64 e2.Delay]) (r:=.agg (ZR e2)) Zp he2) Zb.f))) ?_
 replace hH:HP H []:=HP.pick hH [] rfl
 refine tq (sq ?_)
 refine rgX ⟨[(3,bv ((decide (e2.Per ≥ 1))&&((decide (e2.Per≤1000))&&((decide (e2.Delay ≥ 0))&&(decide (e2.Delay≤10000))))))],[],H⟩ ?_ ?_
 ·rcases Bool.eq_false_or_eq_true (decide (e2.Per ≥ 1)) with hc3 | hc8
  ·refine (EP.u 2 (Zj (c:=(decide (e2.Per ≥ 1))) (h:=hc3)) ?_)
   rcases Bool.eq_false_or_eq_true (decide (e2.Per≤1000)) with hc4 | hc7
   ·refine (EP.u 3 (Zj (c:=(decide (e2.Per≤1000))) (h:=hc4)) ?_)
    rcases Bool.eq_false_or_eq_true (decide (e2.Delay ≥ 0)) with hc5 | hc6
    ·exact (EP.u 4 (Zj (c:=(decide (e2.Delay ≥ 0))) (h:=hc5)) (EP.f (by simp only [hc3,hc4,hc5];kernel_rfl)))
    exact (EP.u 4 (Zj (c:=(decide (e2.Delay ≥ 0))) (h:=hc6)) (EP.f (by simp only [hc3,hc4,hc6];kernel_rfl)))
   exact (EP.u 3 (Zj (c:=(decide (e2.Per≤1000))) (h:=hc7)) (EP.f (by simp only [hc3,hc7];kernel_rfl)))
  exact (EP.u 2 (Zj (c:=(decide (e2.Per ≥ 1))) (h:=hc8)) (EP.f (by simp only [hc8];kernel_rfl)))
 refine tq (rt ?_)
 obtain rfl:=Zc h
 exact Za1 (by kernel_rfl) (by kernel_rfl)
theorem ZeV (N:Nat) (a0_:(List Bool)) (a1_:Bool) (r:Int) (h:ZbE N a0_ a1_=some r):Zal Try.prog 81 [s_eB false a0_,bv a1_] (iv r):=by
 unfold ZbE at h
 have hH:HP ([]:List HO) []:=trivial
 refine ZF chk81 rfl rfl (Zv _ _ _ ?_) rfl
 refine sq (rg Zb.f ?_)
 refine tq (sq ?_)
 refine sq (rg (Zb.u 1 (Zo (ys:=[s_eB false a0_]) (h:=ZB eB)) Zb.f) ?_)
 refine tq (bk ?_)
 obtain ⟨o505,ho505,h⟩:=bs h
 refine Z8 ((ZT (fun (x:Int) s=>s=⟨[(0,s_eB false a0_),(1,bv a1_),(7,iv ((List.length a0_:Nat):Int)),(8,iv x)],[],[]⟩) (fun x:Int=>Zad N a0_ a1_ x) (fun (p:(Unit) ⊕ (Int)) e s=>match p with | (.inl p)=>e = .exit 0∧(s=⟨[],[],[]⟩) | (.inr p)=>e = .ret∧∃ xs,resL s i81.res=some xs∧Zbr xs=iv p) ?_ N _ o505 _ ho505 (by show _=_;kernel_rfl)).mono ?_)
 ·clear h ho505
  rintro i1 o s h hR
  obtain rfl:=hR
  replace h:Zad N a0_ a1_ i1=some o:=h
  unfold Zad at h
  refine sq (rg Zb.f ?_)
  refine tq (sq ?_)
  refine it h (fun hc502 h => ?_) (fun hc502 h => ?_)
  ·refine sk (tq ?_)
   refine kq (sq ?_)
   refine bk (sq ?_)
   refine rg Zb.f (tq ?_)
   refine sq ?_
   obtain ⟨e503,he503,h⟩:=bs h
   refine rg (Zb.u 3 (Zo (ys:=[s_eB false a0_,iv i1]) (h:=Zg eB he503)) (Zb.u 0 (Zq (sz:=1) (off:=0) (cs:=[.bool e503]) (r:=bv e503) eB he503) Zb.f)) (tq ?_)
   refine it h (fun hc504 h => ?_) (fun hc504 h => ?_)
   ·refine sq (rg Zb.f ?_)
    refine tq (rt ?_)
    refine br (tr ?_)
    obtain rfl:=Zc h
    exact ⟨_,rfl,rfl,ZC (by kernel_rfl)⟩
   refine sk (bn ?_)
   refine tq (kq ?_)
   refine rg Zb.f ?_
   obtain rfl:=Zc h
   exact ⟨_,rfl,(by show _=_;kernel_rfl)⟩
  refine kq (xq ?_)
  refine tx ?_
  obtain rfl:=Zc h
  exact ⟨_,rfl,rfl,(by show _=_;kernel_rfl)⟩
 rintro e s hq
 rcases o505 with p506 | p507
 ·dsimp only at h hq
  obtain ⟨rfl,hR⟩:=hq
  obtain rfl:=hR
  refine bx (tq ?_)
  refine sq (rg Zb.f ?_)
  refine tq (rt ?_)
  obtain rfl:=Zc h
  exact ZC (by kernel_rfl)
 dsimp only at h hq
 obtain ⟨rfl,hq⟩:=hq
 refine br (tr ?_)
 obtain rfl:=Zc h
 exact hq
theorem Zeq (N:Nat) (a0_:Int) (a1_:Int) (a2_:Int) (r:Bool) (h:Zco N a0_ a1_ a2_=some r):Zal Try.prog 82 [iv a0_,iv a1_,iv a2_] (bv r):=by
 unfold Zco at h
 have hH:HP ([]:List HO) []:=trivial
 refine ZF chk82 rfl rfl (Zv _ _ _ ?_) rfl
 refine sq (rg Zb.f ?_)
 refine tq (sq ?_)
 refine rgX ⟨[(6,bv ((decide (a1_≤a0_))&&(decide (a0_≤a2_))))],[],[]⟩ ?_ ?_
 ·rcases Bool.eq_false_or_eq_true (decide (a1_≤a0_)) with hc1 | hc2
  ·exact (EP.u 2 (Zj (c:=(decide (a1_≤a0_))) (h:=hc1)) (EP.f (by simp only [hc1];kernel_rfl)))
  exact (EP.u 2 (Zj (c:=(decide (a1_≤a0_))) (h:=hc2)) (EP.f (by simp only [hc2];kernel_rfl)))
 refine tq (rt ?_)
 obtain rfl:=Zc h
 exact ZC (by kernel_rfl)
theorem Zjb (N:Nat) (a0_:(List Int)) (a1_:(List Int)) (r:Bool) (h:Zec N a0_ a1_=some r):Zal Try.prog 87 [Zk false a0_,Zk false a1_] (bv r):=by
 unfold Zec at h
 have hH:HP ([]:List HO) []:=trivial
 refine ZF chk87 rfl rfl (Zv _ _ _ ?_) rfl
 refine sq (rg Zb.f ?_)
 refine tq (sq ?_)
 refine sq (rg (Zb.u 1 (Zo (ys:=[Zk false a0_]) (h:=ZB eI64)) Zb.f) ?_)
 refine tq (bk ?_)
 obtain ⟨o1011,ho1011,h⟩:=bs h
 refine Z8 ((ZT (fun (x:Int) s=>s=⟨[(1,Zk false a1_),(9,Zk false a0_),(10,iv ((List.length a0_:Nat):Int)),(11,iv x)],[],[]⟩) (fun x:Int=>ZbQ N a0_ a1_ x) (fun (p:(Unit) ⊕ (Bool)) e s=>match p with | (.inl p)=>e = .exit 0∧(s=⟨[],[],[]⟩) | (.inr p)=>e = .ret∧∃ xs,resL s i87.res=some xs∧Zbr xs=bv p) ?_ N _ o1011 _ ho1011 (by show _=_;kernel_rfl)).mono ?_)
 ·clear h ho1011
  rintro i1 o s h hR
  obtain rfl:=hR
  replace h:ZbQ N a0_ a1_ i1=some o:=h
  unfold ZbQ at h
  refine sq (rg Zb.f ?_)
  refine tq (sq ?_)
  refine it h (fun hc502 h => ?_) (fun hc502 h => ?_)
  ·refine sk (tq ?_)
   refine kq (sq ?_)
   refine bk (sq ?_)
   obtain ⟨e503,he503,h⟩:=bs h
   refine rg (Zb.u 0 (Zo (ys:=[Zk false a0_,iv i1]) (h:=Zg eI64 he503)) (Zb.u 0 (Zq (sz:=1) (off:=0) (cs:=[.int .i64 e503]) (r:=iv e503) eI64 he503) Zb.f)) (tq ?_)
   refine sq (rg (Zb.u 1 (Zo (ys:=[Zk false a1_]) (h:=ZB eI64)) Zb.f) ?_)
   refine tq (bk ?_)
   obtain ⟨o1008,ho1008,h⟩:=bs h
   refine Z8 ((ZT (fun (x:Int) s=>s=⟨[(1,Zk false a1_),(6,iv e503),(9,Zk false a0_),(10,iv ((List.length a0_:Nat):Int)),(11,iv i1),(15,Zk false a1_),(16,iv ((List.length a1_:Nat):Int)),(17,iv x)],[],[]⟩) (fun x:Int=>ZbP N a1_ e503 x) (fun (p:(Unit) ⊕ (Bool)) e s=>match p with | (.inl p)=>e = .exit 2∧(s=⟨[(1,Zk false a1_),(9,Zk false a0_),(10,iv ((List.length a0_:Nat):Int)),(11,iv i1)],[],[]⟩) | (.inr p)=>e = .ret∧∃ xs,resL s i87.res=some xs∧Zbr xs=bv p) ?_ N _ o1008 _ ho1008 (by show _=_;kernel_rfl)).mono ?_)
   ·clear h ho1008
    rintro i504 o s h hR
    obtain rfl:=hR
    replace h:ZbP N a1_ e503 i504=some o:=h
    unfold ZbP at h
    refine sq (rg Zb.f ?_)
    refine tq (sq ?_)
    refine it h (fun hc1005 h => ?_) (fun hc1005 h => ?_)
    ·refine sk (tq ?_)
     refine kq (sq ?_)
     refine bk (sq ?_)
     obtain ⟨e1006,he1006,h⟩:=bs h
     refine rg (Zb.u 0 (Zo (ys:=[Zk false a1_,iv i504]) (h:=Zg eI64 he1006)) (Zb.u 0 (Zq (sz:=1) (off:=0) (cs:=[.int .i64 e1006]) (r:=iv e1006) eI64 he1006) Zb.f)) (tq ?_)
     refine sq (rg Zb.f ?_)
     refine tq (it h (fun hc1007 h => ?_) (fun hc1007 h => ?_))
     ·refine sq (rg Zb.f ?_)
      refine tq (rt ?_)
      refine br (tr ?_)
      obtain rfl:=Zc h
      exact ⟨_,rfl,rfl,ZC (by kernel_rfl)⟩
     refine sk (bn ?_)
     refine tq (kq ?_)
     refine rg Zb.f ?_
     obtain rfl:=Zc h
     exact ⟨_,rfl,(by show _=_;kernel_rfl)⟩
    refine kq (xq ?_)
    refine tx ?_
    obtain rfl:=Zc h
    exact ⟨_,rfl,rfl,(by show _=_;kernel_rfl)⟩
   rintro e s hq
   rcases o1008 with p1009 | p1010
   ·dsimp only at h hq
    obtain ⟨rfl,hR⟩:=hq
    obtain rfl:=hR
    refine bx (bn ?_)
    refine tq (rg Zb.f ?_)
    obtain rfl:=Zc h
    exact ⟨_,rfl,(by show _=_;kernel_rfl)⟩
   dsimp only at h hq
   obtain ⟨rfl,hq⟩:=hq
   refine br (br ?_)
   refine tr ?_
   obtain rfl:=Zc h
   exact ⟨_,rfl,rfl,hq⟩
  refine kq (xq ?_)
  refine tx ?_
  obtain rfl:=Zc h
  exact ⟨_,rfl,rfl,(by show _=_;kernel_rfl)⟩
 rintro e s hq
 rcases o1011 with p1012 | p1013
 ·dsimp only at h hq
  obtain ⟨rfl,hR⟩:=hq
  obtain rfl:=hR
  refine bx (tq ?_)
  refine sq (rg Zb.f ?_)
  refine tq (rt ?_)
  obtain rfl:=Zc h
  exact ZC (by kernel_rfl)
 dsimp only at h hq
 obtain ⟨rfl,hq⟩:=hq
 refine br (tr ?_)
 obtain rfl:=Zc h
 exact hq
theorem Zk5 (N:Nat) (a0_:Zi) (a1_:Int) (r:Bool) (h:Zfs N a0_ a1_=some r):Zal Try.prog 89 [.agg (Za a0_),iv a1_] (bv r):=by
 unfold Zfs at h
 have hH:HP ([]:List HO) []:=trivial
 refine ZF chk89 rfl rfl (Zv _ _ _ ?_) rfl
 refine sq (rg Zb.f ?_)
 refine tq (sq ?_)
 refine rgX ⟨[(4,bv ((decide (a1_ ≥ 0))&&(decide (a1_<(w64 (2 * ((List.length a0_.Links:Nat):Int)))))))],[],[]⟩ ?_ ?_
 ·rcases Bool.eq_false_or_eq_true (decide (a1_ ≥ 0)) with hc1 | hc2
  ·exact (EP.u 1 (Zj (c:=(decide (a1_ ≥ 0))) (h:=hc1)) (EP.u 4 (Zo (ys:=[Zh false a0_.Links]) (h:=ZB Zp)) (EP.f (by simp only [hc1];kernel_rfl))))
  exact (EP.u 1 (Zj (c:=(decide (a1_ ≥ 0))) (h:=hc2)) (EP.f (by simp only [hc2];kernel_rfl)))
 refine tq (rt ?_)
 obtain rfl:=Zc h
 exact ZC (by kernel_rfl)
theorem Zke (N:Nat) (a0_:Zi) (a1_:Int) (r:(List Int)) (h:ZdR N a0_ a1_=some r):Zal Try.prog 90 [.agg (Za a0_),iv a1_] (Zk false r):=by
 unfold ZdR at h
 have hH:HP ([]:List HO) []:=trivial
 refine ZF chk90 rfl rfl (Zv _ _ _ ?_) rfl
 refine sq (rg Zb.f ?_)
 refine tq (sq ?_)
 refine rg Zb.f (tq ?_)
 refine sq (sq ?_)
 refine rg Zb.f (tq ?_)
 refine bk ?_
 obtain ⟨o1016,ho1016,h⟩:=bs h
 refine Z8 ((ZT (fun (x:Int × (List Int)) s=>∃ (a1:AV) (H2:List HO),s=⟨[(1,iv a1_),(2,.loc 2 0),(5,a1),(6,iv x.1)],[(2,(Za a0_))],H2⟩∧HP H2 [.arr a1 1 false (List.map eI64 x.2)]) (fun x:Int × (List Int)=>Zbp N a0_ a1_ x.1 x.2) (fun (p:(List Int)) e s=>e = .exit 0∧(∃ (a505:AV) (H506:List HO),s=⟨[(5,a505)],[],H506⟩∧HP H506 [.arr a505 1 false (List.map eI64 p)])) ?_ N _ o1016 _ ho1016 ⟨(.p (.sl 1 true [])),[],(by show _=_;kernel_rfl),(HP.pick (HP.nilArr hH 1 false) [0] rfl)⟩).mono ?_)
 ·clear h ho1016
  rintro ⟨i3,l4⟩ o s h hR
  obtain ⟨a1,H2,rfl,hH⟩:=hR
  replace hH:HP H2 [.arr a1 1 false (List.map eI64 l4)]:=hH
  have hfa1:=Zu (HP.get hH 0 rfl)
  replace h:Zbp N a0_ a1_ i3 l4=some o:=h
  unfold Zbp at h
  refine sq (sq ?_)
  refine rgS ⟨[(1,iv a1_),(2,.loc 2 0),(5,a1),(6,iv i3),(12,bv (decide (i3<(w64 (2 * ((List.length a0_.Links:Nat):Int))))))],[(2,(Za a0_))],H2⟩ (Zb.u 3 (Zo (ys:=[Zh false a0_.Links]) (h:=ZB Zp)) Zb.f) (by rcases hfa1 with ha1e | ⟨_,_,ha1e⟩<;>subst ha1e<;>kernel_rfl) ?_
  refine tq (it h (fun hc507 h => ?_) (fun hc507 h => ?_))
  ·refine sk (tq ?_)
   refine kq ?_
   obtain ⟨j1010,hj1010,h⟩:=bs h
   refine Zcu [1,2,5,6] (fun s=>∃ (a1008:AV) (H1009:List HO),s=⟨[(1,iv a1_),(2,.loc 2 0),(5,a1008),(6,iv i3)],[(2,(Za a0_))],H1009⟩∧HP H1009 [.arr a1008 1 false (List.map eI64 j1010)]) ?_ ?_
   ·clear h
    have h:=hj1010
    refine bk (sq ?_)
    obtain ⟨r1011,hr1011,h⟩:=bs h
    refine rgS ⟨[(1,iv a1_),(2,.loc 2 0),(5,a1),(6,iv i3),(19,bv (r1011==a1_))],[(2,(Za a0_))],H2⟩ (Zb.v 2 (Zs (hc:=Zcz N a0_ i3 r1011 hr1011)) Zb.f) (by rcases hfa1 with ha1e | ⟨_,_,ha1e⟩<;>subst ha1e<;>kernel_rfl) ?_
    refine tq (it h (fun hc1012 h => ?_) (fun hc1012 h => ?_))
    ·obtain ⟨l1015,hl1015,h⟩:=bs h
     obtain ⟨a1013,H1014,ha1013,hH⟩:=HP.app (k:=0) (a:=a1) (sz:=1) (frz:=false) eI64 hH rfl hl1015
     replace hH:HP H1014 [.arr a1013 1 false (List.map eI64 l1015)]:=hH
     have hfa1013:=Zu (HP.get hH 0 rfl)
     refine rgS ⟨[(1,iv a1_),(2,.loc 2 0),(5,a1013),(6,iv i3)],[(2,(Za a0_))],H1014⟩ (Zb.h 3 (ZdH (H:=H2) (a:=a1) (b:=Zk true [i3]) (by rcases hfa1 with ha1e | ⟨_,_,ha1e⟩<;>subst ha1e<;>kernel_rfl) (by rcases hfa1 with ha1e | ⟨_,_,ha1e⟩<;>subst ha1e<;>kernel_rfl) (by rcases hfa1 with ha1e | ⟨_,_,ha1e⟩<;>subst ha1e<;>kernel_rfl) (by rcases hfa1 with ha1e | ⟨_,_,ha1e⟩<;>subst ha1e<;>kernel_rfl) ha1013) Zb.f) (by rcases hfa1 with ha1e | ⟨_,_,ha1e⟩<;>rcases hfa1013 with ha1013e | ⟨_,_,ha1013e⟩<;>subst ha1e ha1013e<;>kernel_rfl) ?_
     refine bn ?_
     obtain rfl:=Zc h
     exact ⟨rfl,⟨a1013,H1014,(by show _=_;rcases hfa1013 with ha1013e | ⟨_,_,ha1013e⟩<;>subst ha1013e<;>kernel_rfl),(HP.pick hH [0] rfl)⟩⟩
    refine sk (bn ?_)
    obtain rfl:=Zc h
    exact ⟨rfl,⟨a1,H2,(by show _=_;rcases hfa1 with ha1e | ⟨_,_,ha1e⟩<;>subst ha1e<;>kernel_rfl),(HP.pick hH [0] rfl)⟩⟩
   clear hj1010
   rintro s hR
   obtain ⟨a1008,H1009,rfl,hH⟩:=hR
   replace hH:HP H1009 [.arr a1008 1 false (List.map eI64 j1010)]:=hH
   have hfa1008:=Zu (HP.get hH 0 rfl)
   refine rgS ⟨[(1,iv a1_),(2,.loc 2 0),(5,a1008),(6,iv (w64 (i3+1)))],[(2,(Za a0_))],H1009⟩ Zb.f (by rcases hfa1008 with ha1008e | ⟨_,_,ha1008e⟩<;>subst ha1008e<;>kernel_rfl) ?_
   obtain rfl:=Zc h
   exact ⟨_,rfl,⟨a1008,H1009,(by show _=_;rcases hfa1008 with ha1008e | ⟨_,_,ha1008e⟩<;>subst ha1008e<;>kernel_rfl),(HP.pick hH [0] rfl)⟩⟩
  refine kq (xq ?_)
  refine tx ?_
  obtain rfl:=Zc h
  exact ⟨_,rfl,rfl,⟨a1,H2,(by show _=_;rcases hfa1 with ha1e | ⟨_,_,ha1e⟩<;>subst ha1e<;>kernel_rfl),(HP.pick hH [0] rfl)⟩⟩
 rintro e s hq
 obtain ⟨rfl,hR⟩:=hq
 obtain ⟨a505,H506,rfl,hH⟩:=hR
 replace hH:HP H506 [.arr a505 1 false (List.map eI64 o1016)]:=hH
 have hfa505:=Zu (HP.get hH 0 rfl)
 refine bx (tq ?_)
 refine sq (rgS ⟨[(4,a505)],[],H506⟩ Zb.f (by rcases hfa505 with ha505e | ⟨_,_,ha505e⟩<;>subst ha505e<;>kernel_rfl) ?_)
 refine tq (rt ?_)
 obtain rfl:=Zc h
 exact ZdO (H:=H506) (ys:=[a505]) (xs:=[.p (.sl 1 false (List.map eI64 o1016))]) (by rcases hfa505 with ha505e | ⟨_,_,ha505e⟩<;>subst ha505e<;>kernel_rfl) (by rcases hfa505 with ha505e | ⟨_,_,ha505e⟩<;>subst ha505e<;>kernel_rfl) (ZaU (HP.pure (k:=0) (frz:=false) eI64 hH rfl).2 ZbM) (by kernel_rfl)
theorem Ze2 (N:Nat) (a0_:ZX) (a1_:(List Int)) (H:List HO) (r:(List Int) × ZX) (h:Zcn N a0_ a1_=some r):∃ (id0_ id1_:Nat) (H':List HO),ZbG Try.prog 93 [.agg (Za a0_.Topo),Zk false a1_] H (.fn 98 [] [.ptr id0_ 0,.ptr id1_ 0]) H'∧Fp H H' [] [.cel id0_ [Zk false r.1],.cel id1_ [iv r.2.Topo.Nodes,s_eB false r.2.Topo.Station,Zh false r.2.Topo.Links]]:=by
 suffices hs:∃ r' H',ZbG Try.prog 93 [.agg (Za a0_.Topo),Zk false a1_] H r' H'∧∃ (id0_ id1_:Nat),r' = .fn 98 [] [.ptr id0_ 0,.ptr id1_ 0]∧Fp H H' [] [.cel id0_ [Zk false r.1],.cel id1_ [iv r.2.Topo.Nodes,s_eB false r.2.Topo.Station,Zh false r.2.Topo.Links]] by
  obtain ⟨_,H',h1,id0_,id1_,rfl,h2⟩:=hs
  exact ⟨id0_,id1_,H',h1,h2⟩
 unfold Zcn at h
 have hH:Fp H H [] []:=Fp.refl trivial
 refine ZkL chk93 (fun r' H'=>∃ (id0_ id1_:Nat),r' = .fn 98 [] [.ptr id0_ 0,.ptr id1_ 0]∧Fp H H' [] [.cel id0_ [Zk false r.1],.cel id1_ [iv r.2.Topo.Nodes,s_eB false r.2.Topo.Station,Zh false r.2.Topo.Links]]) (fun r' H' ⟨_,_,e,_⟩=>by rw [e];rfl) rfl rfl ?_
 refine sq ?_
 obtain ⟨id1,H2,hid1,hH2,hH⟩:=Fp.newCell hH (Za a0_.Topo)
 replace hH:Fp H H2 [] [.cel id1 (Za a0_.Topo)]:=hH
 obtain ⟨id3,H4,hid3,hH4,hH⟩:=Fp.newCell hH [Zk false a1_]
 replace hH:Fp H H4 [] [.cel id3 [Zk false a1_],.cel id1 (Za a0_.Topo)]:=hH
 refine rg (Zb.h 0 (Zdi (H:=H) (v:=.agg (Za a0_.Topo)) (hid:=hid1) (hH:=hH2)) (Zb.h 0 (Zdi (H:=H2) (v:=Zk false a1_) (hid:=hid3) (hH:=hH4)) Zb.f)) (tq ?_)
 refine sq (rg Zb.f ?_)
 refine tq (rt ?_)
 obtain rfl:=Zc h
 exact ⟨[.fn 98 [] [.ptr id3 0,.ptr id1 0]],(by kernel_rfl),id3,id1,rfl,Fp.pk hH [0,1] rfl⟩
theorem Zen {σ:Type} (N:Nat) (y_:σ→Int→ZaL→Option (σ × Bool)) (c0_:(List Int)) (c1_:ZX) (s_:σ) (k0_:Nat) (k1_:Nat) (yid_:Nat) (T_:σ→List Zan→Prop) (hy_:∀ (x0:Int) (x1:ZaL) (s:σ) (r:σ × Bool) (H:List HO) (its:List Zan),T_ s its→HP H its→y_ s x0 x1=some r→∃ H' its',ZhB Try.prog yid_ [iv x0,.agg [iv x1.port,iv x1.from_,iv x1.to_]] H r.2 H'∧T_ r.1 its'∧Fp H H' its its') (H:List HO) (its:List Zan) (hT:T_ s_ its) (hH:HP H (.cel k0_ [Zk false c0_] :: .cel k1_ (Za c1_.Topo)::its)) (r:σ) (h:ZbL N y_ c0_ c1_ s_=some r):∃ H' its',ZbG Try.prog 98 [.yl yid_,.ptr k0_ 0,.ptr k1_ 0] H (.tup []) H'∧T_ r its'∧Fp H H' (.cel k0_ [Zk false c0_] :: .cel k1_ (Za c1_.Topo)::its) (.cel k0_ [Zk false c0_] :: .cel k1_ (Za c1_.Topo)::its'):=by
 suffices hs:∃ H',ZbG Try.prog 98 [.yl yid_,.ptr k0_ 0,.ptr k1_ 0] H (.tup []) H'∧∃ its',T_ r its'∧Fp H H' (.cel k0_ [Zk false c0_] :: .cel k1_ (Za c1_.Topo)::its) (.cel k0_ [Zk false c0_] :: .cel k1_ (Za c1_.Topo)::its') by
  obtain ⟨H',h1,its',h2,h3⟩:=hs
  exact ⟨H',its',h1,h2,h3⟩
 unfold ZbL at h
 replace hH:Fp H H (.cel k0_ [Zk false c0_] :: .cel k1_ (Za c1_.Topo)::its) (.cel k0_ [Zk false c0_] :: .cel k1_ (Za c1_.Topo)::its):=Fp.refl hH
 refine Zmo chk98 (fun H'=>∃ its',T_ r its'∧Fp H H' (.cel k0_ [Zk false c0_] :: .cel k1_ (Za c1_.Topo)::its) (.cel k0_ [Zk false c0_] :: .cel k1_ (Za c1_.Topo)::its')) rfl rfl rfl ?_
 refine ZoM (EvI.scope ?_)
 refine sq (ZoN ?_)
 refine tq (sq ?_)
 have hlc1:=Fp.get hH 0 rfl
 refine rg (Zb.u 0 (ZA (H:=H) (id:=k0_) (off:=0) (cs:=[Zk false c0_]) (c:=[Zk false c0_]) (r:=Zk false c0_) (hl:=hlc1)) (Zb.u 0 (Zo (ys:=[Zk false c0_]) (h:=ZB eI64)) Zb.f)) (tq ?_)
 refine bk ?_
 obtain ⟨o1023,ho1023,h⟩:=bs h
 refine Z8 ((ZT (fun (x:Int × σ) s=>∃ (its2:List Zan) (H3:List HO),s=⟨[(0,.yl yid_),(2,.ptr k1_ 0),(8,Zk false c0_),(9,iv ((List.length c0_:Nat):Int)),(10,iv x.1)],[],H3⟩∧T_ x.2 its2∧Fp H H3 (.cel k0_ [Zk false c0_] :: .cel k1_ (Za c1_.Topo)::its) (.cel k0_ [Zk false c0_] :: .cel k1_ (Za c1_.Topo)::its2)) (fun x:Int × σ=>ZU N y_ c0_ c1_ x.1 x.2) (fun (p:σ) e s=>e = .exit 0∧(∃ (its506:List Zan) (H507:List HO),s=⟨[],[],H507⟩∧T_ p its506∧Fp H H507 (.cel k0_ [Zk false c0_] :: .cel k1_ (Za c1_.Topo)::its) (.cel k0_ [Zk false c0_] :: .cel k1_ (Za c1_.Topo)::its506))) ?_ N _ o1023 _ ho1023 ⟨its,H,(by show _=_;kernel_rfl),hT,Fp.at hH⟩).mono ?_)
 ·clear h ho1023
  rintro ⟨i4,g5⟩ o s h hR
  obtain ⟨its2,H3,rfl,hT,hH⟩:=hR
  replace hH:Fp H H3 (.cel k0_ [Zk false c0_] :: .cel k1_ (Za c1_.Topo)::its) (.cel k0_ [Zk false c0_] :: .cel k1_ (Za c1_.Topo)::its2):=hH
  replace h:ZU N y_ c0_ c1_ i4 g5=some o:=h
  unfold ZU at h
  refine sq (rg Zb.f ?_)
  refine tq (sq ?_)
  refine it h (fun hc508 h => ?_) (fun hc508 h => ?_)
  ·refine sk (tq ?_)
   refine kq (sq ?_)
   refine bk (sq ?_)
   obtain ⟨e509,he509,h⟩:=bs h
   refine rg (Zb.u 1 (Zo (ys:=[Zk false c0_,iv i4]) (h:=Zg eI64 he509)) (Zb.u 0 (Zq (sz:=1) (off:=0) (cs:=[.int .i64 e509]) (r:=iv e509) eI64 he509) Zb.f)) (tq ?_)
   refine sq (sq ?_)
   obtain ⟨j513,hj,h⟩:=bs h
   refine rgR (fun s=>s=⟨[(0,.yl yid_),(2,.ptr k1_ 0),(4,iv i4),(5,iv e509),(8,Zk false c0_),(9,iv ((List.length c0_:Nat):Int)),(10,iv i4),(25,bv j513)],[],H3⟩) ?_ ?_
   ·clear h
    rcases Zt hj with ⟨hc510,hj⟩ | ⟨hc511,hj⟩
    ·obtain rfl:=Zc hj
     exact (EP.u 1 (Zj (c:=(decide (e509<0))) (h:=hc510)) (EP.f (by show _=_;kernel_rfl)))
    refine (EP.u 1 (Zj (c:=(decide (e509<0))) (h:=hc511)) ?_)
    have hlc512:=Fp.get hH 1 rfl
    obtain rfl:=Zc hj
    exact (EP.u 4 (ZA (H:=H3) (id:=k1_) (off:=2) (cs:=(Za c1_.Topo)) (c:=[Zh false c1_.Topo.Links]) (r:=Zh false c1_.Topo.Links) (hl:=hlc512)) (EP.u 0 (Zo (ys:=[Zh false c1_.Topo.Links]) (h:=ZB Zp)) (EP.f (by show _=_;kernel_rfl))))
   clear hj
   rintro s hR
   obtain rfl:=hR
   refine tq (it h (fun hc514 h => ?_) (fun hc514 h => ?_))
   ·refine kq (xq ?_)
    refine tx (bo ?_)
    refine tx ?_
    obtain rfl:=Zc h
    exact ⟨_,rfl,rfl,⟨its2,H3,(by show _=_;kernel_rfl),hT,Fp.at hH⟩⟩
   refine sk (tq ?_)
   refine kq (sq ?_)
   have hlc515:=Fp.get hH 1 rfl
   obtain ⟨e516,he516,h⟩:=bs h
   refine rg (Zb.u 2 (ZA (H:=H3) (id:=k1_) (off:=2) (cs:=(Za c1_.Topo)) (c:=[Zh false c1_.Topo.Links]) (r:=Zh false c1_.Topo.Links) (hl:=hlc515)) (Zb.u 2 (Zo (ys:=[Zh false c1_.Topo.Links,iv (w64 (Int.tdiv e509 2))]) (h:=Zg Zp he516)) (Zb.u 0 (Zq (sz:=4) (off:=0) (cs:=[.int .i64 e516.A,.int .i64 e516.B,.int .i64 e516.Per,.int .i64 e516.Delay]) (r:=.agg (ZR e516)) Zp he516) Zb.f))) (tq ?_)
   refine sq (rg Zb.f ?_)
   refine tq ?_
   obtain ⟨j1017,hj1017,h⟩:=bs h
   refine Zcu [0,2,4,7,8,9,10] (fun s=>s=⟨[(0,.yl yid_),(2,.ptr k1_ 0),(4,iv i4),(7,.loc 7 0),(8,Zk false c0_),(9,iv ((List.length c0_:Nat):Int)),(10,iv i4)],[(7,[iv e509,iv j1017.1,iv j1017.2])],H3⟩) ?_ ?_
   ·clear h
    have h:=hj1017
    refine sq (rg Zb.f ?_)
    refine tq (it h (fun hc1018 h => ?_) (fun hc1018 h => ?_))
    ·refine rg Zb.f ?_
     obtain rfl:=Zc h
     exact ⟨rfl,(by show _=_;kernel_rfl)⟩
    refine sk ?_
    obtain rfl:=Zc h
    exact ⟨rfl,(by show _=_;kernel_rfl)⟩
   clear hj1017
   rintro s hR
   obtain rfl:=hR
   refine sq ?_
   obtain ⟨r1019,hr1019,h⟩:=bs h
   obtain ⟨H1020,its1021,hvr1019,hT,hFr1019⟩:=hy_ i4 (ZaL.mk e509 j1017.1 j1017.2) g5 r1019 H3 its2 hT (Fp.tail (own:=[.cel k0_ [Zk false c0_],.cel k1_ (Za c1_.Topo)]) (its:=its2) hH) hr1019
   replace hH:Fp H H1020 (.cel k0_ [Zk false c0_] :: .cel k1_ (Za c1_.Topo)::its) (.cel k0_ [Zk false c0_] :: .cel k1_ (Za c1_.Topo)::its1021):=Fp.callT (own:=[.cel k0_ [Zk false c0_],.cel k1_ (Za c1_.Topo)]) (its:=its2) hH hFr1019
   refine rg (Zb.v 3 (ZmX (H:=H3) (id:=yid_) (ys:=[iv i4,.agg [iv e509,iv j1017.1,iv j1017.2]]) (by kernel_rfl) (by kernel_rfl) (by kernel_rfl) (by kernel_rfl) hvr1019) Zb.f) (tq ?_)
   refine it h (fun hc1022 h => ?_) (fun hc1022 h => ?_)
   ·refine kq (xq ?_)
    refine bo (tx ?_)
    obtain rfl:=Zc h
    exact ⟨_,rfl,rfl,⟨its1021,H1020,(by show _=_;kernel_rfl),hT,Fp.at hH⟩⟩
   refine sk (bn ?_)
   refine tq (kq ?_)
   refine rg Zb.f ?_
   obtain rfl:=Zc h
   exact ⟨_,rfl,⟨its1021,H1020,(by show _=_;kernel_rfl),hT,Fp.at hH⟩⟩
  refine kq (xq ?_)
  refine tx ?_
  obtain rfl:=Zc h
  exact ⟨_,rfl,rfl,⟨its2,H3,(by show _=_;kernel_rfl),hT,Fp.at hH⟩⟩
 rintro e s hq
 obtain ⟨rfl,hR⟩:=hq
 obtain ⟨its506,H507,rfl,hT,hH⟩:=hR
 replace hH:Fp H H507 (.cel k0_ [Zk false c0_] :: .cel k1_ (Za c1_.Topo)::its) (.cel k0_ [Zk false c0_] :: .cel k1_ (Za c1_.Topo)::its506):=hH
 refine bx (nn ?_)
 obtain rfl:=Zc h
 exact ⟨[],(by kernel_rfl),(by kernel_rfl),its506,hT,Fp.at hH⟩
theorem Zfn (N:Nat) (a0_:(List Int)) (a1_:Int) (r:Int) (h:ZbY N a0_ a1_=some r):Zal Try.prog 99 [Zk false a0_,iv a1_] (iv r):=by
 unfold ZbY at h
 have hH:HP ([]:List HO) []:=trivial
 refine ZF chk99 rfl rfl (Zv _ _ _ ?_) rfl
 refine sq (rg Zb.f ?_)
 refine tq (sq ?_)
 refine sq (rg (Zb.u 1 (Zo (ys:=[Zk false a0_]) (h:=ZB eI64)) Zb.f) ?_)
 refine tq (bk ?_)
 obtain ⟨o505,ho505,h⟩:=bs h
 refine Z8 ((ZT (fun (x:Int) s=>s=⟨[(0,Zk false a0_),(1,iv a1_),(7,iv ((List.length a0_:Nat):Int)),(8,iv x)],[],[]⟩) (fun x:Int=>Zam N a0_ a1_ x) (fun (p:(Unit) ⊕ (Int)) e s=>match p with | (.inl p)=>e = .exit 0∧(s=⟨[],[],[]⟩) | (.inr p)=>e = .ret∧∃ xs,resL s i99.res=some xs∧Zbr xs=iv p) ?_ N _ o505 _ ho505 (by show _=_;kernel_rfl)).mono ?_)
 ·clear h ho505
  rintro i1 o s h hR
  obtain rfl:=hR
  replace h:Zam N a0_ a1_ i1=some o:=h
  unfold Zam at h
  refine sq (rg Zb.f ?_)
  refine tq (sq ?_)
  refine it h (fun hc502 h => ?_) (fun hc502 h => ?_)
  ·refine sk (tq ?_)
   refine kq (sq ?_)
   refine bk (sq ?_)
   refine rg Zb.f (tq ?_)
   refine sq ?_
   obtain ⟨e503,he503,h⟩:=bs h
   refine rg (Zb.u 3 (Zo (ys:=[Zk false a0_,iv i1]) (h:=Zg eI64 he503)) (Zb.u 0 (Zq (sz:=1) (off:=0) (cs:=[.int .i64 e503]) (r:=iv e503) eI64 he503) Zb.f)) (tq ?_)
   refine it h (fun hc504 h => ?_) (fun hc504 h => ?_)
   ·refine sq (rg Zb.f ?_)
    refine tq (rt ?_)
    refine br (tr ?_)
    obtain rfl:=Zc h
    exact ⟨_,rfl,rfl,ZC (by kernel_rfl)⟩
   refine sk (bn ?_)
   refine tq (kq ?_)
   refine rg Zb.f ?_
   obtain rfl:=Zc h
   exact ⟨_,rfl,(by show _=_;kernel_rfl)⟩
  refine kq (xq ?_)
  refine tx ?_
  obtain rfl:=Zc h
  exact ⟨_,rfl,rfl,(by show _=_;kernel_rfl)⟩
 rintro e s hq
 rcases o505 with p506 | p507
 ·dsimp only at h hq
  obtain ⟨rfl,hR⟩:=hq
  obtain rfl:=hR
  refine bx (tq ?_)
  refine sq (rg Zb.f ?_)
  refine tq (rt ?_)
  obtain rfl:=Zc h
  exact ZC (by kernel_rfl)
 dsimp only at h hq
 obtain ⟨rfl,hq⟩:=hq
 refine br (tr ?_)
 obtain rfl:=Zc h
 exact hq
theorem ZgI (N:Nat) (a0_:ZE) (r:Int) (h:Zck N a0_=some r):Zal Try.prog 20 [.agg (Zn a0_)] (iv r):=by
 unfold Zck at h
 have hH:HP ([]:List HO) []:=trivial
 refine ZF chk20 rfl rfl (Zv _ _ _ ?_) rfl
 refine sq (rg Zb.f ?_)
 refine tq (sq ?_)
 refine sq ?_
 obtain ⟨j5,hj,h⟩:=bs h
 refine rgR (fun s=>s=⟨[(1,.loc 1 0),(12,bv j5)],[(1,(Zn a0_))],[]⟩) ?_ ?_
 ·clear h
  obtain ⟨r1,hr1,hj⟩:=bs hj
  refine (EP.v 2 (Zs (hc:=Z9 N a0_.Grid 1 10000 r1 hr1)) ?_)
  rcases Zt hj with ⟨hc2,hj⟩ | ⟨hc3,hj⟩
  ·obtain rfl:=Zc hj
   exact (EP.u 0 (Zj (c:=(!r1)) (h:=hc2)) (EP.f (by show _=_;kernel_rfl)))
  refine (EP.u 0 (Zj (c:=(!r1)) (h:=hc3)) ?_)
  obtain ⟨r4,hr4,hj⟩:=bs hj
  obtain rfl:=Zc hj
  exact (EP.v 3 (Zs (hc:=Z9 N a0_.Slack 0 1000 r4 hr4)) (EP.f (by show _=_;kernel_rfl)))
 clear hj
 rintro s hR
 obtain rfl:=hR
 refine tq (it h (fun hc6 h => ?_) (fun hc6 h => ?_))
 ·refine sq (rg Zb.f ?_)
  refine tq (rt ?_)
  refine tr ?_
  obtain rfl:=Zc h
  exact ZC (by kernel_rfl)
 refine sk (tq ?_)
 refine kq (sq ?_)
 refine sq ?_
 obtain ⟨j11,hj,h⟩:=bs h
 refine rgR (fun s=>s=⟨[(22,bv j11)],[],[]⟩) ?_ ?_
 ·clear h
  obtain ⟨r7,hr7,hj⟩:=bs hj
  refine (EP.v 2 (Zs (hc:=Z9 N a0_.Proc 0 10000 r7 hr7)) ?_)
  rcases Zt hj with ⟨hc8,hj⟩ | ⟨hc9,hj⟩
  ·obtain rfl:=Zc hj
   exact (EP.u 0 (Zj (c:=(!r7)) (h:=hc8)) (EP.f (by show _=_;kernel_rfl)))
  refine (EP.u 0 (Zj (c:=(!r7)) (h:=hc9)) ?_)
  obtain ⟨r10,hr10,hj⟩:=bs hj
  obtain rfl:=Zc hj
  exact (EP.v 3 (Zs (hc:=Z9 N a0_.Cap 1542 65536 r10 hr10)) (EP.f (by show _=_;kernel_rfl)))
 clear hj
 rintro s hR
 obtain rfl:=hR
 refine tq (it h (fun hc12 h => ?_) (fun hc12 h => ?_))
 ·refine sq (rg Zb.f ?_)
  refine tq (rt ?_)
  refine tr ?_
  obtain rfl:=Zc h
  exact ZC (by kernel_rfl)
 refine sk (tq ?_)
 refine kq (sq ?_)
 refine rg Zb.f (tq ?_)
 refine rt ?_
 obtain rfl:=Zc h
 exact ZC (by kernel_rfl)
theorem Zif (N:Nat) (a0_:Zi) (a1_:ZE) (a2_:Zm) (a3_:(List Int)) (r:(List ZJ)) (h:Zfq N a0_ a1_ a2_ a3_=some r):Zal Try.prog 35 [.agg (Za a0_),.agg (Zn a1_),.agg (Ze a2_),Zk false a3_] (Z1 false r):=by
 unfold Zfq at h
 have hH:HP ([]:List HO) []:=trivial
 refine ZF chk35 rfl rfl (Zv _ _ _ ?_) rfl
 refine sq (rg Zb.f ?_)
 refine tq (sq ?_)
 obtain ⟨e1,he1,h⟩:=bs h
 obtain ⟨e2,he2,h⟩:=bs h
 obtain ⟨r3,hr3,h⟩:=bs h
 obtain ⟨a4,H5,ha4,hH5,hH⟩:=HP.lit 5 [(ZJ.mk e1 0 0 0 (w64 (a2_.Size * r3)))] ZK hH
 replace hH:HP H5 [.arr a4 5 false (List.map ZK [(ZJ.mk e1 0 0 0 (w64 (a2_.Size * r3)))])]:=hH
 have hfa4:=Zu (HP.get hH 0 rfl)
 refine rqS ⟨[(3,Zk false a3_),(4,.loc 4 0),(5,.loc 5 0),(6,.loc 6 0),(9,a4)],[(4,(Za a0_)),(5,(Zn a1_)),(6,(Ze a2_))],H5⟩ (Zb.u 1 (Zo (ys:=[Zk false a3_,iv 0]) (h:=Zg eI64 he1)) (Zb.u 0 (Zw (Zq (sz:=1) (off:=0) (cs:=[.int .i64 e1]) (r:=iv e1) eI64 he1)) (Zb.u 4 (Zo (ys:=[Zk false a3_,iv 0]) (h:=Zg eI64 he2)) (Zb.u 0 (Zw (Zq (sz:=1) (off:=0) (cs:=[.int .i64 e2]) (r:=iv e2) eI64 he2)) (Zb.u 0 (Zaw (hc:=Zih N a0_ e2 r3 hr3)) (Zb.h 2 (ZiI (H:=[]) (ys:=[.agg [iv e1,iv 0,iv 0,iv 0,iv (w64 (a2_.Size * r3))]]) (rows:=(List.map ZK [(ZJ.mk e1 0 0 0 (w64 (a2_.Size * r3)))])) (by kernel_rfl) (by kernel_rfl) (by kernel_rfl) ha4 hH5) Zb.f)))))) (by rcases hfa4 with ha4e | ⟨_,_,ha4e⟩<;>subst ha4e<;>kernel_rfl) ?_
 refine tq (sq ?_)
 refine sq (rgS ⟨[(3,Zk false a3_),(4,.loc 4 0),(5,.loc 5 0),(6,.loc 6 0),(9,a4),(10,iv 1)],[(4,(Za a0_)),(5,(Zn a1_)),(6,(Ze a2_))],H5⟩ Zb.f (by rcases hfa4 with ha4e | ⟨_,_,ha4e⟩<;>subst ha4e<;>kernel_rfl) ?_)
 refine tq (bk ?_)
 obtain ⟨o1026,ho1026,h⟩:=bs h
 refine Z8 ((ZT (fun (x:Int × (List ZJ)) s=>∃ (a6:AV) (H7:List HO),s=⟨[(3,Zk false a3_),(4,.loc 4 0),(5,.loc 5 0),(6,.loc 6 0),(9,a6),(10,iv x.1)],[(4,(Za a0_)),(5,(Zn a1_)),(6,(Ze a2_))],H7⟩∧HP H7 [.arr a6 5 false (List.map ZK x.2)]) (fun x:Int × (List ZJ)=>Zb3 N a0_ a1_ a2_ a3_ x.1 x.2) (fun (p:(List ZJ)) e s=>e = .exit 0∧(∃ (a510:AV) (H511:List HO),s=⟨[(9,a510)],[],H511⟩∧HP H511 [.arr a510 5 false (List.map ZK p)])) ?_ N _ o1026 _ ho1026 ⟨a4,H5,(by show _=_;rcases hfa4 with ha4e | ⟨_,_,ha4e⟩<;>subst ha4e<;>kernel_rfl),(HP.pick hH [0] rfl)⟩).mono ?_)
 ·clear h ho1026
  rintro ⟨i8,l9⟩ o s h hR
  obtain ⟨a6,H7,rfl,hH⟩:=hR
  replace hH:HP H7 [.arr a6 5 false (List.map ZK l9)]:=hH
  have hfa6:=Zu (HP.get hH 0 rfl)
  replace h:Zb3 N a0_ a1_ a2_ a3_ i8 l9=some o:=h
  unfold Zb3 at h
  refine sq (sq ?_)
  refine rgS ⟨[(3,Zk false a3_),(4,.loc 4 0),(5,.loc 5 0),(6,.loc 6 0),(9,a6),(10,iv i8),(30,bv (decide (i8<((List.length a3_:Nat):Int))))],[(4,(Za a0_)),(5,(Zn a1_)),(6,(Ze a2_))],H7⟩ (Zb.u 2 (Zo (ys:=[Zk false a3_]) (h:=ZB eI64)) Zb.f) (by rcases hfa6 with ha6e | ⟨_,_,ha6e⟩<;>subst ha6e<;>kernel_rfl) ?_
  refine tq (it h (fun hc512 h => ?_) (fun hc512 h => ?_))
  ·refine sk (tq ?_)
   refine kq (sq ?_)
   refine bk (sq ?_)
   obtain ⟨e513,he513,h⟩:=bs h
   obtain ⟨id514,ver515,_,hid514f,hid514,hid514a,hid514v⟩:=HP.elem (k:=0) (a:=a6) (sz:=5) (frz:=false) ZK hH rfl he513
   refine rgS ⟨[(3,Zk false a3_),(4,.loc 4 0),(5,.loc 5 0),(6,.loc 6 0),(9,a6),(10,iv i8),(11,.loc 11 0)],[(4,(Za a0_)),(5,(Zn a1_)),(6,(Ze a2_)),(11,(Za7 e513))],H7⟩ (Zb.u 3 (Zo (ys:=[a6,iv (w64 (i8 - 1))]) (by rcases hfa6 with ha6e | ⟨_,_,ha6e⟩<;>subst ha6e<;>kernel_rfl) (hid514v .i64)) (Zb.u 0 (ZbD (H:=H7) (off:=0) (cs:=[.int .i64 e513.Port,.int .i64 e513.Early,.int .i64 e513.Late,.int .i64 e513.Open,.int .i64 e513.Long]) (r:=.agg (Za7 e513)) ZK he513 hid514) (Zb.f (h:=(by rcases hfa6 with ha6e | ⟨_,_,ha6e⟩<;>subst ha6e<;>kernel_rfl))))) (by rcases hfa6 with ha6e | ⟨_,_,ha6e⟩<;>subst ha6e<;>kernel_rfl) ?_
   refine tq (sq ?_)
   obtain ⟨r516,hr516,h⟩:=bs h
   refine rqS ⟨[(3,Zk false a3_),(4,.loc 4 0),(5,.loc 5 0),(6,.loc 6 0),(9,a6),(10,iv i8),(12,iv (w64 ((w64 ((w64 (e513.Open+e513.Long))+r516))+a1_.Proc)))],[(4,(Za a0_)),(5,(Zn a1_)),(6,(Ze a2_))],H7⟩ (Zb.u 8 (Zaw (hc:=ZgW N a0_ e513.Port r516 hr516)) Zb.f) (by rcases hfa6 with ha6e | ⟨_,_,ha6e⟩<;>subst ha6e<;>kernel_rfl) ?_
   refine tq (sq ?_)
   obtain ⟨e517,he517,h⟩:=bs h
   obtain ⟨e518,he518,h⟩:=bs h
   obtain ⟨r519,hr519,h⟩:=bs h
   refine rqS (hs:=(by rcases hfa6 with ha6e | ⟨_,_,ha6e⟩<;>subst ha6e<;>kernel_rfl)) ⟨[(3,Zk false a3_),(4,.loc 4 0),(5,.loc 5 0),(6,.loc 6 0),(9,a6),(10,iv i8),(13,.loc 13 0)],[(4,(Za a0_)),(5,(Zn a1_)),(6,(Ze a2_)),(13,[iv e517,iv (w64 ((w64 ((w64 ((w64 (e513.Open+e513.Long))+r516))+a1_.Proc)) - (w64 (2 * a1_.Slack)))),iv (w64 ((w64 ((w64 ((w64 (e513.Open+e513.Long))+r516))+a1_.Proc))+(w64 (2 * a1_.Slack)))),iv 0,iv (w64 (a2_.Size * r519))])],H7⟩ (Zb.u 2 (Zo (ys:=[Zk false a3_,iv i8]) (h:=Zg eI64 he517)) (Zb.u 0 (Zw (Zq (sz:=1) (off:=0) (cs:=[.int .i64 e517]) (r:=iv e517) eI64 he517)) (Zb.u 15 (Zo (ys:=[Zk false a3_,iv i8]) (h:=Zg eI64 he518)) (Zb.u 0 (Zw (Zq (sz:=1) (off:=0) (cs:=[.int .i64 e518]) (r:=iv e518) eI64 he518)) (Zb.u 0 (Zaw (hc:=Zih N a0_ e518 r519 hr519)) (Zb.f (h:=(by rcases hfa6 with ha6e | ⟨_,_,ha6e⟩<;>subst ha6e<;>kernel_rfl)))))))) (by rcases hfa6 with ha6e | ⟨_,_,ha6e⟩<;>subst ha6e<;>kernel_rfl) ?_
   refine tq (sq ?_)
   refine bk ?_
   obtain ⟨o1022,ho1022,h⟩:=bs h
   refine Z8 ((ZT (fun (x:Int) s=>s=⟨[(3,Zk false a3_),(4,.loc 4 0),(5,.loc 5 0),(6,.loc 6 0),(9,a6),(10,iv i8),(13,.loc 13 0)],[(4,(Za a0_)),(5,(Zn a1_)),(6,(Ze a2_)),(13,[iv e517,iv (w64 ((w64 ((w64 ((w64 (e513.Open+e513.Long))+r516))+a1_.Proc)) - (w64 (2 * a1_.Slack)))),iv (w64 ((w64 ((w64 ((w64 (e513.Open+e513.Long))+r516))+a1_.Proc))+(w64 (2 * a1_.Slack)))),iv x,iv (w64 (a2_.Size * r519))])],H7⟩) (fun x:Int=>Zdp N a1_ e513 r516 x) (fun (p:Int) e s=>e = .exit 2∧(s=⟨[(3,Zk false a3_),(4,.loc 4 0),(5,.loc 5 0),(6,.loc 6 0),(9,a6),(10,iv i8),(13,.loc 13 0)],[(4,(Za a0_)),(5,(Zn a1_)),(6,(Ze a2_)),(13,[iv e517,iv (w64 ((w64 ((w64 ((w64 (e513.Open+e513.Long))+r516))+a1_.Proc)) - (w64 (2 * a1_.Slack)))),iv (w64 ((w64 ((w64 ((w64 (e513.Open+e513.Long))+r516))+a1_.Proc))+(w64 (2 * a1_.Slack)))),iv p,iv (w64 (a2_.Size * r519))])],H7⟩)) ?_ N _ o1022 _ ho1022 (by show _=_;rcases hfa6 with ha6e | ⟨_,_,ha6e⟩<;>subst ha6e<;>kernel_rfl)).mono ?_)
   ·clear h ho1022
    rintro i520 o s h hR
    obtain rfl:=hR
    replace h:Zdp N a1_ e513 r516 i520=some o:=h
    unfold Zdp at h
    refine sq (sq ?_)
    refine rgS ⟨[(3,Zk false a3_),(4,.loc 4 0),(5,.loc 5 0),(6,.loc 6 0),(9,a6),(10,iv i8),(13,.loc 13 0),(79,bv (decide (i520<(w64 ((w64 ((w64 ((w64 (e513.Open+e513.Long))+r516))+a1_.Proc))+(w64 (2 * a1_.Slack)))))))],[(4,(Za a0_)),(5,(Zn a1_)),(6,(Ze a2_)),(13,[iv e517,iv (w64 ((w64 ((w64 ((w64 (e513.Open+e513.Long))+r516))+a1_.Proc)) - (w64 (2 * a1_.Slack)))),iv (w64 ((w64 ((w64 ((w64 (e513.Open+e513.Long))+r516))+a1_.Proc))+(w64 (2 * a1_.Slack)))),iv i520,iv (w64 (a2_.Size * r519))])],H7⟩ Zb.f (by rcases hfa6 with ha6e | ⟨_,_,ha6e⟩<;>subst ha6e<;>kernel_rfl) ?_
    refine tq (it h (fun hc1021 h => ?_) (fun hc1021 h => ?_))
    ·refine sk (tq ?_)
     refine kq (bk ?_)
     refine rgS ⟨[(3,Zk false a3_),(4,.loc 4 0),(5,.loc 5 0),(6,.loc 6 0),(9,a6),(10,iv i8),(13,.loc 13 0)],[(4,(Za a0_)),(5,(Zn a1_)),(6,(Ze a2_)),(13,[iv e517,iv (w64 ((w64 ((w64 ((w64 (e513.Open+e513.Long))+r516))+a1_.Proc)) - (w64 (2 * a1_.Slack)))),iv (w64 ((w64 ((w64 ((w64 (e513.Open+e513.Long))+r516))+a1_.Proc))+(w64 (2 * a1_.Slack)))),iv (w64 (i520+a1_.Grid)),iv (w64 (a2_.Size * r519))])],H7⟩ Zb.f (by rcases hfa6 with ha6e | ⟨_,_,ha6e⟩<;>subst ha6e<;>kernel_rfl) ?_
     refine bn ?_
     obtain rfl:=Zc h
     exact ⟨_,rfl,(by show _=_;rcases hfa6 with ha6e | ⟨_,_,ha6e⟩<;>subst ha6e<;>kernel_rfl)⟩
    refine kq (xq ?_)
    refine tx ?_
    obtain rfl:=Zc h
    exact ⟨_,rfl,rfl,(by show _=_;rcases hfa6 with ha6e | ⟨_,_,ha6e⟩<;>subst ha6e<;>kernel_rfl)⟩
   rintro e s hq
   obtain ⟨rfl,hR⟩:=hq
   obtain rfl:=hR
   refine bx (tq ?_)
   obtain ⟨l1025,hl1025,h⟩:=bs h
   obtain ⟨a1023,H1024,ha1023,hH⟩:=HP.app (k:=0) (a:=a6) (sz:=5) (frz:=false) ZK hH rfl hl1025
   replace hH:HP H1024 [.arr a1023 5 false (List.map ZK l1025)]:=hH
   have hfa1023:=Zu (HP.get hH 0 rfl)
   refine rgS ⟨[(3,Zk false a3_),(4,.loc 4 0),(5,.loc 5 0),(6,.loc 6 0),(9,a1023),(10,iv i8)],[(4,(Za a0_)),(5,(Zn a1_)),(6,(Ze a2_))],H1024⟩ (Zb.h 3 (ZdH (H:=H7) (a:=a6) (b:=Z1 true [(ZJ.mk e517 (w64 ((w64 ((w64 ((w64 (e513.Open+e513.Long))+r516))+a1_.Proc)) - (w64 (2 * a1_.Slack)))) (w64 ((w64 ((w64 ((w64 (e513.Open+e513.Long))+r516))+a1_.Proc))+(w64 (2 * a1_.Slack)))) o1022 (w64 (a2_.Size * r519)))]) (by rcases hfa6 with ha6e | ⟨_,_,ha6e⟩<;>subst ha6e<;>kernel_rfl) (by rcases hfa6 with ha6e | ⟨_,_,ha6e⟩<;>subst ha6e<;>kernel_rfl) (by rcases hfa6 with ha6e | ⟨_,_,ha6e⟩<;>subst ha6e<;>kernel_rfl) (by rcases hfa6 with ha6e | ⟨_,_,ha6e⟩<;>subst ha6e<;>kernel_rfl) ha1023) Zb.f) (by rcases hfa1023 with ha1023e | ⟨_,_,ha1023e⟩<;>rcases hfa6 with ha6e | ⟨_,_,ha6e⟩<;>subst ha1023e ha6e<;>kernel_rfl) ?_
   refine bn (tq ?_)
   refine rgS ⟨[(3,Zk false a3_),(4,.loc 4 0),(5,.loc 5 0),(6,.loc 6 0),(9,a1023),(10,iv (w64 (i8+1)))],[(4,(Za a0_)),(5,(Zn a1_)),(6,(Ze a2_))],H1024⟩ Zb.f (by rcases hfa1023 with ha1023e | ⟨_,_,ha1023e⟩<;>subst ha1023e<;>kernel_rfl) ?_
   obtain rfl:=Zc h
   exact ⟨_,rfl,⟨a1023,H1024,(by show _=_;rcases hfa1023 with ha1023e | ⟨_,_,ha1023e⟩<;>subst ha1023e<;>kernel_rfl),(HP.pick hH [0] rfl)⟩⟩
  refine kq (xq ?_)
  refine tx ?_
  obtain rfl:=Zc h
  exact ⟨_,rfl,rfl,⟨a6,H7,(by show _=_;rcases hfa6 with ha6e | ⟨_,_,ha6e⟩<;>subst ha6e<;>kernel_rfl),(HP.pick hH [0] rfl)⟩⟩
 rintro e s hq
 obtain ⟨rfl,hR⟩:=hq
 obtain ⟨a510,H511,rfl,hH⟩:=hR
 replace hH:HP H511 [.arr a510 5 false (List.map ZK o1026)]:=hH
 have hfa510:=Zu (HP.get hH 0 rfl)
 refine bx (tq ?_)
 refine sq (rgS ⟨[(8,a510)],[],H511⟩ Zb.f (by rcases hfa510 with ha510e | ⟨_,_,ha510e⟩<;>subst ha510e<;>kernel_rfl) ?_)
 refine tq (rt ?_)
 obtain rfl:=Zc h
 exact ZdO (H:=H511) (ys:=[a510]) (xs:=[.p (.sl 5 false (List.map ZK o1026))]) (by rcases hfa510 with ha510e | ⟨_,_,ha510e⟩<;>subst ha510e<;>kernel_rfl) (by rcases hfa510 with ha510e | ⟨_,_,ha510e⟩<;>subst ha510e<;>kernel_rfl) (ZaU (HP.pure (k:=0) (frz:=false) ZK hH rfl).2 ZbM) (by kernel_rfl)
theorem ZlM (N:Nat) (a0_:Zi) (a1_:ZE) (a2_:Zm) (a3_:(List Int)) (r:Int) (h:Zhn N a0_ a1_ a2_ a3_=some r):Zal Try.prog 36 [.agg (Za a0_),.agg (Zn a1_),.agg (Ze a2_),Zk false a3_] (iv r):=by
 unfold Zhn at h
 have hH:HP ([]:List HO) []:=trivial
 refine ZF chk36 rfl rfl (Zv _ _ _ ?_) rfl
 refine sq (rg Zb.f ?_)
 refine tq (sq ?_)
 obtain ⟨r1,hr1,h⟩:=bs h
 refine rg (Zb.v 4 (Zs (hc:=Zif N a0_ a1_ a2_ a3_ r1 hr1)) Zb.f) (tq ?_)
 refine sq ?_
 obtain ⟨e2,he2,h⟩:=bs h
 refine rg (Zb.u 2 (Zo (ys:=[Z1 false r1]) (h:=ZB ZK)) (Zb.u 1 (Zo (ys:=[Z1 false r1,iv (w64 (((List.length r1:Nat):Int) - 1))]) (h:=Zg ZK he2)) (Zb.u 0 (Zq (sz:=5) (off:=0) (cs:=[.int .i64 e2.Port,.int .i64 e2.Early,.int .i64 e2.Late,.int .i64 e2.Open,.int .i64 e2.Long]) (r:=.agg (Za7 e2)) ZK he2) Zb.f))) (tq ?_)
 refine sq ?_
 obtain ⟨r3,hr3,h⟩:=bs h
 refine rq (Zb.u 8 (Zaw (hc:=ZgW N a0_ e2.Port r3 hr3)) Zb.f) (tq ?_)
 refine rt ?_
 obtain rfl:=Zc h
 exact ZC (by kernel_rfl)
theorem Zj7 (N:Nat) (a0_:ZE) (r:Bool) (h:ZeL N a0_=some r):Zal Try.prog 41 [.agg (Zn a0_)] (bv r):=by
 unfold ZeL at h
 have hH:HP ([]:List HO) []:=trivial
 refine ZF chk41 rfl rfl (Zv _ _ _ ?_) rfl
 refine sq (rg Zb.f ?_)
 refine tq (sq ?_)
 obtain ⟨j11,hj,h⟩:=bs h
 refine rgR (fun s=>s=⟨[(2,bv j11)],[],[]⟩) ?_ ?_
 ·clear h
  obtain ⟨r1,hr1,hj⟩:=bs hj
  rcases Zt hj with ⟨hc2,hj⟩ | ⟨hc10,hj⟩
  ·refine (EP.h 2 (Zbs (by kernel_rfl) (ZaR N a0_.Grid 1 10000 r1 hr1) hc2) ?_)
   obtain ⟨r3,hr3,hj⟩:=bs hj
   rcases Zt hj with ⟨hc4,hj⟩ | ⟨hc9,hj⟩
   ·refine (EP.h 3 (Zbs (by kernel_rfl) (ZaR N a0_.Slack 0 1000 r3 hr3) hc4) ?_)
    obtain ⟨r5,hr5,hj⟩:=bs hj
    rcases Zt hj with ⟨hc6,hj⟩ | ⟨hc8,hj⟩
    ·refine (EP.h 4 (Zbs (by kernel_rfl) (ZaR N a0_.Proc 0 10000 r5 hr5) hc6) ?_)
     obtain ⟨r7,hr7,hj⟩:=bs hj
     obtain rfl:=Zc hj
     exact (EP.v 4 (Zs (hc:=ZaR N a0_.Cap 1542 65536 r7 hr7)) (EP.f (by show _=_;kernel_rfl)))
    obtain rfl:=Zc hj
    exact (EP.h 4 (Zbs (by kernel_rfl) (ZaR N a0_.Proc 0 10000 r5 hr5) hc8) (EP.f (by show _=_;kernel_rfl)))
   obtain rfl:=Zc hj
   exact (EP.h 3 (Zbs (by kernel_rfl) (ZaR N a0_.Slack 0 1000 r3 hr3) hc9) (EP.f (by show _=_;kernel_rfl)))
  obtain rfl:=Zc hj
  exact (EP.h 2 (Zbs (by kernel_rfl) (ZaR N a0_.Grid 1 10000 r1 hr1) hc10) (EP.f (by show _=_;kernel_rfl)))
 clear hj
 rintro s hR
 obtain rfl:=hR
 refine tq (rt ?_)
 obtain rfl:=Zc h
 exact ZC (by kernel_rfl)
theorem Zhq (N:Nat) (a0_:Zi) (a1_:Zy) (r:Bool) (h:Zey N a0_ a1_=some r):Zal Try.prog 43 [.agg (Za a0_),.agg (ZR a1_)] (bv r):=by
 unfold Zey at h
 have hH:HP ([]:List HO) []:=trivial
 refine ZF chk43 rfl rfl (Zv _ _ _ ?_) rfl
 refine sq (rg Zb.f ?_)
 refine tq (sq ?_)
 refine sq ?_
 obtain ⟨j13,hj,h⟩:=bs h
 refine rgR (fun s=>s=⟨[(3,.loc 3 0),(39,bv j13)],[(3,(ZR a1_))],[]⟩) ?_ ?_
 ·clear h
  obtain ⟨r1,hr1,hj⟩:=bs hj
  refine (EP.v 3 (Zs (hc:=Zho N a0_ a1_.A r1 hr1)) ?_)
  rcases Zt hj with ⟨hc2,hj⟩ | ⟨hc3,hj⟩
  ·obtain rfl:=Zc hj
   exact (EP.u 0 (Zj (c:=(!r1)) (h:=hc2)) (EP.f (by show _=_;kernel_rfl)))
  refine (EP.u 0 (Zj (c:=(!r1)) (h:=hc3)) ?_)
  obtain ⟨r4,hr4,hj⟩:=bs hj
  refine (EP.v 4 (Zs (hc:=Zho N a0_ a1_.B r4 hr4)) ?_)
  rcases Zt hj with ⟨hc5,hj⟩ | ⟨hc6,hj⟩
  ·obtain rfl:=Zc hj
   exact (EP.u 0 (Zj (c:=(!r4)) (h:=hc5)) (EP.f (by show _=_;kernel_rfl)))
  refine (EP.u 0 (Zj (c:=(!r4)) (h:=hc6)) ?_)
  rcases Zt hj with ⟨hc7,hj⟩ | ⟨hc8,hj⟩
  ·obtain rfl:=Zc hj
   exact (EP.u 6 (Zj (c:=(a1_.A==a1_.B)) (h:=hc7)) (EP.f (by show _=_;kernel_rfl)))
  refine (EP.u 6 (Zj (c:=(a1_.A==a1_.B)) (h:=hc8)) ?_)
  obtain ⟨e9,he9,hj⟩:=bs hj
  refine (EP.u 6 (Zo (ys:=[s_eB false a0_.Station,iv a1_.A]) (h:=Zg eB he9)) ?_)
  rcases Zt hj with ⟨hc10,hj⟩ | ⟨hc12,hj⟩
  ·refine (EP.u 0 (ZH.bool (Zq (sz:=1) (off:=0) (cs:=[.bool e9]) (r:=bv e9) eB he9) hc10) ?_)
   obtain ⟨e11,he11,hj⟩:=bs hj
   obtain rfl:=Zc hj
   exact (EP.u 5 (Zo (ys:=[s_eB false a0_.Station,iv a1_.B]) (h:=Zg eB he11)) (EP.u 0 (Zq (sz:=1) (off:=0) (cs:=[.bool e11]) (r:=bv e11) eB he11) (EP.f (by show _=_;kernel_rfl))))
  obtain rfl:=Zc hj
  exact (EP.u 0 (ZH.bool (Zq (sz:=1) (off:=0) (cs:=[.bool e9]) (r:=bv e9) eB he9) hc12) (EP.f (by show _=_;kernel_rfl)))
 clear hj
 rintro s hR
 obtain rfl:=hR
 refine tq (it h (fun hc14 h => ?_) (fun hc14 h => ?_))
 ·refine sq (rg Zb.f ?_)
  refine tq (rt ?_)
  refine tr ?_
  obtain rfl:=Zc h
  exact ZC (by kernel_rfl)
 refine sk (tq ?_)
 refine kq (sq ?_)
 refine rgX ⟨[(4,bv ((decide (a1_.Per ≥ 1))&&((decide (a1_.Per≤1000))&&((decide (a1_.Delay ≥ 0))&&(decide (a1_.Delay≤10000))))))],[],[]⟩ ?_ ?_
 ·rcases Bool.eq_false_or_eq_true (decide (a1_.Per ≥ 1)) with hc15 | hc20
  ·refine (EP.u 2 (Zj (c:=(decide (a1_.Per ≥ 1))) (h:=hc15)) ?_)
   rcases Bool.eq_false_or_eq_true (decide (a1_.Per≤1000)) with hc16 | hc19
   ·refine (EP.u 3 (Zj (c:=(decide (a1_.Per≤1000))) (h:=hc16)) ?_)
    rcases Bool.eq_false_or_eq_true (decide (a1_.Delay ≥ 0)) with hc17 | hc18
    ·exact (EP.u 4 (Zj (c:=(decide (a1_.Delay ≥ 0))) (h:=hc17)) (EP.f (by simp only [hc15,hc16,hc17];kernel_rfl)))
    exact (EP.u 4 (Zj (c:=(decide (a1_.Delay ≥ 0))) (h:=hc18)) (EP.f (by simp only [hc15,hc16,hc18];kernel_rfl)))
   exact (EP.u 3 (Zj (c:=(decide (a1_.Per≤1000))) (h:=hc19)) (EP.f (by simp only [hc15,hc19];kernel_rfl)))
  exact (EP.u 2 (Zj (c:=(decide (a1_.Per ≥ 1))) (h:=hc20)) (EP.f (by simp only [hc20];kernel_rfl)))
 refine tq (rt ?_)
 obtain rfl:=Zc h
 exact ZC (by kernel_rfl)
theorem Zkc (N:Nat) (a0_:Zi) (a1_:Int) (a2_:(List Int)) (r:(List Bool)) (h:ZeN N a0_ a1_ a2_=some r):Zal Try.prog 45 [.agg (Za a0_),iv a1_,Zk false a2_] (s_eB false r):=by
 unfold ZeN at h
 have hH:HP ([]:List HO) []:=trivial
 refine ZF chk45 rfl rfl (Zv _ _ _ ?_) rfl
 refine sq (rg Zb.f ?_)
 refine tq (sq ?_)
 obtain ⟨l3,hl3,h⟩:=bs h
 obtain ⟨a1,H2,ha1,hH2,ha1b,hH⟩:=HP.make eB hH hl3
 replace hH:HP H2 [.arr a1 1 false (List.map eB l3)]:=hH
 have hfa1:=Zu (HP.get hH 0 rfl)
 refine rgS ⟨[(1,iv a1_),(2,Zk false a2_),(3,.loc 3 0),(7,a1)],[(3,(Za a0_))],H2⟩ (Zb.h 2 (Zi6 (H:=[]) (zero:=[.bool false]) (bytes:=1) (by kernel_rfl) (by kernel_rfl) (by kernel_rfl) ha1 hH2 ha1b) Zb.f) (by rcases hfa1 with ha1e | ⟨_,_,ha1e⟩<;>subst ha1e<;>kernel_rfl) ?_
 refine tq (sq ?_)
 obtain ⟨e4,he4,h⟩:=bs h
 obtain ⟨id5,ver6,_,hid5f,hid5,hid5a,hid5v⟩:=HP.elem (k:=0) (a:=a1) (sz:=1) (frz:=false) eB hH rfl he4
 obtain ⟨H7,hH7,hH⟩:=HP.setRow (k:=0) (off:=0) (cs:=[bv true]) (ps:=[.bool true]) (e':=true) eB hH rfl hid5a hid5 (hid5f rfl) he4 (by kernel_rfl) (by kernel_rfl)
 replace hH:HP H7 [.arr a1 1 false (List.map eB (List.set l3 (Int.toNat a1_) true))]:=hH
 refine rgS ⟨[(2,Zk false a2_),(3,.loc 3 0),(7,a1)],[(3,(Za a0_))],H7⟩ (Zb.u 2 (Zo (ys:=[a1,iv a1_]) (by rcases hfa1 with ha1e | ⟨_,_,ha1e⟩<;>subst ha1e<;>kernel_rfl) (hid5v .i64)) (Zb.o 0 (ZaD (H:=H2) (v:=bv true) (hw:=hH7)) Zb.f)) (by rcases hfa1 with ha1e | ⟨_,_,ha1e⟩<;>subst ha1e<;>kernel_rfl) ?_
 refine tq (sq ?_)
 refine sq (rgS ⟨[(2,Zk false a2_),(3,.loc 3 0),(7,a1),(8,iv 0)],[(3,(Za a0_))],H7⟩ Zb.f (by rcases hfa1 with ha1e | ⟨_,_,ha1e⟩<;>subst ha1e<;>kernel_rfl) ?_)
 refine tq (bk ?_)
 obtain ⟨o1548,ho1548,h⟩:=bs h
 refine Z8 ((ZT (fun (x:Int × (List Bool)) s=>∃ (a8:AV) (H9:List HO),s=⟨[(2,Zk false a2_),(3,.loc 3 0),(7,a8),(8,iv x.1)],[(3,(Za a0_))],H9⟩∧HP H9 [.arr a8 1 false (List.map eB x.2)]) (fun x:Int × (List Bool)=>Zbo N a0_ a2_ x.1 x.2) (fun (p:(List Bool)) e s=>e = .exit 0∧(∃ (a512:AV) (H513:List HO),s=⟨[(7,a512)],[],H513⟩∧HP H513 [.arr a512 1 false (List.map eB p)])) ?_ N _ o1548 _ ho1548 ⟨a1,H7,(by show _=_;rcases hfa1 with ha1e | ⟨_,_,ha1e⟩<;>subst ha1e<;>kernel_rfl),(HP.pick hH [0] rfl)⟩).mono ?_)
 ·clear h ho1548
  rintro ⟨i10,l11⟩ o s h hR
  obtain ⟨a8,H9,rfl,hH⟩:=hR
  replace hH:HP H9 [.arr a8 1 false (List.map eB l11)]:=hH
  have hfa8:=Zu (HP.get hH 0 rfl)
  replace h:Zbo N a0_ a2_ i10 l11=some o:=h
  unfold Zbo at h
  refine sq (sq ?_)
  refine rgS ⟨[(2,Zk false a2_),(3,.loc 3 0),(7,a8),(8,iv i10),(20,bv (decide (i10<a0_.Nodes)))],[(3,(Za a0_))],H9⟩ Zb.f (by rcases hfa8 with ha8e | ⟨_,_,ha8e⟩<;>subst ha8e<;>kernel_rfl) ?_
  refine tq (it h (fun hc514 h => ?_) (fun hc514 h => ?_))
  ·refine sk (tq ?_)
   refine kq (sq ?_)
   refine bk (sq ?_)
   refine rgS ⟨[(2,Zk false a2_),(3,.loc 3 0),(7,a8),(8,iv i10),(9,iv 0)],[(3,(Za a0_))],H9⟩ Zb.f (by rcases hfa8 with ha8e | ⟨_,_,ha8e⟩<;>subst ha8e<;>kernel_rfl) ?_
   refine tq (bk ?_)
   obtain ⟨o1547,ho1547,h⟩:=bs h
   refine Z8 ((ZT (fun (x:Int × (List Bool)) s=>∃ (a515:AV) (H516:List HO),s=⟨[(2,Zk false a2_),(3,.loc 3 0),(7,a515),(8,iv i10),(9,iv x.1)],[(3,(Za a0_))],H516⟩∧HP H516 [.arr a515 1 false (List.map eB x.2)]) (fun x:Int × (List Bool)=>Za3 N a0_ a2_ x.1 x.2) (fun (p:(List Bool)) e s=>e = .exit 2∧(∃ (a1019:AV) (H1020:List HO),s=⟨[(2,Zk false a2_),(3,.loc 3 0),(7,a1019),(8,iv i10)],[(3,(Za a0_))],H1020⟩∧HP H1020 [.arr a1019 1 false (List.map eB p)])) ?_ N _ o1547 _ ho1547 ⟨a8,H9,(by show _=_;rcases hfa8 with ha8e | ⟨_,_,ha8e⟩<;>subst ha8e<;>kernel_rfl),(HP.pick hH [0] rfl)⟩).mono ?_)
   ·clear h ho1547
    rintro ⟨i517,l518⟩ o s h hR
    obtain ⟨a515,H516,rfl,hH⟩:=hR
    replace hH:HP H516 [.arr a515 1 false (List.map eB l518)]:=hH
    have hfa515:=Zu (HP.get hH 0 rfl)
    replace h:Za3 N a0_ a2_ i517 l518=some o:=h
    unfold Za3 at h
    refine sq (sq ?_)
    refine rgS ⟨[(2,Zk false a2_),(3,.loc 3 0),(7,a515),(8,iv i10),(9,iv i517),(27,bv (decide (i517<((List.length a0_.Links:Nat):Int))))],[(3,(Za a0_))],H516⟩ (Zb.u 3 (Zo (ys:=[Zh false a0_.Links]) (h:=ZB Zp)) Zb.f) (by rcases hfa515 with ha515e | ⟨_,_,ha515e⟩<;>subst ha515e<;>kernel_rfl) ?_
    refine tq (it h (fun hc1021 h => ?_) (fun hc1021 h => ?_))
    ·refine sk (tq ?_)
     refine kq ?_
     obtain ⟨j1524,hj1524,h⟩:=bs h
     refine Zcu [2,3,7,8,9] (fun s=>∃ (a1522:AV) (H1523:List HO),s=⟨[(2,Zk false a2_),(3,.loc 3 0),(7,a1522),(8,iv i10),(9,iv i517)],[(3,(Za a0_))],H1523⟩∧HP H1523 [.arr a1522 1 false (List.map eB j1524)]) ?_ ?_
     ·clear h
      have h:=hj1524
      refine bk (sq ?_)
      obtain ⟨e1525,he1525,h⟩:=bs h
      refine rgS ⟨[(2,Zk false a2_),(3,.loc 3 0),(7,a515),(8,iv i10),(9,iv i517),(10,.loc 10 0)],[(3,(Za a0_)),(10,(ZR e1525))],H516⟩ (Zb.u 3 (Zo (ys:=[Zh false a0_.Links,iv i517]) (h:=Zg Zp he1525)) (Zb.u 0 (Zq (sz:=4) (off:=0) (cs:=[.int .i64 e1525.A,.int .i64 e1525.B,.int .i64 e1525.Per,.int .i64 e1525.Delay]) (r:=.agg (ZR e1525)) Zp he1525) (Zb.f (h:=(by rcases hfa515 with ha515e | ⟨_,_,ha515e⟩<;>subst ha515e<;>kernel_rfl))))) (by rcases hfa515 with ha515e | ⟨_,_,ha515e⟩<;>subst ha515e<;>kernel_rfl) ?_
      refine tq (sq ?_)
      obtain ⟨j1537,hj,h⟩:=bs h
      refine rgR (fun s=>s=⟨[(2,Zk false a2_),(3,.loc 3 0),(7,a515),(8,iv i10),(9,iv i517),(10,.loc 10 0),(52,bv j1537)],[(3,(Za a0_)),(10,(ZR e1525))],H516⟩) ?_ ?_
      ·clear h
       obtain ⟨r1526,hr1526,hj⟩:=bs hj
       refine (EP.v 2 (Zs (hc:=ZfD N a2_ i517 r1526 hr1526)) ?_)
       rcases Zt hj with ⟨hc1527,hj⟩ | ⟨hc1536,hj⟩
       ·refine (EP.u 0 (Zj (c:=(!r1526)) (h:=hc1527)) ?_)
        obtain ⟨e1528,he1528,hj⟩:=bs hj
        obtain ⟨id1529,ver1530,_,hid1529f,hid1529,hid1529a,hid1529v⟩:=HP.elem (k:=0) (a:=a515) (sz:=1) (frz:=false) eB hH rfl he1528
        refine (EP.u 4 (Zo (ys:=[a515,iv e1525.A]) (by rcases hfa515 with ha515e | ⟨_,_,ha515e⟩<;>subst ha515e<;>kernel_rfl) (hid1529v .i64)) ?_)
        rcases Zt hj with ⟨hc1531,hj⟩ | ⟨hc1532,hj⟩
        ·obtain rfl:=Zc hj
         exact (EP.u 0 (ZH.bool (ZbD (H:=H516) (off:=0) (cs:=[.bool e1528]) (r:=bv e1528) eB he1528 hid1529) hc1531) (EP.f (by show _=_;rcases hfa515 with ha515e | ⟨_,_,ha515e⟩<;>subst ha515e<;>kernel_rfl)))
        refine (EP.u 0 (ZH.bool (ZbD (H:=H516) (off:=0) (cs:=[.bool e1528]) (r:=bv e1528) eB he1528 hid1529) hc1532) ?_)
        obtain ⟨e1533,he1533,hj⟩:=bs hj
        obtain ⟨id1534,ver1535,_,hid1534f,hid1534,hid1534a,hid1534v⟩:=HP.elem (k:=0) (a:=a515) (sz:=1) (frz:=false) eB hH rfl he1533
        obtain rfl:=Zc hj
        exact (EP.u 4 (Zo (ys:=[a515,iv e1525.B]) (by rcases hfa515 with ha515e | ⟨_,_,ha515e⟩<;>subst ha515e<;>kernel_rfl) (hid1534v .i64)) (EP.u 0 (ZbD (H:=H516) (off:=0) (cs:=[.bool e1533]) (r:=bv e1533) eB he1533 hid1534) (EP.f (by show _=_;rcases hfa515 with ha515e | ⟨_,_,ha515e⟩<;>subst ha515e<;>kernel_rfl))))
       obtain rfl:=Zc hj
       exact (EP.u 0 (Zj (c:=(!r1526)) (h:=hc1536)) (EP.f (by show _=_;rcases hfa515 with ha515e | ⟨_,_,ha515e⟩<;>subst ha515e<;>kernel_rfl)))
      clear hj
      rintro s hR
      obtain rfl:=hR
      refine tq (it h (fun hc1538 h => ?_) (fun hc1538 h => ?_))
      ·refine sq ?_
       obtain ⟨e1539,he1539,h⟩:=bs h
       obtain ⟨id1540,ver1541,_,hid1540f,hid1540,hid1540a,hid1540v⟩:=HP.elem (k:=0) (a:=a515) (sz:=1) (frz:=false) eB hH rfl he1539
       obtain ⟨H1542,hH1542,hH⟩:=HP.setRow (k:=0) (off:=0) (cs:=[bv true]) (ps:=[.bool true]) (e':=true) eB hH rfl hid1540a hid1540 (hid1540f rfl) he1539 (by kernel_rfl) (by kernel_rfl)
       replace hH:HP H1542 [.arr a515 1 false (List.map eB (List.set l518 (Int.toNat e1525.A) true))]:=hH
       refine rgS ⟨[(2,Zk false a2_),(3,.loc 3 0),(7,a515),(8,iv i10),(9,iv i517),(10,.loc 10 0)],[(3,(Za a0_)),(10,(ZR e1525))],H1542⟩ (Zb.u 3 (Zo (ys:=[a515,iv e1525.A]) (by rcases hfa515 with ha515e | ⟨_,_,ha515e⟩<;>subst ha515e<;>kernel_rfl) (hid1540v .i64)) (Zb.o 0 (ZaD (H:=H516) (v:=bv true) (hw:=hH1542)) Zb.f)) (by rcases hfa515 with ha515e | ⟨_,_,ha515e⟩<;>subst ha515e<;>kernel_rfl) ?_
       refine tq ?_
       obtain ⟨e1543,he1543,h⟩:=bs h
       obtain ⟨id1544,ver1545,_,hid1544f,hid1544,hid1544a,hid1544v⟩:=HP.elem (k:=0) (a:=a515) (sz:=1) (frz:=false) eB hH rfl he1543
       obtain ⟨H1546,hH1546,hH⟩:=HP.setRow (k:=0) (off:=0) (cs:=[bv true]) (ps:=[.bool true]) (e':=true) eB hH rfl hid1544a hid1544 (hid1544f rfl) he1543 (by kernel_rfl) (by kernel_rfl)
       replace hH:HP H1546 [.arr a515 1 false (List.map eB (List.set (List.set l518 (Int.toNat e1525.A) true) (Int.toNat e1525.B) true))]:=hH
       refine rgS ⟨[(2,Zk false a2_),(3,.loc 3 0),(7,a515),(8,iv i10),(9,iv i517)],[(3,(Za a0_))],H1546⟩ (Zb.u 3 (Zo (ys:=[a515,iv e1525.B]) (by rcases hfa515 with ha515e | ⟨_,_,ha515e⟩<;>subst ha515e<;>kernel_rfl) (hid1544v .i64)) (Zb.o 0 (ZaD (H:=H1542) (v:=bv true) (hw:=hH1546)) Zb.f)) (by rcases hfa515 with ha515e | ⟨_,_,ha515e⟩<;>subst ha515e<;>kernel_rfl) ?_
       refine bn ?_
       obtain rfl:=Zc h
       exact ⟨rfl,⟨a515,H1546,(by show _=_;rcases hfa515 with ha515e | ⟨_,_,ha515e⟩<;>subst ha515e<;>kernel_rfl),(HP.pick hH [0] rfl)⟩⟩
      refine sk (bn ?_)
      obtain rfl:=Zc h
      exact ⟨rfl,⟨a515,H516,(by show _=_;rcases hfa515 with ha515e | ⟨_,_,ha515e⟩<;>subst ha515e<;>kernel_rfl),(HP.pick hH [0] rfl)⟩⟩
     clear hj1524
     rintro s hR
     obtain ⟨a1522,H1523,rfl,hH⟩:=hR
     replace hH:HP H1523 [.arr a1522 1 false (List.map eB j1524)]:=hH
     have hfa1522:=Zu (HP.get hH 0 rfl)
     refine rgS ⟨[(2,Zk false a2_),(3,.loc 3 0),(7,a1522),(8,iv i10),(9,iv (w64 (i517+1)))],[(3,(Za a0_))],H1523⟩ Zb.f (by rcases hfa1522 with ha1522e | ⟨_,_,ha1522e⟩<;>subst ha1522e<;>kernel_rfl) ?_
     obtain rfl:=Zc h
     exact ⟨_,rfl,⟨a1522,H1523,(by show _=_;rcases hfa1522 with ha1522e | ⟨_,_,ha1522e⟩<;>subst ha1522e<;>kernel_rfl),(HP.pick hH [0] rfl)⟩⟩
    refine kq (xq ?_)
    refine tx ?_
    obtain rfl:=Zc h
    exact ⟨_,rfl,rfl,⟨a515,H516,(by show _=_;rcases hfa515 with ha515e | ⟨_,_,ha515e⟩<;>subst ha515e<;>kernel_rfl),(HP.pick hH [0] rfl)⟩⟩
   rintro e s hq
   obtain ⟨rfl,hR⟩:=hq
   obtain ⟨a1019,H1020,rfl,hH⟩:=hR
   replace hH:HP H1020 [.arr a1019 1 false (List.map eB o1547)]:=hH
   have hfa1019:=Zu (HP.get hH 0 rfl)
   refine bx (bn ?_)
   refine tq (rgS ⟨[(2,Zk false a2_),(3,.loc 3 0),(7,a1019),(8,iv (w64 (i10+1)))],[(3,(Za a0_))],H1020⟩ Zb.f (by rcases hfa1019 with ha1019e | ⟨_,_,ha1019e⟩<;>subst ha1019e<;>kernel_rfl) ?_)
   obtain rfl:=Zc h
   exact ⟨_,rfl,⟨a1019,H1020,(by show _=_;rcases hfa1019 with ha1019e | ⟨_,_,ha1019e⟩<;>subst ha1019e<;>kernel_rfl),(HP.pick hH [0] rfl)⟩⟩
  refine kq (xq ?_)
  refine tx ?_
  obtain rfl:=Zc h
  exact ⟨_,rfl,rfl,⟨a8,H9,(by show _=_;rcases hfa8 with ha8e | ⟨_,_,ha8e⟩<;>subst ha8e<;>kernel_rfl),(HP.pick hH [0] rfl)⟩⟩
 rintro e s hq
 obtain ⟨rfl,hR⟩:=hq
 obtain ⟨a512,H513,rfl,hH⟩:=hR
 replace hH:HP H513 [.arr a512 1 false (List.map eB o1548)]:=hH
 have hfa512:=Zu (HP.get hH 0 rfl)
 refine bx (tq ?_)
 refine sq (rgS ⟨[(6,a512)],[],H513⟩ Zb.f (by rcases hfa512 with ha512e | ⟨_,_,ha512e⟩<;>subst ha512e<;>kernel_rfl) ?_)
 refine tq (rt ?_)
 obtain rfl:=Zc h
 exact ZdO (H:=H513) (ys:=[a512]) (xs:=[.p (.sl 1 false (List.map eB o1548))]) (by rcases hfa512 with ha512e | ⟨_,_,ha512e⟩<;>subst ha512e<;>kernel_rfl) (by rcases hfa512 with ha512e | ⟨_,_,ha512e⟩<;>subst ha512e<;>kernel_rfl) (ZaU (HP.pure (k:=0) (frz:=false) eB hH rfl).2 ZbM) (by kernel_rfl)
theorem Zfg (N:Nat) (a0_:Zi) (a1_:(List Int)) (a2_:(List Int)) (r:Bool) (h:Zcy N a0_ a1_ a2_=some r):Zal Try.prog 52 [.agg (Za a0_),Zk false a1_,Zk false a2_] (bv r):=by
 unfold Zcy at h
 have hH:HP ([]:List HO) []:=trivial
 refine ZF chk52 rfl rfl (Zv _ _ _ ?_) rfl
 refine sq (rg Zb.f ?_)
 refine tq (sq ?_)
 refine sq (rg Zb.f ?_)
 refine tq (bk ?_)
 obtain ⟨o1011,ho1011,h⟩:=bs h
 refine Z8 ((ZT (fun (x:Int) s=>s=⟨[(1,Zk false a1_),(2,Zk false a2_),(3,.loc 3 0),(7,iv x)],[(3,(Za a0_))],[]⟩) (fun x:Int=>Zcc N a1_ a2_ x) (fun (p:(Unit) ⊕ (Bool)) e s=>match p with | (.inl p)=>e = .exit 0∧(s=⟨[(1,Zk false a1_),(2,Zk false a2_),(3,.loc 3 0)],[(3,(Za a0_))],[]⟩) | (.inr p)=>e = .ret∧∃ xs,resL s i52.res=some xs∧Zbr xs=bv p) ?_ N _ o1011 _ ho1011 (by show _=_;kernel_rfl)).mono ?_)
 ·clear h ho1011
  rintro i1 o s h hR
  obtain rfl:=hR
  replace h:Zcc N a1_ a2_ i1=some o:=h
  unfold Zcc at h
  refine sq (sq ?_)
  refine rg (Zb.u 2 (Zo (ys:=[Zk false a1_]) (h:=ZB eI64)) Zb.f) (tq ?_)
  refine it h (fun hc502 h => ?_) (fun hc502 h => ?_)
  ·refine sk (tq ?_)
   refine kq (sq ?_)
   refine bk (sq ?_)
   refine rg Zb.f (tq ?_)
   refine bk ?_
   obtain ⟨o1008,ho1008,h⟩:=bs h
   refine Z8 ((ZT (fun (x:Int) s=>s=⟨[(1,Zk false a1_),(2,Zk false a2_),(3,.loc 3 0),(7,iv i1),(8,iv x)],[(3,(Za a0_))],[]⟩) (fun x:Int=>Zcb N a1_ a2_ i1 x) (fun (p:(Unit) ⊕ (Bool)) e s=>match p with | (.inl p)=>e = .exit 2∧(s=⟨[(1,Zk false a1_),(2,Zk false a2_),(3,.loc 3 0),(7,iv i1)],[(3,(Za a0_))],[]⟩) | (.inr p)=>e = .ret∧∃ xs,resL s i52.res=some xs∧Zbr xs=bv p) ?_ N _ o1008 _ ho1008 (by show _=_;kernel_rfl)).mono ?_)
   ·clear h ho1008
    rintro i503 o s h hR
    obtain rfl:=hR
    replace h:Zcb N a1_ a2_ i1 i503=some o:=h
    unfold Zcb at h
    refine sq (sq ?_)
    refine rg (Zb.u 2 (Zo (ys:=[Zk false a2_]) (h:=ZB eI64)) Zb.f) (tq ?_)
    refine it h (fun hc1004 h => ?_) (fun hc1004 h => ?_)
    ·refine sk (tq ?_)
     refine kq (sq ?_)
     refine bk (sq ?_)
     obtain ⟨e1005,he1005,h⟩:=bs h
     obtain ⟨e1006,he1006,h⟩:=bs h
     refine rq (Zb.u 2 (Zo (ys:=[Zk false a1_,iv i1]) (h:=Zg eI64 he1005)) (Zb.u 0 (Zw (Zq (sz:=1) (off:=0) (cs:=[.int .i64 e1005]) (r:=iv e1005) eI64 he1005)) (Zb.u 3 (Zo (ys:=[Zk false a2_,iv i503]) (h:=Zg eI64 he1006)) (Zb.u 0 (Zw (Zq (sz:=1) (off:=0) (cs:=[.int .i64 e1006]) (r:=iv e1006) eI64 he1006)) Zb.f)))) (tq ?_)
     refine it h (fun hc1007 h => ?_) (fun hc1007 h => ?_)
     ·refine sq (rg Zb.f ?_)
      refine tq (rt ?_)
      refine br (tr ?_)
      obtain rfl:=Zc h
      exact ⟨_,rfl,rfl,ZC (by kernel_rfl)⟩
     refine sk (bn ?_)
     refine tq (kq ?_)
     refine rg Zb.f ?_
     obtain rfl:=Zc h
     exact ⟨_,rfl,(by show _=_;kernel_rfl)⟩
    refine kq (xq ?_)
    refine tx ?_
    obtain rfl:=Zc h
    exact ⟨_,rfl,rfl,(by show _=_;kernel_rfl)⟩
   rintro e s hq
   rcases o1008 with p1009 | p1010
   ·dsimp only at h hq
    obtain ⟨rfl,hR⟩:=hq
    obtain rfl:=hR
    refine bx (bn ?_)
    refine tq (rg Zb.f ?_)
    obtain rfl:=Zc h
    exact ⟨_,rfl,(by show _=_;kernel_rfl)⟩
   dsimp only at h hq
   obtain ⟨rfl,hq⟩:=hq
   refine br (br ?_)
   refine tr ?_
   obtain rfl:=Zc h
   exact ⟨_,rfl,rfl,hq⟩
  refine kq (xq ?_)
  refine tx ?_
  obtain rfl:=Zc h
  exact ⟨_,rfl,rfl,(by show _=_;kernel_rfl)⟩
 rintro e s hq
 rcases o1011 with p1012 | p1022
 ·dsimp only at h hq
  obtain ⟨rfl,hR⟩:=hq
  obtain rfl:=hR
  refine bx (tq ?_)
  refine sq ?_
  obtain ⟨j1021,hj,h⟩:=bs h
  refine rqR (fun s=>s=⟨[(6,bv j1021)],[],[]⟩) ?_ ?_
  ·clear h
   obtain ⟨r1013,hr1013,hj⟩:=bs hj
   refine (EP.u 2 (Zaw (hc:=Zdb N a0_ a1_ r1013 hr1013)) ?_)
   obtain ⟨r1014,hr1014,hj⟩:=bs hj
   refine (EP.v 2 (Zs (hc:=Zdb N a0_ a2_ r1014 hr1014)) ?_)
   obtain ⟨r1015,hr1015,hj⟩:=bs hj
   refine (EP.v 0 (Zs (hc:=ZfU N r1013 r1014 r1015 hr1015)) ?_)
   rcases Zt hj with ⟨hc1016,hj⟩ | ⟨hc1020,hj⟩
   ·refine (EP.u 0 (Zj (c:=(!r1015)) (h:=hc1016)) ?_)
    obtain ⟨r1017,hr1017,hj⟩:=bs hj
    refine (EP.u 3 (Zaw (hc:=Zdb N a0_ a2_ r1017 hr1017)) ?_)
    obtain ⟨r1018,hr1018,hj⟩:=bs hj
    refine (EP.u 2 (Zaw (hc:=Zdb N a0_ a1_ r1018 hr1018)) ?_)
    obtain ⟨r1019,hr1019,hj⟩:=bs hj
    obtain rfl:=Zc hj
    exact (EP.u 0 (Zaw (hc:=ZfU N r1017 r1018 r1019 hr1019)) (EP.f (by show _=_;kernel_rfl)))
   obtain rfl:=Zc hj
   exact (EP.u 0 (Zj (c:=(!r1015)) (h:=hc1020)) (EP.f (by show _=_;kernel_rfl)))
  clear hj
  rintro s hR
  obtain rfl:=hR
  refine tq (rt ?_)
  obtain rfl:=Zc h
  exact ZC (by kernel_rfl)
 dsimp only at h hq
 obtain ⟨rfl,hq⟩:=hq
 refine br (tr ?_)
 obtain rfl:=Zc h
 exact hq
theorem Zei (N:Nat) (a0_:(List Bool)) (a1_:Bool) (r:Bool) (h:ZaK N a0_ a1_=some r):Zal Try.prog 54 [s_eB false a0_,bv a1_] (bv r):=by
 unfold ZaK at h
 have hH:HP ([]:List HO) []:=trivial
 refine ZF chk54 rfl rfl (Zv _ _ _ ?_) rfl
 refine sq (rg Zb.f ?_)
 refine tq (sq ?_)
 obtain ⟨r1,hr1,h⟩:=bs h
 refine rg (Zb.v 2 (Zs (hc:=ZeV N a0_ a1_ r1 hr1)) Zb.f) (tq ?_)
 refine rt ?_
 obtain rfl:=Zc h
 exact ZC (by kernel_rfl)
theorem ZhP (N:Nat) (c0_:Zi) (c1_:Zm) (k0_:Nat) (k1_:Nat) (H:List HO) (hH:HP H [.cel k0_ (Za c0_),.cel k1_ (Ze c1_)]) (r:Bool) (h:Zd0 N c0_ c1_=some r):ZbG Try.prog 57 [.ptr k0_ 0,.ptr k1_ 0] H (bv r) H:=by
 unfold Zd0 at h
 refine ZbB chk57 rfl rfl rfl (Zv _ _ _ ?_)
 refine sq (rg Zb.f ?_)
 refine tq (sq ?_)
 obtain ⟨j13,hj,h⟩:=bs h
 refine rgR (fun s=>s=⟨[(2,bv j13)],[],H⟩) ?_ ?_
 ·clear h
  have hlc1:=HP.get hH 0 rfl
  refine (EP.u 0 (ZA (H:=H) (id:=k0_) (off:=0) (cs:=(Za c0_)) (c:=(Za c0_)) (r:=.agg (Za c0_)) (hl:=hlc1)) ?_)
  have hlc2:=HP.get hH 1 rfl
  refine (EP.u 1 (ZA (H:=H) (id:=k1_) (off:=1) (cs:=(Ze c1_)) (c:=[iv c1_.Talker]) (r:=iv c1_.Talker) (hl:=hlc2)) ?_)
  obtain ⟨r3,hr3,hj⟩:=bs hj
  rcases Zt hj with ⟨hc4,hj⟩ | ⟨hc12,hj⟩
  ·refine (EP.h 0 (Zbs (by kernel_rfl) (ZcW N c0_ c1_.Talker r3 hr3) hc4) ?_)
   have hlc5:=HP.get hH 0 rfl
   refine (EP.u 1 (ZA (H:=H) (id:=k0_) (off:=0) (cs:=(Za c0_)) (c:=(Za c0_)) (r:=.agg (Za c0_)) (hl:=hlc5)) ?_)
   have hlc6:=HP.get hH 1 rfl
   refine (EP.u 1 (ZA (H:=H) (id:=k1_) (off:=2) (cs:=(Ze c1_)) (c:=[iv c1_.Listener]) (r:=iv c1_.Listener) (hl:=hlc6)) ?_)
   obtain ⟨r7,hr7,hj⟩:=bs hj
   rcases Zt hj with ⟨hc8,hj⟩ | ⟨hc11,hj⟩
   ·refine (EP.h 0 (Zbs (by kernel_rfl) (ZcW N c0_ c1_.Listener r7 hr7) hc8) ?_)
    have hlc9:=HP.get hH 1 rfl
    refine (EP.u 3 (ZA (H:=H) (id:=k1_) (off:=1) (cs:=(Ze c1_)) (c:=[iv c1_.Talker]) (r:=iv c1_.Talker) (hl:=hlc9)) ?_)
    have hlc10:=HP.get hH 1 rfl
    obtain rfl:=Zc hj
    exact (EP.u 1 (ZA (H:=H) (id:=k1_) (off:=2) (cs:=(Ze c1_)) (c:=[iv c1_.Listener]) (r:=iv c1_.Listener) (hl:=hlc10)) (EP.f (by show _=_;kernel_rfl)))
   obtain rfl:=Zc hj
   exact (EP.h 0 (Zbs (by kernel_rfl) (ZcW N c0_ c1_.Listener r7 hr7) hc11) (EP.f (by show _=_;kernel_rfl)))
  obtain rfl:=Zc hj
  exact (EP.h 0 (Zbs (by kernel_rfl) (ZcW N c0_ c1_.Talker r3 hr3) hc12) (EP.f (by show _=_;kernel_rfl)))
 clear hj
 rintro s hR
 obtain rfl:=hR
 refine tq (rt ?_)
 obtain rfl:=Zc h
 exact Za1 (by kernel_rfl) (by kernel_rfl)
theorem ZjQ (N:Nat) (a0_:Zbv) (r:Int) (h:Zfa N a0_=some r):Zal Try.prog 62 [.agg (Zee a0_)] (iv r):=by
 unfold Zfa at h
 have hH:HP ([]:List HO) []:=trivial
 refine ZF chk62 rfl rfl (Zv _ _ _ ?_) rfl
 refine sq (rg Zb.f ?_)
 refine tq (sq ?_)
 refine sq ?_
 obtain ⟨j5,hj,h⟩:=bs h
 refine rgR (fun s=>s=⟨[(12,bv j5)],[],[]⟩) ?_ ?_
 ·clear h
  obtain ⟨r1,hr1,hj⟩:=bs hj
  refine (EP.v 2 (Zs (hc:=Zeq N a0_.Burst 1 1048576 r1 hr1)) ?_)
  rcases Zt hj with ⟨hc2,hj⟩ | ⟨hc3,hj⟩
  ·obtain rfl:=Zc hj
   exact (EP.u 0 (Zj (c:=(!r1)) (h:=hc2)) (EP.f (by show _=_;kernel_rfl)))
  refine (EP.u 0 (Zj (c:=(!r1)) (h:=hc3)) ?_)
  obtain ⟨r4,hr4,hj⟩:=bs hj
  obtain rfl:=Zc hj
  exact (EP.v 3 (Zs (hc:=Zeq N a0_.Rate 1 2097152 r4 hr4)) (EP.f (by show _=_;kernel_rfl)))
 clear hj
 rintro s hR
 obtain rfl:=hR
 refine tq (it h (fun hc6 h => ?_) (fun hc6 h => ?_))
 ·refine sq (rg Zb.f ?_)
  refine tq (rt ?_)
  refine tr ?_
  obtain rfl:=Zc h
  exact ZC (by kernel_rfl)
 refine sk (tq ?_)
 refine kq (sq ?_)
 refine rg Zb.f (tq ?_)
 refine rt ?_
 obtain rfl:=Zc h
 exact ZC (by kernel_rfl)
theorem Zd5 (N:Nat) (a0_:Zi) (a1_:(List Int)) (r:Bool) (h:Zca N a0_ a1_=some r):Zal Try.prog 70 [.agg (Za a0_),Zk false a1_] (bv r):=by
 unfold Zca at h
 have hH:HP ([]:List HO) []:=trivial
 refine ZF chk70 rfl rfl (Zv _ _ _ ?_) rfl
 refine sq (rg Zb.f ?_)
 refine tq (sq ?_)
 refine sq (rgX ⟨[(1,Zk false a1_),(2,.loc 2 0),(15,bv ((decide (((List.length a1_:Nat):Int)<1))||(decide (((List.length a1_:Nat):Int) > 8))))],[(2,(Za a0_))],[]⟩ ?_ ?_)
 ·refine (EP.u 1 (Zo (ys:=[Zk false a1_]) (h:=ZB eI64)) ?_)
  rcases Bool.eq_false_or_eq_true (decide (((List.length a1_:Nat):Int)<1)) with hc1 | hc2
  ·exact (EP.u 0 (Zj (c:=(decide (((List.length a1_:Nat):Int)<1))) (h:=hc1)) (EP.f (by simp only [hc1];kernel_rfl)))
  exact (EP.u 0 (Zj (c:=(decide (((List.length a1_:Nat):Int)<1))) (h:=hc2)) (EP.u 2 (Zo (ys:=[Zk false a1_]) (h:=ZB eI64)) (EP.f (by simp only [hc2];kernel_rfl))))
 refine tq (it h (fun hc3 h => ?_) (fun hc3 h => ?_))
 ·refine sq (rg Zb.f ?_)
  refine tq (rt ?_)
  refine tr ?_
  obtain rfl:=Zc h
  exact ZC (by kernel_rfl)
 refine sk (tq ?_)
 refine kq (sq ?_)
 refine sq (rg Zb.f ?_)
 refine tq (bk ?_)
 obtain ⟨o509,ho509,h⟩:=bs h
 refine Z8 ((ZT (fun (x:Int) s=>s=⟨[(1,Zk false a1_),(2,.loc 2 0),(5,iv x)],[(2,(Za a0_))],[]⟩) (fun x:Int=>Zb9 N a0_ a1_ x) (fun (p:(Unit) ⊕ (Bool)) e s=>match p with | (.inl p)=>e = .exit 0∧(s=⟨[(1,Zk false a1_),(2,.loc 2 0)],[(2,(Za a0_))],[]⟩) | (.inr p)=>e = .ret∧∃ xs,resL s i70.res=some xs∧Zbr xs=bv p) ?_ N _ o509 _ ho509 (by show _=_;kernel_rfl)).mono ?_)
 ·clear h ho509
  rintro i4 o s h hR
  obtain rfl:=hR
  replace h:Zb9 N a0_ a1_ i4=some o:=h
  unfold Zb9 at h
  refine sq (sq ?_)
  refine rg (Zb.u 2 (Zo (ys:=[Zk false a1_]) (h:=ZB eI64)) Zb.f) (tq ?_)
  refine it h (fun hc505 h => ?_) (fun hc505 h => ?_)
  ·refine sk (tq ?_)
   refine kq (sq ?_)
   refine bk (sq ?_)
   obtain ⟨e506,he506,h⟩:=bs h
   obtain ⟨r507,hr507,h⟩:=bs h
   refine rq (Zb.u 3 (Zo (ys:=[Zk false a1_,iv i4]) (h:=Zg eI64 he506)) (Zb.u 0 (Zw (Zq (sz:=1) (off:=0) (cs:=[.int .i64 e506]) (r:=iv e506) eI64 he506)) (Zb.v 0 (Zs (hc:=Zk5 N a0_ e506 r507 hr507)) Zb.f))) (tq ?_)
   refine it h (fun hc508 h => ?_) (fun hc508 h => ?_)
   ·refine sq (rg Zb.f ?_)
    refine tq (rt ?_)
    refine br (tr ?_)
    obtain rfl:=Zc h
    exact ⟨_,rfl,rfl,ZC (by kernel_rfl)⟩
   refine sk (bn ?_)
   refine tq (kq ?_)
   refine rg Zb.f ?_
   obtain rfl:=Zc h
   exact ⟨_,rfl,(by show _=_;kernel_rfl)⟩
  refine kq (xq ?_)
  refine tx ?_
  obtain rfl:=Zc h
  exact ⟨_,rfl,rfl,(by show _=_;kernel_rfl)⟩
 rintro e s hq
 rcases o509 with p510 | p1034
 ·dsimp only at h hq
  obtain ⟨rfl,hR⟩:=hq
  obtain rfl:=hR
  refine bx (tq ?_)
  refine sq ?_
  obtain ⟨r511,hr511,h⟩:=bs h
  refine rg (Zb.v 2 (Zs (hc:=Zdb N a0_ a1_ r511 hr511)) Zb.f) (tq ?_)
  refine sq (sq ?_)
  refine rg Zb.f (tq ?_)
  refine bk ?_
  obtain ⟨o1031,ho1031,h⟩:=bs h
  refine Z8 ((ZT (fun (x:Int) s=>s=⟨[(1,Zk false a1_),(2,.loc 2 0),(6,Zk false r511),(7,iv x)],[(2,(Za a0_))],[]⟩) (fun x:Int=>Zb8 N a0_ a1_ r511 x) (fun (p:(Unit) ⊕ (Bool)) e s=>match p with | (.inl p)=>e = .exit 2∧(s=⟨[],[],[]⟩) | (.inr p)=>e = .ret∧∃ xs,resL s i70.res=some xs∧Zbr xs=bv p) ?_ N _ o1031 _ ho1031 (by show _=_;kernel_rfl)).mono ?_)
  ·clear h ho1031
   rintro i512 o s h hR
   obtain rfl:=hR
   replace h:Zb8 N a0_ a1_ r511 i512=some o:=h
   unfold Zb8 at h
   refine sq (sq ?_)
   refine rg (Zb.u 2 (Zo (ys:=[Zk false r511]) (h:=ZB eI64)) Zb.f) (tq ?_)
   refine it h (fun hc1013 h => ?_) (fun hc1013 h => ?_)
   ·refine sk (tq ?_)
    refine kq (sq ?_)
    refine bk (sq ?_)
    refine sq ?_
    obtain ⟨l1014,hl1014,h⟩:=bs h
    obtain ⟨e1015,he1015,h⟩:=bs h
    obtain ⟨r1016,hr1016,h⟩:=bs h
    refine rq (Zb.u 2 (Zo (ys:=[Zk false r511,iv i512]) (h:=Zhb eI64 hl1014)) (Zb.u 2 (Zo (ys:=[Zk false r511,iv i512]) (h:=Zg eI64 he1015)) (Zb.u 0 (Zw (Zq (sz:=1) (off:=0) (cs:=[.int .i64 e1015]) (r:=iv e1015) eI64 he1015)) (Zb.v 0 (Zs (hc:=ZfD N l1014 e1015 r1016 hr1016)) Zb.f)))) (tq ?_)
    refine it h (fun hc1017 h => ?_) (fun hc1017 h => ?_)
    ·refine sq (rg Zb.f ?_)
     refine tq (rt ?_)
     refine tr (br ?_)
     refine tr ?_
     obtain rfl:=Zc h
     exact ⟨_,rfl,rfl,ZC (by kernel_rfl)⟩
    refine sk (tq ?_)
    refine kq (sq ?_)
    obtain ⟨j1029,hj,h⟩:=bs h
    refine rqR (fun s=>s=⟨[(1,Zk false a1_),(2,.loc 2 0),(6,Zk false r511),(7,iv i512),(76,bv j1029)],[(2,(Za a0_))],[]⟩) ?_ ?_
    ·clear h
     rcases Zt hj with ⟨hc1018,hj⟩ | ⟨hc1028,hj⟩
     ·refine (EP.u 1 (Zj (c:=(decide (i512 > 0))) (h:=hc1018)) (EP.u 3 (Zo (ys:=[Zk false a1_]) (h:=ZB eI64)) ?_))
      rcases Zt hj with ⟨hc1019,hj⟩ | ⟨hc1027,hj⟩
      ·refine (EP.u 0 (Zj (c:=(decide (i512<((List.length a1_:Nat):Int)))) (h:=hc1019)) ?_)
       obtain ⟨e1020,he1020,hj⟩:=bs hj
       refine (EP.u 6 (Zo (ys:=[Zk false r511,iv i512]) (h:=Zg eI64 he1020)) (EP.u 0 (Zw (Zq (sz:=1) (off:=0) (cs:=[.int .i64 e1020]) (r:=iv e1020) eI64 he1020)) ?_))
       obtain ⟨e1021,he1021,hj⟩:=bs hj
       refine (EP.u 0 (Zo (ys:=[s_eB false a0_.Station,iv e1020]) (h:=Zg eB he1021)) ?_)
       rcases Zt hj with ⟨hc1022,hj⟩ | ⟨hc1023,hj⟩
       ·obtain rfl:=Zc hj
        exact (EP.u 0 (ZH.bool (Zw (Zq (sz:=1) (off:=0) (cs:=[.bool e1021]) (r:=bv e1021) eB he1021)) hc1022) (EP.f (by show _=_;kernel_rfl)))
       refine (EP.u 0 (ZH.bool (Zw (Zq (sz:=1) (off:=0) (cs:=[.bool e1021]) (r:=bv e1021) eB he1021)) hc1023) ?_)
       obtain ⟨e1024,he1024,hj⟩:=bs hj
       refine (EP.u 4 (Zo (ys:=[Zk false a1_,iv i512]) (h:=Zg eI64 he1024)) (EP.u 0 (Zw (Zq (sz:=1) (off:=0) (cs:=[.int .i64 e1024]) (r:=iv e1024) eI64 he1024)) ?_))
       obtain ⟨r1025,hr1025,hj⟩:=bs hj
       refine (EP.u 0 (Zaw (hc:=Zcz N a0_ e1024 r1025 hr1025)) ?_)
       obtain ⟨e1026,he1026,hj⟩:=bs hj
       obtain rfl:=Zc hj
       exact (EP.u 2 (Zo (ys:=[Zk false r511,iv i512]) (h:=Zg eI64 he1026)) (EP.u 0 (Zw (Zq (sz:=1) (off:=0) (cs:=[.int .i64 e1026]) (r:=iv e1026) eI64 he1026)) (EP.f (by show _=_;kernel_rfl))))
      obtain rfl:=Zc hj
      exact (EP.u 0 (Zj (c:=(decide (i512<((List.length a1_:Nat):Int)))) (h:=hc1027)) (EP.f (by show _=_;kernel_rfl)))
     obtain rfl:=Zc hj
     exact (EP.u 1 (Zj (c:=(decide (i512 > 0))) (h:=hc1028)) (EP.f (by show _=_;kernel_rfl)))
    clear hj
    rintro s hR
    obtain rfl:=hR
    refine tq (it h (fun hc1030 h => ?_) (fun hc1030 h => ?_))
    ·refine sq (rg Zb.f ?_)
     refine tq (rt ?_)
     refine br (tr ?_)
     obtain rfl:=Zc h
     exact ⟨_,rfl,rfl,ZC (by kernel_rfl)⟩
    refine sk (bn ?_)
    refine tq (kq ?_)
    refine rg Zb.f ?_
    obtain rfl:=Zc h
    exact ⟨_,rfl,(by show _=_;kernel_rfl)⟩
   refine kq (xq ?_)
   refine tx ?_
   obtain rfl:=Zc h
   exact ⟨_,rfl,rfl,(by show _=_;kernel_rfl)⟩
  rintro e s hq
  rcases o1031 with p1032 | p1033
  ·dsimp only at h hq
   obtain ⟨rfl,hR⟩:=hq
   obtain rfl:=hR
   refine bx (tq ?_)
   refine sq (rg Zb.f ?_)
   refine tq (rt ?_)
   obtain rfl:=Zc h
   exact ZC (by kernel_rfl)
  dsimp only at h hq
  obtain ⟨rfl,hq⟩:=hq
  refine br (tr ?_)
  obtain rfl:=Zc h
  exact hq
 dsimp only at h hq
 obtain ⟨rfl,hq⟩:=hq
 refine br (tr ?_)
 obtain rfl:=Zc h
 exact hq
theorem Zk4 (N:Nat) (a0_:Zi) (a1_:Int) (a2_:Int) (r:(List Int)) (h:Zfr N a0_ a1_ a2_=some r):Zal Try.prog 73 [.agg (Za a0_),.p (.int .u8 a1_),.p (.int .u8 a2_)] (Zk false r):=by
 unfold Zfr at h
 have hH:HP ([]:List HO) []:=trivial
 refine ZF chk73 rfl rfl (Zv _ _ _ ?_) rfl
 refine sq (rg Zb.f ?_)
 refine tq (sq ?_)
 obtain ⟨m1,hm1,h⟩:=bs h
 refine rg (Zb.u 4 (Zo (ys:=[iv (w64 (a1_)),iv a0_.Nodes]) (h:=Zdt hm1)) Zb.f) (tq ?_)
 refine sq ?_
 obtain ⟨a2,H3,ha2,hH3,hH⟩:=HP.lit 1 [m1] eI64 hH
 replace hH:HP H3 [.arr a2 1 false (List.map eI64 [m1])]:=hH
 have hfa2:=Zu (HP.get hH 0 rfl)
 refine rgS ⟨[(2,.p (.int .u8 a2_)),(3,.loc 3 0),(7,iv m1),(8,a2)],[(3,(Za a0_))],H3⟩ (Zb.h 1 (ZiI (H:=[]) (ys:=[iv m1]) (rows:=(List.map eI64 [m1])) (by kernel_rfl) (by kernel_rfl) (by kernel_rfl) ha2 hH3) Zb.f) (by rcases hfa2 with ha2e | ⟨_,_,ha2e⟩<;>subst ha2e<;>kernel_rfl) ?_
 refine tq (sq ?_)
 refine rgS ⟨[(2,.p (.int .u8 a2_)),(3,.loc 3 0),(7,iv m1),(8,a2),(9,Zk true [])],[(3,(Za a0_))],H3⟩ Zb.f (by rcases hfa2 with ha2e | ⟨_,_,ha2e⟩<;>subst ha2e<;>kernel_rfl) ?_
 refine tq (sq ?_)
 refine bk ?_
 obtain ⟨o1563,ho1563,h⟩:=bs h
 refine Z8 ((ZT (fun (x:Int × (List Int) × (List Int)) s=>∃ (a4:AV) (a5:AV) (H6:List HO),s=⟨[(2,.p (.int .u8 a2_)),(3,.loc 3 0),(7,iv x.1),(8,a4),(9,a5)],[(3,(Za a0_))],H6⟩∧HP H6 [.arr a4 1 true (List.map eI64 x.2.1),.arr a5 1 false (List.map eI64 x.2.2)]) (fun x:Int × (List Int) × (List Int)=>Zb4 N a0_ a2_ x.1 x.2.1 x.2.2) (fun (p:((List Int)) ⊕ ((List Int))) e s=>match p with | (.inl p)=>e = .exit 0∧(∃ (a510:AV) (H511:List HO),s=⟨[(9,a510)],[],H511⟩∧HP H511 [.arr a510 1 false (List.map eI64 p)]) | (.inr p)=>e = .ret∧∃ xs,resL s i73.res=some xs∧Zbr xs=Zk false p) ?_ N _ o1563 _ ho1563 ⟨a2,(.p (.sl 1 true [])),H3,(by show _=_;rcases hfa2 with ha2e | ⟨_,_,ha2e⟩<;>subst ha2e<;>kernel_rfl),(HP.frzUp (k:=0) (HP.pick (HP.nilArr hH 1 false) [1,0] rfl) rfl)⟩).mono ?_)
 ·clear h ho1563
  rintro ⟨i7,l8,l9⟩ o s h hR
  obtain ⟨a4,a5,H6,rfl,hH⟩:=hR
  replace hH:HP H6 [.arr a4 1 true (List.map eI64 l8),.arr a5 1 false (List.map eI64 l9)]:=hH
  have hfa4:=Zu (HP.get hH 0 rfl)
  have hfa5:=Zu (HP.get hH 1 rfl)
  replace h:Zb4 N a0_ a2_ i7 l8 l9=some o:=h
  unfold Zb4 at h
  refine sq (sq ?_)
  obtain ⟨j519,hj,h⟩:=bs h
  refine rgR (fun s=>s=⟨[(2,.p (.int .u8 a2_)),(3,.loc 3 0),(7,iv i7),(8,a4),(9,a5),(36,bv j519)],[(3,(Za a0_))],H6⟩) ?_ ?_
  ·clear h
   have hln512:=HP.len (k:=1) (a:=a5) (sz:=1) (frz:=false) (l:=l9) eI64 hH rfl
   refine (EP.u 1 (Zo (ys:=[a5]) (by rcases hfa5 with ha5e | ⟨_,_,ha5e⟩<;>subst ha5e<;>kernel_rfl) hln512) ?_)
   rcases Zt hj with ⟨hc513,hj⟩ | ⟨hc518,hj⟩
   ·refine (EP.u 0 (Zj (c:=(decide (((List.length l9:Nat):Int)<8))) (h:=hc513)) ?_)
    have hln514:=HP.len (k:=1) (a:=a5) (sz:=1) (frz:=false) (l:=l9) eI64 hH rfl
    refine (EP.u 2 (Zo (ys:=[a5]) (by rcases hfa5 with ha5e | ⟨_,_,ha5e⟩<;>subst ha5e<;>kernel_rfl) hln514) ?_)
    rcases Zt hj with ⟨hc515,hj⟩ | ⟨hc516,hj⟩
    ·obtain rfl:=Zc hj
     exact (EP.u 0 (Zj (c:=(((List.length l9:Nat):Int)==0)) (h:=hc515)) (EP.f (by show _=_;rcases hfa4 with ha4e | ⟨_,_,ha4e⟩<;>rcases hfa5 with ha5e | ⟨_,_,ha5e⟩<;>subst ha4e ha5e<;>kernel_rfl)))
    refine (EP.u 0 (Zj (c:=(((List.length l9:Nat):Int)==0)) (h:=hc516)) ?_)
    obtain ⟨e517,he517,hj⟩:=bs hj
    obtain rfl:=Zc hj
    exact (EP.u 4 (Zo (ys:=[s_eB false a0_.Station,iv i7]) (h:=Zg eB he517)) (EP.u 0 (Zq (sz:=1) (off:=0) (cs:=[.bool e517]) (r:=bv e517) eB he517) (EP.f (by show _=_;rcases hfa4 with ha4e | ⟨_,_,ha4e⟩<;>rcases hfa5 with ha5e | ⟨_,_,ha5e⟩<;>subst ha4e ha5e<;>kernel_rfl))))
   obtain rfl:=Zc hj
   exact (EP.u 0 (Zj (c:=(decide (((List.length l9:Nat):Int)<8))) (h:=hc518)) (EP.f (by show _=_;rcases hfa4 with ha4e | ⟨_,_,ha4e⟩<;>rcases hfa5 with ha5e | ⟨_,_,ha5e⟩<;>subst ha4e ha5e<;>kernel_rfl)))
  clear hj
  rintro s hR
  obtain rfl:=hR
  refine tq (it h (fun hc520 h => ?_) (fun hc520 h => ?_))
  ·refine sk (tq ?_)
   refine kq (bk ?_)
   refine sq (rgS ⟨[(2,.p (.int .u8 a2_)),(3,.loc 3 0),(7,iv i7),(8,a4),(9,a5),(10,Zk true [])],[(3,(Za a0_))],H6⟩ Zb.f (by rcases hfa4 with ha4e | ⟨_,_,ha4e⟩<;>rcases hfa5 with ha5e | ⟨_,_,ha5e⟩<;>subst ha4e ha5e<;>kernel_rfl) ?_)
   refine tq (sq ?_)
   obtain ⟨r521,hr521,h⟩:=bs h
   refine rgS ⟨[(2,.p (.int .u8 a2_)),(3,.loc 3 0),(8,a4),(9,a5),(10,Zk true []),(11,Zk false r521)],[(3,(Za a0_))],H6⟩ (Zb.v 2 (Zs (hc:=Zke N a0_ i7 r521 hr521)) Zb.f) (by rcases hfa4 with ha4e | ⟨_,_,ha4e⟩<;>rcases hfa5 with ha5e | ⟨_,_,ha5e⟩<;>subst ha4e ha5e<;>kernel_rfl) ?_
   refine tq (sq ?_)
   refine sq (rgS ⟨[(2,.p (.int .u8 a2_)),(3,.loc 3 0),(8,a4),(9,a5),(10,Zk true []),(11,Zk false r521),(12,iv 0)],[(3,(Za a0_))],H6⟩ Zb.f (by rcases hfa4 with ha4e | ⟨_,_,ha4e⟩<;>rcases hfa5 with ha5e | ⟨_,_,ha5e⟩<;>subst ha4e ha5e<;>kernel_rfl) ?_)
   refine tq (bk ?_)
   obtain ⟨o1547,ho1547,h⟩:=bs h
   refine Z8 ((ZT (fun (x:Int × (List Int)) s=>∃ (a522:AV) (a523:AV) (a524:AV) (H525:List HO),s=⟨[(2,.p (.int .u8 a2_)),(3,.loc 3 0),(8,a522),(9,a523),(10,a524),(11,Zk false r521),(12,iv x.1)],[(3,(Za a0_))],H525⟩∧HP H525 [.arr a522 1 true (List.map eI64 l8),.arr a523 1 false (List.map eI64 l9),.arr a524 1 false (List.map eI64 x.2)]) (fun x:Int × (List Int)=>Za6 N a0_ l8 r521 x.1 x.2) (fun (p:(List Int)) e s=>e = .exit 2∧(∃ (a1028:AV) (a1029:AV) (a1030:AV) (H1031:List HO),s=⟨[(2,.p (.int .u8 a2_)),(3,.loc 3 0),(8,a1028),(9,a1029),(10,a1030)],[(3,(Za a0_))],H1031⟩∧HP H1031 [.arr a1028 1 true (List.map eI64 l8),.arr a1029 1 false (List.map eI64 l9),.arr a1030 1 false (List.map eI64 p)])) ?_ N _ o1547 _ ho1547 ⟨a4,a5,(.p (.sl 1 true [])),H6,(by show _=_;rcases hfa4 with ha4e | ⟨_,_,ha4e⟩<;>rcases hfa5 with ha5e | ⟨_,_,ha5e⟩<;>subst ha4e ha5e<;>kernel_rfl),(HP.pick (HP.nilArr hH 1 false) [1,2,0] rfl)⟩).mono ?_)
   ·clear h ho1547
    rintro ⟨i526,l527⟩ o s h hR
    obtain ⟨a522,a523,a524,H525,rfl,hH⟩:=hR
    replace hH:HP H525 [.arr a522 1 true (List.map eI64 l8),.arr a523 1 false (List.map eI64 l9),.arr a524 1 false (List.map eI64 l527)]:=hH
    have hfa522:=Zu (HP.get hH 0 rfl)
    have hfa523:=Zu (HP.get hH 1 rfl)
    have hfa524:=Zu (HP.get hH 2 rfl)
    replace h:Za6 N a0_ l8 r521 i526 l527=some o:=h
    unfold Za6 at h
    refine sq (sq ?_)
    refine rgS ⟨[(2,.p (.int .u8 a2_)),(3,.loc 3 0),(8,a522),(9,a523),(10,a524),(11,Zk false r521),(12,iv i526),(43,bv (decide (i526<((List.length r521:Nat):Int))))],[(3,(Za a0_))],H525⟩ (Zb.u 2 (Zo (ys:=[Zk false r521]) (h:=ZB eI64)) Zb.f) (by rcases hfa522 with ha522e | ⟨_,_,ha522e⟩<;>rcases hfa523 with ha523e | ⟨_,_,ha523e⟩<;>rcases hfa524 with ha524e | ⟨_,_,ha524e⟩<;>subst ha522e ha523e ha524e<;>kernel_rfl) ?_
    refine tq (it h (fun hc1032 h => ?_) (fun hc1032 h => ?_))
    ·refine sk (tq ?_)
     refine kq ?_
     obtain ⟨j1537,hj1537,h⟩:=bs h
     refine Zcu [2,3,8,9,10,11,12] (fun s=>∃ (a1533:AV) (a1534:AV) (a1535:AV) (H1536:List HO),s=⟨[(2,.p (.int .u8 a2_)),(3,.loc 3 0),(8,a1533),(9,a1534),(10,a1535),(11,Zk false r521),(12,iv i526)],[(3,(Za a0_))],H1536⟩∧HP H1536 [.arr a1533 1 true (List.map eI64 l8),.arr a1534 1 false (List.map eI64 l9),.arr a1535 1 false (List.map eI64 j1537)]) ?_ ?_
     ·clear h
      have h:=hj1537
      refine bk (sq ?_)
      obtain ⟨e1538,he1538,h⟩:=bs h
      obtain ⟨r1539,hr1539,h⟩:=bs h
      obtain ⟨r1540,hr1540,h⟩:=bs h
      obtain ⟨H1541,hzH1541,hzH1541v,hH⟩:=HP.frz (k:=0) (a:=a522) (sz:=1) (frz:=true) eI64 hH rfl
      replace hH:HP H1541 [.arr a522 1 true (List.map eI64 l8),.arr a523 1 false (List.map eI64 l9),.arr a524 1 false (List.map eI64 l527)]:=hH
      refine rqS ⟨[(2,.p (.int .u8 a2_)),(3,.loc 3 0),(8,a522),(9,a523),(10,a524),(11,Zk false r521),(12,iv i526),(54,bv (!r1540))],[(3,(Za a0_))],H1541⟩ (Zb.u 4 (Zo (ys:=[Zk false r521,iv i526]) (h:=Zg eI64 he1538)) (Zb.u 0 (Zw (Zq (sz:=1) (off:=0) (cs:=[.int .i64 e1538]) (r:=iv e1538) eI64 he1538)) (Zb.u 0 (Zaw (hc:=ZcQ N a0_ e1538 r1539 hr1539)) (Zb.v 0 (ZmY (H:=H525) (ys:=[a522,iv r1539]) (by rcases hfa522 with ha522e | ⟨_,_,ha522e⟩<;>subst ha522e<;>kernel_rfl) (by rcases hfa522 with ha522e | ⟨_,_,ha522e⟩<;>subst ha522e<;>kernel_rfl) (Zhx hzH1541v (Zhx rfl Znf)) (ZfD N l8 r1539 r1540 hr1540)) Zb.f)))) (by rcases hfa522 with ha522e | ⟨_,_,ha522e⟩<;>rcases hfa523 with ha523e | ⟨_,_,ha523e⟩<;>rcases hfa524 with ha524e | ⟨_,_,ha524e⟩<;>subst ha522e ha523e ha524e<;>kernel_rfl) ?_
      refine tq (it h (fun hc1542 h => ?_) (fun hc1542 h => ?_))
      ·obtain ⟨e1543,he1543,h⟩:=bs h
       obtain ⟨l1546,hl1546,h⟩:=bs h
       obtain ⟨a1544,H1545,ha1544,hH⟩:=HP.app (k:=2) (a:=a524) (sz:=1) (frz:=false) eI64 hH rfl hl1546
       replace hH:HP H1545 [.arr a522 1 true (List.map eI64 l8),.arr a523 1 false (List.map eI64 l9),.arr a1544 1 false (List.map eI64 l1546)]:=hH
       have hfa1544:=Zu (HP.get hH 2 rfl)
       refine rgS ⟨[(2,.p (.int .u8 a2_)),(3,.loc 3 0),(8,a522),(9,a523),(10,a1544),(11,Zk false r521),(12,iv i526)],[(3,(Za a0_))],H1545⟩ (Zb.u 3 (Zo (ys:=[Zk false r521,iv i526]) (h:=Zg eI64 he1543)) (Zb.u 0 (Zq (sz:=1) (off:=0) (cs:=[.int .i64 e1543]) (r:=iv e1543) eI64 he1543) (Zb.h 1 (ZdH (H:=H1541) (a:=a524) (b:=Zk true [e1543]) (by rcases hfa524 with ha524e | ⟨_,_,ha524e⟩<;>subst ha524e<;>kernel_rfl) (by rcases hfa524 with ha524e | ⟨_,_,ha524e⟩<;>subst ha524e<;>kernel_rfl) (by rcases hfa524 with ha524e | ⟨_,_,ha524e⟩<;>subst ha524e<;>kernel_rfl) (by rcases hfa524 with ha524e | ⟨_,_,ha524e⟩<;>subst ha524e<;>kernel_rfl) ha1544) Zb.f))) (by rcases hfa1544 with ha1544e | ⟨_,_,ha1544e⟩<;>rcases hfa522 with ha522e | ⟨_,_,ha522e⟩<;>rcases hfa523 with ha523e | ⟨_,_,ha523e⟩<;>rcases hfa524 with ha524e | ⟨_,_,ha524e⟩<;>subst ha1544e ha522e ha523e ha524e<;>kernel_rfl) ?_
       refine bn ?_
       obtain rfl:=Zc h
       exact ⟨rfl,⟨a522,a523,a1544,H1545,(by show _=_;rcases hfa1544 with ha1544e | ⟨_,_,ha1544e⟩<;>rcases hfa522 with ha522e | ⟨_,_,ha522e⟩<;>rcases hfa523 with ha523e | ⟨_,_,ha523e⟩<;>subst ha1544e ha522e ha523e<;>kernel_rfl),(HP.pick hH [0,1,2] rfl)⟩⟩
      refine sk (bn ?_)
      obtain rfl:=Zc h
      exact ⟨rfl,⟨a522,a523,a524,H1541,(by show _=_;rcases hfa522 with ha522e | ⟨_,_,ha522e⟩<;>rcases hfa523 with ha523e | ⟨_,_,ha523e⟩<;>rcases hfa524 with ha524e | ⟨_,_,ha524e⟩<;>subst ha522e ha523e ha524e<;>kernel_rfl),(HP.pick hH [0,1,2] rfl)⟩⟩
     clear hj1537
     rintro s hR
     obtain ⟨a1533,a1534,a1535,H1536,rfl,hH⟩:=hR
     replace hH:HP H1536 [.arr a1533 1 true (List.map eI64 l8),.arr a1534 1 false (List.map eI64 l9),.arr a1535 1 false (List.map eI64 j1537)]:=hH
     have hfa1533:=Zu (HP.get hH 0 rfl)
     have hfa1534:=Zu (HP.get hH 1 rfl)
     have hfa1535:=Zu (HP.get hH 2 rfl)
     refine rgS ⟨[(2,.p (.int .u8 a2_)),(3,.loc 3 0),(8,a1533),(9,a1534),(10,a1535),(11,Zk false r521),(12,iv (w64 (i526+1)))],[(3,(Za a0_))],H1536⟩ Zb.f (by rcases hfa1533 with ha1533e | ⟨_,_,ha1533e⟩<;>rcases hfa1534 with ha1534e | ⟨_,_,ha1534e⟩<;>rcases hfa1535 with ha1535e | ⟨_,_,ha1535e⟩<;>subst ha1533e ha1534e ha1535e<;>kernel_rfl) ?_
     obtain rfl:=Zc h
     exact ⟨_,rfl,⟨a1533,a1534,a1535,H1536,(by show _=_;rcases hfa1533 with ha1533e | ⟨_,_,ha1533e⟩<;>rcases hfa1534 with ha1534e | ⟨_,_,ha1534e⟩<;>rcases hfa1535 with ha1535e | ⟨_,_,ha1535e⟩<;>subst ha1533e ha1534e ha1535e<;>kernel_rfl),(HP.pick hH [0,1,2] rfl)⟩⟩
    refine kq (xq ?_)
    refine tx ?_
    obtain rfl:=Zc h
    exact ⟨_,rfl,rfl,⟨a522,a523,a524,H525,(by show _=_;rcases hfa522 with ha522e | ⟨_,_,ha522e⟩<;>rcases hfa523 with ha523e | ⟨_,_,ha523e⟩<;>rcases hfa524 with ha524e | ⟨_,_,ha524e⟩<;>subst ha522e ha523e ha524e<;>kernel_rfl),(HP.pick hH [0,1,2] rfl)⟩⟩
   rintro e s hq
   obtain ⟨rfl,hR⟩:=hq
   obtain ⟨a1028,a1029,a1030,H1031,rfl,hH⟩:=hR
   replace hH:HP H1031 [.arr a1028 1 true (List.map eI64 l8),.arr a1029 1 false (List.map eI64 l9),.arr a1030 1 false (List.map eI64 o1547)]:=hH
   have hfa1028:=Zu (HP.get hH 0 rfl)
   have hfa1029:=Zu (HP.get hH 1 rfl)
   have hfa1030:=Zu (HP.get hH 2 rfl)
   refine bx (tq ?_)
   refine sq (sq ?_)
   have hln1548:=HP.len (k:=2) (a:=a1030) (sz:=1) (frz:=false) (l:=o1547) eI64 hH rfl
   refine rgS ⟨[(2,.p (.int .u8 a2_)),(3,.loc 3 0),(8,a1028),(9,a1029),(10,a1030),(64,bv (((List.length o1547:Nat):Int)==0))],[(3,(Za a0_))],H1031⟩ (Zb.u 1 (Zo (ys:=[a1030]) (by rcases hfa1030 with ha1030e | ⟨_,_,ha1030e⟩<;>subst ha1030e<;>kernel_rfl) hln1548) Zb.f) (by rcases hfa1028 with ha1028e | ⟨_,_,ha1028e⟩<;>rcases hfa1029 with ha1029e | ⟨_,_,ha1029e⟩<;>rcases hfa1030 with ha1030e | ⟨_,_,ha1030e⟩<;>subst ha1028e ha1029e ha1030e<;>kernel_rfl) ?_
   refine tq (it h (fun hc1549 h => ?_) (fun hc1549 h => ?_))
   ·refine sq (rgS ⟨[(6,a1029)],[],H1031⟩ Zb.f (by rcases hfa1028 with ha1028e | ⟨_,_,ha1028e⟩<;>rcases hfa1029 with ha1029e | ⟨_,_,ha1029e⟩<;>rcases hfa1030 with ha1030e | ⟨_,_,ha1030e⟩<;>subst ha1028e ha1029e ha1030e<;>kernel_rfl) ?_)
    replace hH:HP H1031 [.arr a1029 1 false (List.map eI64 l9)]:=HP.pick hH [1] rfl
    refine tq (rt ?_)
    refine tr (br ?_)
    obtain rfl:=Zc h
    exact ⟨_,rfl,rfl,ZdO (H:=H1031) (ys:=[a1029]) (xs:=[.p (.sl 1 false (List.map eI64 l9))]) (by rcases hfa1029 with ha1029e | ⟨_,_,ha1029e⟩<;>subst ha1029e<;>kernel_rfl) (by rcases hfa1029 with ha1029e | ⟨_,_,ha1029e⟩<;>subst ha1029e<;>kernel_rfl) (ZaU (HP.pure (k:=0) (frz:=false) eI64 hH rfl).2 ZbM) (by kernel_rfl)⟩
   refine sk (tq ?_)
   refine kq (sq ?_)
   have hln1550:=HP.len (k:=1) (a:=a1029) (sz:=1) (frz:=false) (l:=l9) eI64 hH rfl
   have hln1551:=HP.len (k:=2) (a:=a1030) (sz:=1) (frz:=false) (l:=o1547) eI64 hH rfl
   obtain ⟨m1552,hm1552,h⟩:=bs h
   obtain ⟨e1553,he1553,h⟩:=bs h
   obtain ⟨id1554,ver1555,_,hid1554f,hid1554,hid1554a,hid1554v⟩:=HP.elem (k:=2) (a:=a1030) (sz:=1) (frz:=false) eI64 hH rfl he1553
   refine rgS ⟨[(2,.p (.int .u8 a2_)),(3,.loc 3 0),(8,a1028),(9,a1029),(13,iv e1553)],[(3,(Za a0_))],H1031⟩ (Zb.u 4 (Zo (ys:=[a1029]) (by rcases hfa1029 with ha1029e | ⟨_,_,ha1029e⟩<;>subst ha1029e<;>kernel_rfl) hln1550) (Zb.u 3 (Zo (ys:=[a1030]) (by rcases hfa1030 with ha1030e | ⟨_,_,ha1030e⟩<;>subst ha1030e<;>kernel_rfl) hln1551) (Zb.u 0 (Zo (ys:=[iv (w64 ((w64 (a2_))+(w64 (3 * ((List.length l9:Nat):Int))))),iv ((List.length o1547:Nat):Int)]) (h:=Zdt hm1552)) (Zb.u 0 (Zo (ys:=[a1030,iv m1552]) (by rcases hfa1030 with ha1030e | ⟨_,_,ha1030e⟩<;>subst ha1030e<;>kernel_rfl) (hid1554v .i64)) (Zb.u 0 (ZbD (H:=H1031) (off:=0) (cs:=[.int .i64 e1553]) (r:=iv e1553) eI64 he1553 hid1554) Zb.f))))) (by rcases hfa1028 with ha1028e | ⟨_,_,ha1028e⟩<;>rcases hfa1029 with ha1029e | ⟨_,_,ha1029e⟩<;>rcases hfa1030 with ha1030e | ⟨_,_,ha1030e⟩<;>subst ha1028e ha1029e ha1030e<;>kernel_rfl) ?_
   replace hH:HP H1031 [.arr a1028 1 true (List.map eI64 l8),.arr a1029 1 false (List.map eI64 l9)]:=HP.pick hH [0,1] rfl
   refine tq (sq ?_)
   obtain ⟨l1558,hl1558,h⟩:=bs h
   obtain ⟨a1556,H1557,ha1556,hH⟩:=HP.app (k:=1) (a:=a1029) (sz:=1) (frz:=false) eI64 hH rfl hl1558
   replace hH:HP H1557 [.arr a1028 1 true (List.map eI64 l8),.arr a1556 1 false (List.map eI64 l1558)]:=hH
   have hfa1556:=Zu (HP.get hH 1 rfl)
   refine rgS ⟨[(2,.p (.int .u8 a2_)),(3,.loc 3 0),(8,a1028),(9,a1556),(13,iv e1553)],[(3,(Za a0_))],H1557⟩ (Zb.h 3 (ZdH (H:=H1031) (a:=a1029) (b:=Zk true [e1553]) (by rcases hfa1029 with ha1029e | ⟨_,_,ha1029e⟩<;>subst ha1029e<;>kernel_rfl) (by rcases hfa1029 with ha1029e | ⟨_,_,ha1029e⟩<;>subst ha1029e<;>kernel_rfl) (by rcases hfa1029 with ha1029e | ⟨_,_,ha1029e⟩<;>subst ha1029e<;>kernel_rfl) (by rcases hfa1029 with ha1029e | ⟨_,_,ha1029e⟩<;>subst ha1029e<;>kernel_rfl) ha1556) Zb.f) (by rcases hfa1028 with ha1028e | ⟨_,_,ha1028e⟩<;>rcases hfa1029 with ha1029e | ⟨_,_,ha1029e⟩<;>rcases hfa1556 with ha1556e | ⟨_,_,ha1556e⟩<;>subst ha1028e ha1029e ha1556e<;>kernel_rfl) ?_
   refine tq (sq ?_)
   obtain ⟨r1559,hr1559,h⟩:=bs h
   refine rgS ⟨[(2,.p (.int .u8 a2_)),(3,.loc 3 0),(7,iv r1559),(8,a1028),(9,a1556)],[(3,(Za a0_))],H1557⟩ (Zb.v 2 (Zs (hc:=ZcQ N a0_ e1553 r1559 hr1559)) Zb.f) (by rcases hfa1028 with ha1028e | ⟨_,_,ha1028e⟩<;>rcases hfa1556 with ha1556e | ⟨_,_,ha1556e⟩<;>subst ha1028e ha1556e<;>kernel_rfl) ?_
   refine tq ?_
   obtain ⟨l1562,hl1562,h⟩:=bs h
   obtain ⟨a1560,H1561,ha1560,hH⟩:=HP.app (k:=0) (a:=a1028) (sz:=1) (frz:=true) eI64 hH rfl hl1562
   replace hH:HP H1561 [.arr a1560 1 true (List.map eI64 l1562),.arr a1556 1 false (List.map eI64 l1558)]:=hH
   have hfa1560:=Zu (HP.get hH 0 rfl)
   refine rgS ⟨[(2,.p (.int .u8 a2_)),(3,.loc 3 0),(7,iv r1559),(8,a1560),(9,a1556)],[(3,(Za a0_))],H1561⟩ (Zb.h 3 (ZdH (H:=H1557) (a:=a1028) (b:=Zk true [r1559]) (by rcases hfa1028 with ha1028e | ⟨_,_,ha1028e⟩<;>subst ha1028e<;>kernel_rfl) (by rcases hfa1028 with ha1028e | ⟨_,_,ha1028e⟩<;>subst ha1028e<;>kernel_rfl) (by rcases hfa1028 with ha1028e | ⟨_,_,ha1028e⟩<;>subst ha1028e<;>kernel_rfl) (by rcases hfa1028 with ha1028e | ⟨_,_,ha1028e⟩<;>subst ha1028e<;>kernel_rfl) ha1560) Zb.f) (by rcases hfa1028 with ha1028e | ⟨_,_,ha1028e⟩<;>rcases hfa1556 with ha1556e | ⟨_,_,ha1556e⟩<;>rcases hfa1560 with ha1560e | ⟨_,_,ha1560e⟩<;>subst ha1028e ha1556e ha1560e<;>kernel_rfl) ?_
   refine bn ?_
   obtain rfl:=Zc h
   exact ⟨_,rfl,⟨a1560,a1556,H1561,(by show _=_;rcases hfa1556 with ha1556e | ⟨_,_,ha1556e⟩<;>rcases hfa1560 with ha1560e | ⟨_,_,ha1560e⟩<;>subst ha1556e ha1560e<;>kernel_rfl),(HP.pick hH [0,1] rfl)⟩⟩
  refine kq ?_
  replace hH:HP H6 [.arr a5 1 false (List.map eI64 l9)]:=HP.pick hH [1] rfl
  refine xq (tx ?_)
  obtain rfl:=Zc h
  exact ⟨_,rfl,rfl,⟨a5,H6,(by show _=_;rcases hfa5 with ha5e | ⟨_,_,ha5e⟩<;>subst ha5e<;>kernel_rfl),(HP.pick hH [0] rfl)⟩⟩
 rintro e s hq
 rcases o1563 with p1564 | p1565
 ·dsimp only at h hq
  obtain ⟨rfl,hR⟩:=hq
  obtain ⟨a510,H511,rfl,hH⟩:=hR
  replace hH:HP H511 [.arr a510 1 false (List.map eI64 p1564)]:=hH
  have hfa510:=Zu (HP.get hH 0 rfl)
  refine bx (tq ?_)
  refine sq (rgS ⟨[(6,a510)],[],H511⟩ Zb.f (by rcases hfa510 with ha510e | ⟨_,_,ha510e⟩<;>subst ha510e<;>kernel_rfl) ?_)
  refine tq (rt ?_)
  obtain rfl:=Zc h
  exact ZdO (H:=H511) (ys:=[a510]) (xs:=[.p (.sl 1 false (List.map eI64 p1564))]) (by rcases hfa510 with ha510e | ⟨_,_,ha510e⟩<;>subst ha510e<;>kernel_rfl) (by rcases hfa510 with ha510e | ⟨_,_,ha510e⟩<;>subst ha510e<;>kernel_rfl) (ZaU (HP.pure (k:=0) (frz:=false) eI64 hH rfl).2 ZbM) (by kernel_rfl)
 dsimp only at h hq
 obtain ⟨rfl,hq⟩:=hq
 refine br (tr ?_)
 obtain rfl:=Zc h
 exact hq
theorem ZiW (N:Nat) (a0_:Int) (c0_:Zi) (k0_:Nat) (H:List HO) (hH:HP H [.cel k0_ (Za c0_)]) (r:Bool) (h:ZeY N a0_ c0_=some r):ZbG Try.prog 76 [iv a0_,.ptr k0_ 0] H (bv r) H:=by
 unfold ZeY at h
 refine ZbB chk76 rfl rfl rfl (Zv _ _ _ ?_)
 refine sq (rg Zb.f ?_)
 refine tq (sq ?_)
 have hlc1:=HP.get hH 0 rfl
 obtain ⟨e2,he2,h⟩:=bs h
 refine rg (Zb.u 1 (ZA (H:=H) (id:=k0_) (off:=2) (cs:=(Za c0_)) (c:=[Zh false c0_.Links]) (r:=Zh false c0_.Links) (hl:=hlc1)) (Zb.u 1 (Zo (ys:=[Zh false c0_.Links,iv a0_]) (h:=Zg Zp he2)) (Zb.u 0 (Zq (sz:=4) (off:=0) (cs:=[.int .i64 e2.A,.int .i64 e2.B,.int .i64 e2.Per,.int .i64 e2.Delay]) (r:=.agg (ZR e2)) Zp he2) Zb.f))) (tq ?_)
 refine sq ?_
 obtain ⟨j11,hj,h⟩:=bs h
 refine rgR (fun s=>s=⟨[(3,bv j11)],[],H⟩) ?_ ?_
 ·clear h
  have hlc3:=HP.get hH 0 rfl
  refine (EP.u 0 (ZA (H:=H) (id:=k0_) (off:=0) (cs:=(Za c0_)) (c:=(Za c0_)) (r:=.agg (Za c0_)) (hl:=hlc3)) ?_)
  obtain ⟨r4,hr4,hj⟩:=bs hj
  rcases Zt hj with ⟨hc5,hj⟩ | ⟨hc10,hj⟩
  ·refine (EP.h 2 (Zbs (by kernel_rfl) (ZeZ N c0_ e2.A r4 hr4) hc5) ?_)
   have hlc6:=HP.get hH 0 rfl
   refine (EP.u 1 (ZA (H:=H) (id:=k0_) (off:=0) (cs:=(Za c0_)) (c:=(Za c0_)) (r:=.agg (Za c0_)) (hl:=hlc6)) ?_)
   obtain ⟨r7,hr7,hj⟩:=bs hj
   rcases Zt hj with ⟨hc8,hj⟩ | ⟨hc9,hj⟩
   ·obtain rfl:=Zc hj
    exact (EP.h 2 (Zbs (by kernel_rfl) (ZeZ N c0_ e2.B r7 hr7) hc8) (EP.f (by show _=_;kernel_rfl)))
   obtain rfl:=Zc hj
   exact (EP.h 2 (Zbs (by kernel_rfl) (ZeZ N c0_ e2.B r7 hr7) hc9) (EP.f (by show _=_;kernel_rfl)))
  obtain rfl:=Zc hj
  exact (EP.h 2 (Zbs (by kernel_rfl) (ZeZ N c0_ e2.A r4 hr4) hc10) (EP.f (by show _=_;kernel_rfl)))
 clear hj
 rintro s hR
 obtain rfl:=hR
 refine tq (rt ?_)
 obtain rfl:=Zc h
 exact Za1 (by kernel_rfl) (by kernel_rfl)
theorem ZeI (N:Nat) (a0_:ZX) (a1_:(List Int)) (r:Bool) (h:Zbb N a0_ a1_=some r):Zal Try.prog 86 [.agg (Za a0_.Topo),Zk false a1_] (bv r):=by
 unfold Zbb at h
 have hH:HP ([]:List HO) []:=trivial
 refine ZF chk86 rfl rfl (Zv _ _ _ ?_) rfl
 refine sq ?_
 obtain ⟨id1,H2,hid1,hH2,hH⟩:=HP.newCell hH (Za a0_.Topo)
 replace hH:HP H2 [.cel id1 (Za a0_.Topo)]:=hH
 refine rgS ⟨[(1,Zk false a1_),(2,.ptr id1 0)],[],H2⟩ (Zb.h 0 (Zdi (H:=[]) (v:=.agg (Za a0_.Topo)) (hid:=hid1) (hH:=hH2)) Zb.f) (by kernel_rfl) ?_
 refine tq (sq ?_)
 refine sq (rgX ⟨[(1,Zk false a1_),(2,.ptr id1 0),(17,bv ((decide (((List.length a1_:Nat):Int)<1))||(decide (((List.length a1_:Nat):Int) > 8))))],[],H2⟩ ?_ ?_)
 ·refine (EP.u 1 (Zo (ys:=[Zk false a1_]) (h:=ZB eI64)) ?_)
  rcases Bool.eq_false_or_eq_true (decide (((List.length a1_:Nat):Int)<1)) with hc3 | hc4
  ·exact (EP.u 0 (Zj (c:=(decide (((List.length a1_:Nat):Int)<1))) (h:=hc3)) (EP.f (by simp only [hc3];kernel_rfl)))
  exact (EP.u 0 (Zj (c:=(decide (((List.length a1_:Nat):Int)<1))) (h:=hc4)) (EP.u 2 (Zo (ys:=[Zk false a1_]) (h:=ZB eI64)) (EP.f (by simp only [hc4];kernel_rfl))))
 refine tq (it h (fun hc5 h => ?_) (fun hc5 h => ?_))
 ·refine sq (rgS ⟨[(4,bv false)],[],H2⟩ Zb.f (by kernel_rfl) ?_)
  replace hH:HP H2 []:=HP.pick hH [] rfl
  refine tq (rt ?_)
  refine tr ?_
  obtain rfl:=Zc h
  exact ZC (by kernel_rfl)
 refine sk (tq ?_)
 refine kq (sq ?_)
 obtain ⟨id6,H7,hid6,hH7,hH⟩:=HP.newCell hH (Zx (Zr.mk false false false false false false false false false false false false))
 replace hH:HP H7 [.cel id6 (Zx (Zr.mk false false false false false false false false false false false false)),.cel id1 (Za a0_.Topo)]:=hH
 refine rgS ⟨[(1,Zk false a1_),(2,.ptr id1 0),(5,.ptr id6 0)],[],H7⟩ (Zb.h 0 (ZhS (H:=H2) (by kernel_rfl) hid6 hH7) Zb.f) (by kernel_rfl) ?_
 refine tq (sq ?_)
 obtain ⟨id8,H9,hid8,hH9,hH⟩:=HP.newCell hH [iv 0]
 replace hH:HP H9 [.cel id8 [iv 0],.cel id6 (Zx (Zr.mk false false false false false false false false false false false false)),.cel id1 (Za a0_.Topo)]:=hH
 obtain ⟨id10,H11,hid10,hH11,hH⟩:=HP.newCell hH [iv 0]
 replace hH:HP H11 [.cel id10 [iv 0],.cel id8 [iv 0],.cel id6 (Zx (Zr.mk false false false false false false false false false false false false)),.cel id1 (Za a0_.Topo)]:=hH
 obtain ⟨H12,hH12,hH⟩:=HP.setCell (k:=1) (off:=0) (cs:=[iv 0]) (vs:=[iv 0]) (cs':=[iv 0]) hH rfl (by kernel_rfl)
 replace hH:HP H12 [.cel id10 [iv 0],.cel id8 [iv 0],.cel id6 (Zx (Zr.mk false false false false false false false false false false false false)),.cel id1 (Za a0_.Topo)]:=hH
 obtain ⟨H13,hH13,hH⟩:=HP.setCell (k:=0) (off:=0) (cs:=[iv 0]) (vs:=[iv 0]) (cs':=[iv 0]) hH rfl (by kernel_rfl)
 replace hH:HP H13 [.cel id10 [iv 0],.cel id8 [iv 0],.cel id6 (Zx (Zr.mk false false false false false false false false false false false false)),.cel id1 (Za a0_.Topo)]:=hH
 refine rgS ⟨[(1,Zk false a1_),(2,.ptr id1 0),(5,.ptr id6 0),(6,.ptr id8 0),(7,.ptr id10 0)],[],H13⟩ (Zb.h 0 (ZhS (H:=H7) (by kernel_rfl) hid8 hH9) (Zb.h 0 (ZhS (H:=H9) (by kernel_rfl) hid10 hH11) (Zb.o 0 (ZaD (H:=H11) (v:=iv 0) (hw:=hH12)) (Zb.o 0 (ZaD (H:=H12) (v:=iv 0) (hw:=hH13)) Zb.f)))) (by kernel_rfl) ?_
 refine tq ?_
 obtain ⟨j515,hj515,h⟩:=bs h
 refine Zcu [1,7] (fun s=>∃ (H514:List HO),s=⟨[(1,Zk false a1_),(7,.ptr id10 0)],[],H514⟩∧HP H514 [.cel id10 [iv j515]]) ?_ ?_
 ·clear h
  have h:=hj515
  refine sq ?_
  have hlc516:=HP.get hH 3 rfl
  obtain ⟨r517,hr517,h⟩:=bs h
  obtain ⟨id519,id520,H518,hvr517,hpr517⟩:=Ze2 N a0_ a1_ H13 r517 hr517
  replace hH:HP H518 [.cel id519 [Zk false r517.1],.cel id520 (Za r517.2.Topo),.cel id10 [iv 0],.cel id8 [iv 0],.cel id6 (Zx (Zr.mk false false false false false false false false false false false false)),.cel id1 (Za a0_.Topo)]:=HP.callee (fp:=[]) (rest:=[.cel id10 [iv 0],.cel id8 [iv 0],.cel id6 (Zx (Zr.mk false false false false false false false false false false false false)),.cel id1 (Za a0_.Topo)]) hH hpr517
  refine rgS ⟨[(1,Zk false a1_),(2,.ptr id1 0),(5,.ptr id6 0),(6,.ptr id8 0),(7,.ptr id10 0),(20,.fn 98 [] [.ptr id519 0,.ptr id520 0])],[],H518⟩ (Zb.u 0 (ZA (H:=H13) (id:=id1) (off:=0) (cs:=(Za a0_.Topo)) (c:=(Za a0_.Topo)) (r:=.agg (Za a0_.Topo)) (hl:=hlc516)) (Zb.v 1 (Zgu (H:=H13) (ys:=[.agg (Za a0_.Topo),Zk false a1_]) (by kernel_rfl) (by kernel_rfl) (by kernel_rfl) hvr517) Zb.f)) (by kernel_rfl) ?_
  refine tq (bk ?_)
  obtain ⟨o1052,ho1052,h⟩:=bs h
  have hyo1052:∀ (x522:Int) (x523:ZaL) (s:(Int × Int × Zr) × Nat) (r:((Int × Int × Zr) × Nat) × Bool) (H:List HO) (its:List Zan),(fun (s:(Int × Int × Zr) × Nat) (its:List Zan)=>its=[.cel id10 [iv s.1.1],.cel id8 [iv s.1.2.1],.cel id6 (Zx s.1.2.2),.cel id1 (Za a0_.Topo)]++[.lp (List.length H518) (lcOf Try.prog i86.nt [21,22] Zcg Zcf) [(2,.ptr id1 0),(5,.ptr id6 0),(6,.ptr id8 0),(7,.ptr id10 0)] (stAt [.ready,.done (.exit 0)] s.2)]) s its→HP H its→(fun (s:(Int × Int × Zr) × Nat) (x522:Int) (x523:ZaL)=>Zie (fun v:Int × Int × Zr=>Zas N a0_ v.1 v.2.1 v.2.2 x522 x523) s) s x522 x523=some r→∃ H' its',ZhB Try.prog (List.length H518) [iv x522,.agg (Z6 x523)] H r.2 H'∧(fun (s:(Int × Int × Zr) × Nat) (its:List Zan)=>its=[.cel id10 [iv s.1.1],.cel id8 [iv s.1.2.1],.cel id6 (Zx s.1.2.2),.cel id1 (Za a0_.Topo)]++[.lp (List.length H518) (lcOf Try.prog i86.nt [21,22] Zcg Zcf) [(2,.ptr id1 0),(5,.ptr id6 0),(6,.ptr id8 0),(7,.ptr id10 0)] (stAt [.ready,.done (.exit 0)] s.2)]) r.1 its'∧Fp H H' its its':=by
   clear h
   intro x522 x523 s r H521 its hT hH h
   obtain ⟨h0,q,hb,rfl⟩:=Zmu h
   clear h
   obtain ⟨vs,e⟩:=s
   obtain rfl:e=0:=h0
   obtain ⟨i524,i525,l526⟩:=vs
   obtain rfl:=hT
   replace h:Zas N a0_ i524 i525 l526 x522 x523=some q:=hb
   clear hb
   unfold Zas at h
   replace hH:Fp H521 H521 [.cel id10 [iv i524],.cel id8 [iv i525],.cel id6 (Zx l526),.cel id1 (Za a0_.Topo),.lp (List.length H518) (lcOf Try.prog i86.nt [21,22] Zcg Zcf) [(2,.ptr id1 0),(5,.ptr id6 0),(6,.ptr id8 0),(7,.ptr id10 0)] .ready] [.cel id10 [iv i524],.cel id8 [iv i525],.cel id6 (Zx l526),.cel id1 (Za a0_.Topo),.lp (List.length H518) (lcOf Try.prog i86.nt [21,22] Zcg Zcf) [(2,.ptr id1 0),(5,.ptr id6 0),(6,.ptr id8 0),(7,.ptr id10 0)] .ready]:=Fp.refl hH
   suffices hs:∃ H',ZhB Try.prog (List.length H518) [iv x522,.agg (Z6 x523)] H521 (q.2==0) H'∧∃ its',(fun (s:(Int × Int × Zr) × Nat) (its:List Zan)=>its=[.cel id10 [iv s.1.1],.cel id8 [iv s.1.2.1],.cel id6 (Zx s.1.2.2),.cel id1 (Za a0_.Topo)]++[.lp (List.length H518) (lcOf Try.prog i86.nt [21,22] Zcg Zcf) [(2,.ptr id1 0),(5,.ptr id6 0),(6,.ptr id8 0),(7,.ptr id10 0)] (stAt [.ready,.done (.exit 0)] s.2)]) q its'∧Fp H521 H' [.cel id10 [iv i524],.cel id8 [iv i525],.cel id6 (Zx l526),.cel id1 (Za a0_.Topo),.lp (List.length H518) (lcOf Try.prog i86.nt [21,22] Zcg Zcf) [(2,.ptr id1 0),(5,.ptr id6 0),(6,.ptr id8 0),(7,.ptr id10 0)] .ready] its' by
    obtain ⟨H',h1,its',h2,h3⟩:=hs
    exact ⟨H',its',h1,h2,h3⟩
   refine Zha (id:=(List.length H518)) (args:=[iv x522,.agg (Z6 x523)]) (H:=H521) (n:=i86.nt) (ps:=[21,22]) (fr0:=[(2,.ptr id1 0),(5,.ptr id6 0),(6,.ptr id8 0),(7,.ptr id10 0)]) (ia:=Zcg) (ib:=Zcf) (q.2==0) (fun H'=>∃ its',(fun (s:(Int × Int × Zr) × Nat) (its:List Zan)=>its=[.cel id10 [iv s.1.1],.cel id8 [iv s.1.2.1],.cel id6 (Zx s.1.2.2),.cel id1 (Za a0_.Topo)]++[.lp (List.length H518) (lcOf Try.prog i86.nt [21,22] Zcg Zcf) [(2,.ptr id1 0),(5,.ptr id6 0),(6,.ptr id8 0),(7,.ptr id10 0)] (stAt [.ready,.done (.exit 0)] s.2)]) q its'∧Fp H521 H' [.cel id10 [iv i524],.cel id8 [iv i525],.cel id6 (Zx l526),.cel id1 (Za a0_.Topo),.lp (List.length H518) (lcOf Try.prog i86.nt [21,22] Zcg Zcf) [(2,.ptr id1 0),(5,.ptr id6 0),(6,.ptr id8 0),(7,.ptr id10 0)] .ready] its') (Fp.get hH 4 rfl) rfl (by decide +kernel) rfl ?_
   show vc _ _ _ _ ⟨[(2,.ptr id1 0),(5,.ptr id6 0),(6,.ptr id8 0),(7,.ptr id10 0),(21,iv x522),(22,.agg (Z6 x523))],[],H521⟩
   refine sq (rgS ⟨[(2,.ptr id1 0),(5,.ptr id6 0),(6,.ptr id8 0),(7,.ptr id10 0),(8,iv x522),(22,.agg (Z6 x523))],[],H521⟩ Zb.f (by kernel_rfl) ?_)
   refine tq (rgS ⟨[(2,.ptr id1 0),(5,.ptr id6 0),(6,.ptr id8 0),(7,.ptr id10 0),(8,iv x522),(9,.loc 9 0)],[(9,(Z6 x523))],H521⟩ Zb.f (by kernel_rfl) ?_)
   refine Zlh (k:=4) hH rfl ?_
   intro H1024 hH
   replace hH:Fp H521 H1024 [.cel id10 [iv i524],.cel id8 [iv i525],.cel id6 (Zx l526),.cel id1 (Za a0_.Topo),.lp (List.length H518) (lcOf Try.prog i86.nt [21,22] Zcg Zcf) [(2,.ptr id1 0),(5,.ptr id6 0),(6,.ptr id8 0),(7,.ptr id10 0)] .ready] [.cel id10 [iv i524],.cel id8 [iv i525],.cel id6 (Zx l526),.cel id1 (Za a0_.Topo),.lp (List.length H518) (lcOf Try.prog i86.nt [21,22] Zcg Zcf) [(2,.ptr id1 0),(5,.ptr id6 0),(6,.ptr id8 0),(7,.ptr id10 0)] .busy]:=hH
   show vc _ _ _ _ ⟨[(2,.ptr id1 0),(5,.ptr id6 0),(6,.ptr id8 0),(7,.ptr id10 0),(8,iv x522),(9,.loc 9 0)],[(9,(Z6 x523))],H1024⟩
   refine bk (sq ?_)
   refine sq (rgS ⟨[(2,.ptr id1 0),(5,.ptr id6 0),(6,.ptr id8 0),(7,.ptr id10 0),(9,.loc 9 0),(24,bv (x522==0))],[(9,(Z6 x523))],H1024⟩ Zb.f (by kernel_rfl) ?_)
   refine tq (it h (fun hc1025 h => ?_) (fun hc1025 h => ?_))
   ·obtain ⟨e1026,he1026,h⟩:=bs h
    obtain ⟨H1027,hH1027,hH⟩:=Fp.setCell (k:=2) (off:=0+Int.toNat x523.from_ * 1) (cs:=(Zx l526)) (vs:=[bv true]) (cs':=(Zx (Zr.set l526 x523.from_ true))) hH rfl (ZhT (fun x=>bv x) [] [] (l:=l526.l) he1026 rfl rfl rfl (ZmR (Zr.c_set l526 x523.from_ true) (by show (Zx (Zr.set l526 x523.from_ true))=[]++(Zx (Zr.set l526 x523.from_ true)++[]);rfl)))
    replace hH:Fp H521 H1027 [.cel id10 [iv i524],.cel id8 [iv i525],.cel id6 (Zx l526),.cel id1 (Za a0_.Topo),.lp (List.length H518) (lcOf Try.prog i86.nt [21,22] Zcg Zcf) [(2,.ptr id1 0),(5,.ptr id6 0),(6,.ptr id8 0),(7,.ptr id10 0)] .ready] [.cel id10 [iv i524],.cel id8 [iv i525],.cel id6 (Zx (Zr.set l526 x523.from_ true)),.cel id1 (Za a0_.Topo),.lp (List.length H518) (lcOf Try.prog i86.nt [21,22] Zcg Zcf) [(2,.ptr id1 0),(5,.ptr id6 0),(6,.ptr id8 0),(7,.ptr id10 0)] .busy]:=hH
    refine rgS ⟨[(5,.ptr id6 0),(6,.ptr id8 0),(7,.ptr id10 0),(9,.loc 9 0)],[(9,(Z6 x523))],H1027⟩ (Zb.u 2 (Zo (ys:=[.ptr id6 0,iv x523.from_]) (h:=Zd8 (l:=l526.l) he1026 rfl)) (Zb.o 0 (ZaD (H:=H1024) (v:=bv true) (hw:=hH1027)) Zb.f)) (by kernel_rfl) ?_
    refine tq (kq ?_)
    refine sq (sq ?_)
    obtain ⟨e1028,he1028,h⟩:=bs h
    have hlc1029:=Fp.get hH 2 rfl
    refine rgS ⟨[(5,.ptr id6 0),(6,.ptr id8 0),(7,.ptr id10 0),(9,.loc 9 0),(43,bv e1028)],[(9,(Z6 x523))],H1027⟩ (Zb.u 2 (Zo (ys:=[.ptr id6 0,iv x523.to_]) (h:=Zd8 (l:=(Zr.set l526 x523.from_ true).l) he1028 rfl)) (Zb.u 0 (ZlE (H:=H1027) (id:=id6) (off:=0) (cs:=(Zx (Zr.set l526 x523.from_ true))) (l:=(Zr.set l526 x523.from_ true).l) (fun x=>bv x) [] [] he1028 (by kernel_rfl) (by kernel_rfl) hlc1029 rfl rfl) Zb.f)) (by kernel_rfl) ?_
    refine tq (it h (fun hc1030 h => ?_) (fun hc1030 h => ?_))
    ·refine kq (xq ?_)
     refine tx (bo ?_)
     obtain rfl:=Zc h
     exact rbd (k:=4) (.done (.exit 0)) hH rfl rfl (fun H6 hH=>⟨_,(Eq.refl _),(Fp.pick hH [0,1,2,3,4] rfl)⟩)
    refine sk (tq ?_)
    refine kq (sq ?_)
    obtain ⟨e1031,he1031,h⟩:=bs h
    obtain ⟨H1032,hH1032,hH⟩:=Fp.setCell (k:=2) (off:=0+Int.toNat x523.to_ * 1) (cs:=(Zx (Zr.set l526 x523.from_ true))) (vs:=[bv true]) (cs':=(Zx (Zr.set (Zr.set l526 x523.from_ true) x523.to_ true))) hH rfl (ZhT (fun x=>bv x) [] [] (l:=(Zr.set l526 x523.from_ true).l) he1031 rfl rfl rfl (ZmR (Zr.c_set (Zr.set l526 x523.from_ true) x523.to_ true) (by show (Zx (Zr.set (Zr.set l526 x523.from_ true) x523.to_ true))=[]++(Zx (Zr.set (Zr.set l526 x523.from_ true) x523.to_ true)++[]);rfl)))
    replace hH:Fp H521 H1032 [.cel id10 [iv i524],.cel id8 [iv i525],.cel id6 (Zx l526),.cel id1 (Za a0_.Topo),.lp (List.length H518) (lcOf Try.prog i86.nt [21,22] Zcg Zcf) [(2,.ptr id1 0),(5,.ptr id6 0),(6,.ptr id8 0),(7,.ptr id10 0)] .ready] [.cel id10 [iv i524],.cel id8 [iv i525],.cel id6 (Zx (Zr.set (Zr.set l526 x523.from_ true) x523.to_ true)),.cel id1 (Za a0_.Topo),.lp (List.length H518) (lcOf Try.prog i86.nt [21,22] Zcg Zcf) [(2,.ptr id1 0),(5,.ptr id6 0),(6,.ptr id8 0),(7,.ptr id10 0)] .busy]:=hH
    refine rgS ⟨[(6,.ptr id8 0),(7,.ptr id10 0),(9,.loc 9 0)],[(9,(Z6 x523))],H1032⟩ (Zb.u 2 (Zo (ys:=[.ptr id6 0,iv x523.to_]) (h:=Zd8 (l:=(Zr.set l526 x523.from_ true).l) he1031 rfl)) (Zb.o 0 (ZaD (H:=H1027) (v:=bv true) (hw:=hH1032)) Zb.f)) (by kernel_rfl) ?_
    refine tq (sq ?_)
    obtain ⟨H1033,hH1033,hH⟩:=Fp.setCell (k:=1) (off:=0) (cs:=[iv i525]) (vs:=[iv x523.to_]) (cs':=[iv x523.to_]) hH rfl (by kernel_rfl)
    replace hH:Fp H521 H1033 [.cel id10 [iv i524],.cel id8 [iv i525],.cel id6 (Zx l526),.cel id1 (Za a0_.Topo),.lp (List.length H518) (lcOf Try.prog i86.nt [21,22] Zcg Zcf) [(2,.ptr id1 0),(5,.ptr id6 0),(6,.ptr id8 0),(7,.ptr id10 0)] .ready] [.cel id10 [iv i524],.cel id8 [iv x523.to_],.cel id6 (Zx (Zr.set (Zr.set l526 x523.from_ true) x523.to_ true)),.cel id1 (Za a0_.Topo),.lp (List.length H518) (lcOf Try.prog i86.nt [21,22] Zcg Zcf) [(2,.ptr id1 0),(5,.ptr id6 0),(6,.ptr id8 0),(7,.ptr id10 0)] .busy]:=hH
    refine rgS ⟨[(7,.ptr id10 0)],[],H1033⟩ (Zb.o 2 (ZaD (H:=H1032) (v:=iv x523.to_) (hw:=hH1033)) Zb.f) (by kernel_rfl) ?_
    refine tq ?_
    have hlc1034:=Fp.get hH 0 rfl
    obtain ⟨H1035,hH1035,hH⟩:=Fp.setCell (k:=0) (off:=0) (cs:=[iv i524]) (vs:=[iv (w64 (i524+1))]) (cs':=[iv (w64 (i524+1))]) hH rfl (by kernel_rfl)
    replace hH:Fp H521 H1035 [.cel id10 [iv i524],.cel id8 [iv i525],.cel id6 (Zx l526),.cel id1 (Za a0_.Topo),.lp (List.length H518) (lcOf Try.prog i86.nt [21,22] Zcg Zcf) [(2,.ptr id1 0),(5,.ptr id6 0),(6,.ptr id8 0),(7,.ptr id10 0)] .ready] [.cel id10 [iv (w64 (i524+1))],.cel id8 [iv x523.to_],.cel id6 (Zx (Zr.set (Zr.set l526 x523.from_ true) x523.to_ true)),.cel id1 (Za a0_.Topo),.lp (List.length H518) (lcOf Try.prog i86.nt [21,22] Zcg Zcf) [(2,.ptr id1 0),(5,.ptr id6 0),(6,.ptr id8 0),(7,.ptr id10 0)] .busy]:=hH
    refine rgS ⟨[],[],H1035⟩ (Zb.u 0 (ZA (H:=H1033) (id:=id10) (off:=0) (cs:=[iv i524]) (c:=[iv i524]) (r:=iv i524) (hl:=hlc1034)) (Zb.o 1 (ZaD (H:=H1033) (v:=iv (w64 (i524+1))) (hw:=hH1035)) Zb.f)) (by kernel_rfl) ?_
    refine bn ?_
    obtain rfl:=Zc h
    exact rbd (k:=4) (.ready) hH rfl rfl (fun H6 hH=>⟨_,(Eq.refl _),(Fp.pick hH [0,1,2,3,4] rfl)⟩)
   refine sq ?_
   obtain ⟨j1042,hj,h⟩:=bs h
   refine rgR (fun s=>s=⟨[(5,.ptr id6 0),(6,.ptr id8 0),(7,.ptr id10 0),(9,.loc 9 0),(39,bv j1042)],[(9,(Z6 x523))],H1024⟩) ?_ ?_
   ·clear h
    have hlc1036:=Fp.get hH 1 rfl
    refine (EP.u 2 (ZA (H:=H1024) (id:=id8) (off:=0) (cs:=[iv i525]) (c:=[iv i525]) (r:=iv i525) (hl:=hlc1036)) ?_)
    rcases Zt hj with ⟨hc1037,hj⟩ | ⟨hc1038,hj⟩
    ·obtain rfl:=Zc hj
     exact (EP.u 0 (Zj (c:=(x523.from_ != i525)) (h:=hc1037)) (EP.f (by show _=_;kernel_rfl)))
    refine (EP.u 0 (Zj (c:=(x523.from_ != i525)) (h:=hc1038)) ?_)
    have hlc1039:=Fp.get hH 3 rfl
    refine (EP.u 3 (ZA (H:=H1024) (id:=id1) (off:=1) (cs:=(Za a0_.Topo)) (c:=[s_eB false a0_.Topo.Station]) (r:=s_eB false a0_.Topo.Station) (hl:=hlc1039)) ?_)
    have hlc1040:=Fp.get hH 1 rfl
    refine (EP.u 0 (ZA (H:=H1024) (id:=id8) (off:=0) (cs:=[iv i525]) (c:=[iv i525]) (r:=iv i525) (hl:=hlc1040)) ?_)
    obtain ⟨e1041,he1041,hj⟩:=bs hj
    obtain rfl:=Zc hj
    exact (EP.u 0 (Zo (ys:=[s_eB false a0_.Topo.Station,iv i525]) (h:=Zg eB he1041)) (EP.u 0 (Zq (sz:=1) (off:=0) (cs:=[.bool e1041]) (r:=bv e1041) eB he1041) (EP.f (by show _=_;kernel_rfl))))
   clear hj
   rintro s hR
   obtain rfl:=hR
   refine tq (it h (fun hc1043 h => ?_) (fun hc1043 h => ?_))
   ·refine kq (xq ?_)
    refine tx (bo ?_)
    obtain rfl:=Zc h
    exact rbd (k:=4) (.done (.exit 0)) hH rfl rfl (fun H6 hH=>⟨_,(Eq.refl _),(Fp.pick hH [0,1,2,3,4] rfl)⟩)
   refine sk (tq ?_)
   refine kq (sq ?_)
   refine sq ?_
   obtain ⟨e1044,he1044,h⟩:=bs h
   have hlc1045:=Fp.get hH 2 rfl
   refine rgS ⟨[(5,.ptr id6 0),(6,.ptr id8 0),(7,.ptr id10 0),(9,.loc 9 0),(43,bv e1044)],[(9,(Z6 x523))],H1024⟩ (Zb.u 2 (Zo (ys:=[.ptr id6 0,iv x523.to_]) (h:=Zd8 (l:=l526.l) he1044 rfl)) (Zb.u 0 (ZlE (H:=H1024) (id:=id6) (off:=0) (cs:=(Zx l526)) (l:=l526.l) (fun x=>bv x) [] [] he1044 (by kernel_rfl) (by kernel_rfl) hlc1045 rfl rfl) Zb.f)) (by kernel_rfl) ?_
   refine tq (it h (fun hc1046 h => ?_) (fun hc1046 h => ?_))
   ·refine kq (xq ?_)
    refine tx (bo ?_)
    obtain rfl:=Zc h
    exact rbd (k:=4) (.done (.exit 0)) hH rfl rfl (fun H6 hH=>⟨_,(Eq.refl _),(Fp.pick hH [0,1,2,3,4] rfl)⟩)
   refine sk (tq ?_)
   refine kq (sq ?_)
   obtain ⟨e1047,he1047,h⟩:=bs h
   obtain ⟨H1048,hH1048,hH⟩:=Fp.setCell (k:=2) (off:=0+Int.toNat x523.to_ * 1) (cs:=(Zx l526)) (vs:=[bv true]) (cs':=(Zx (Zr.set l526 x523.to_ true))) hH rfl (ZhT (fun x=>bv x) [] [] (l:=l526.l) he1047 rfl rfl rfl (ZmR (Zr.c_set l526 x523.to_ true) (by show (Zx (Zr.set l526 x523.to_ true))=[]++(Zx (Zr.set l526 x523.to_ true)++[]);rfl)))
   replace hH:Fp H521 H1048 [.cel id10 [iv i524],.cel id8 [iv i525],.cel id6 (Zx l526),.cel id1 (Za a0_.Topo),.lp (List.length H518) (lcOf Try.prog i86.nt [21,22] Zcg Zcf) [(2,.ptr id1 0),(5,.ptr id6 0),(6,.ptr id8 0),(7,.ptr id10 0)] .ready] [.cel id10 [iv i524],.cel id8 [iv i525],.cel id6 (Zx (Zr.set l526 x523.to_ true)),.cel id1 (Za a0_.Topo),.lp (List.length H518) (lcOf Try.prog i86.nt [21,22] Zcg Zcf) [(2,.ptr id1 0),(5,.ptr id6 0),(6,.ptr id8 0),(7,.ptr id10 0)] .busy]:=hH
   refine rgS ⟨[(6,.ptr id8 0),(7,.ptr id10 0),(9,.loc 9 0)],[(9,(Z6 x523))],H1048⟩ (Zb.u 2 (Zo (ys:=[.ptr id6 0,iv x523.to_]) (h:=Zd8 (l:=l526.l) he1047 rfl)) (Zb.o 0 (ZaD (H:=H1024) (v:=bv true) (hw:=hH1048)) Zb.f)) (by kernel_rfl) ?_
   refine tq (sq ?_)
   obtain ⟨H1049,hH1049,hH⟩:=Fp.setCell (k:=1) (off:=0) (cs:=[iv i525]) (vs:=[iv x523.to_]) (cs':=[iv x523.to_]) hH rfl (by kernel_rfl)
   replace hH:Fp H521 H1049 [.cel id10 [iv i524],.cel id8 [iv i525],.cel id6 (Zx l526),.cel id1 (Za a0_.Topo),.lp (List.length H518) (lcOf Try.prog i86.nt [21,22] Zcg Zcf) [(2,.ptr id1 0),(5,.ptr id6 0),(6,.ptr id8 0),(7,.ptr id10 0)] .ready] [.cel id10 [iv i524],.cel id8 [iv x523.to_],.cel id6 (Zx (Zr.set l526 x523.to_ true)),.cel id1 (Za a0_.Topo),.lp (List.length H518) (lcOf Try.prog i86.nt [21,22] Zcg Zcf) [(2,.ptr id1 0),(5,.ptr id6 0),(6,.ptr id8 0),(7,.ptr id10 0)] .busy]:=hH
   refine rgS ⟨[(7,.ptr id10 0)],[],H1049⟩ (Zb.o 2 (ZaD (H:=H1048) (v:=iv x523.to_) (hw:=hH1049)) Zb.f) (by kernel_rfl) ?_
   refine tq ?_
   have hlc1050:=Fp.get hH 0 rfl
   obtain ⟨H1051,hH1051,hH⟩:=Fp.setCell (k:=0) (off:=0) (cs:=[iv i524]) (vs:=[iv (w64 (i524+1))]) (cs':=[iv (w64 (i524+1))]) hH rfl (by kernel_rfl)
   replace hH:Fp H521 H1051 [.cel id10 [iv i524],.cel id8 [iv i525],.cel id6 (Zx l526),.cel id1 (Za a0_.Topo),.lp (List.length H518) (lcOf Try.prog i86.nt [21,22] Zcg Zcf) [(2,.ptr id1 0),(5,.ptr id6 0),(6,.ptr id8 0),(7,.ptr id10 0)] .ready] [.cel id10 [iv (w64 (i524+1))],.cel id8 [iv x523.to_],.cel id6 (Zx (Zr.set l526 x523.to_ true)),.cel id1 (Za a0_.Topo),.lp (List.length H518) (lcOf Try.prog i86.nt [21,22] Zcg Zcf) [(2,.ptr id1 0),(5,.ptr id6 0),(6,.ptr id8 0),(7,.ptr id10 0)] .busy]:=hH
   refine rgS ⟨[],[],H1051⟩ (Zb.u 0 (ZA (H:=H1049) (id:=id10) (off:=0) (cs:=[iv i524]) (c:=[iv i524]) (r:=iv i524) (hl:=hlc1050)) (Zb.o 1 (ZaD (H:=H1049) (v:=iv (w64 (i524+1))) (hw:=hH1051)) Zb.f)) (by kernel_rfl) ?_
   refine bn ?_
   obtain rfl:=Zc h
   exact rbd (k:=4) (.ready) hH rfl rfl (fun H6 hH=>⟨_,(Eq.refl _),(Fp.pick hH [0,1,2,3,4] rfl)⟩)
  refine ZiH (s:=⟨[(1,Zk false a1_),(2,.ptr id1 0),(5,.ptr id6 0),(6,.ptr id8 0),(7,.ptr id10 0),(20,.fn 98 [] [.ptr id519 0,.ptr id520 0])],[],H518⟩) [(2,.ptr id1 0),(5,.ptr id6 0),(6,.ptr id8 0),(7,.ptr id10 0)] (FrOK.cons (by kernel_rfl) (by kernel_rfl) (FrOK.cons (by kernel_rfl) (by kernel_rfl) (FrOK.cons (by kernel_rfl) (by kernel_rfl) (FrOK.cons (by kernel_rfl) (by kernel_rfl) FrOK.nil)))) (by kernel_rfl) (fun H=>rfl) (capT:=[.cel id519 [Zk false r517.1],.cel id520 (Za r517.2.Topo)]) (cells0:=[.cel id10 [iv 0],.cel id8 [iv 0],.cel id6 (Zx (Zr.mk false false false false false false false false false false false false)),.cel id1 (Za a0_.Topo)]) (rest:=[]) (HP.now (HP.pick hH [0,1,2,3,4,5] rfl)) (fun (s:(Int × Int × Zr) × Nat) (its:List Zan)=>its=[.cel id10 [iv s.1.1],.cel id8 [iv s.1.2.1],.cel id6 (Zx s.1.2.2),.cel id1 (Za a0_.Topo)]++[.lp (List.length H518) (lcOf Try.prog i86.nt [21,22] Zcg Zcf) [(2,.ptr id1 0),(5,.ptr id6 0),(6,.ptr id8 0),(7,.ptr id10 0)] (stAt [.ready,.done (.exit 0)] s.2)]) ((0,0,(Zr.mk false false false false false false false false false false false false)),0) o1052 (by exact (Eq.refl _)) (fun H its hT hH=>Zen N (fun (s:(Int × Int × Zr) × Nat) (x522:Int) (x523:ZaL)=>Zie (fun v:Int × Int × Zr=>Zas N a0_ v.1 v.2.1 v.2.2 x522 x523) s) r517.1 r517.2 ((0,0,(Zr.mk false false false false false false false false false false false false)),0) id519 id520 (List.length H518) (fun (s:(Int × Int × Zr) × Nat) (its:List Zan)=>its=[.cel id10 [iv s.1.1],.cel id8 [iv s.1.2.1],.cel id6 (Zx s.1.2.2),.cel id1 (Za a0_.Topo)]++[.lp (List.length H518) (lcOf Try.prog i86.nt [21,22] Zcg Zcf) [(2,.ptr id1 0),(5,.ptr id6 0),(6,.ptr id8 0),(7,.ptr id10 0)] (stAt [.ready,.done (.exit 0)] s.2)]) hyo1052 H its hT hH o1052 ho1052) ?_
  rintro its hT
  obtain rfl:=hT
  refine ⟨_,_,rfl,?_⟩
  intro H1053 hF
  replace hH:HP H1053 [.cel id519 [Zk false r517.1],.cel id520 (Za r517.2.Topo),.cel id10 [iv o1052.1.1],.cel id8 [iv o1052.1.2.1],.cel id6 (Zx o1052.1.2.2),.cel id1 (Za a0_.Topo)]:=HP.after (HP.pick hH [0,1,2,3,4,5] rfl) hF
  rcases Zt h with ⟨hc1054,h⟩ | ⟨_,h⟩
  ·refine Zoe (S:=⟨[(1,Zk false a1_),(2,.ptr id1 0),(5,.ptr id6 0),(6,.ptr id8 0),(7,.ptr id10 0),(20,.fn 98 [] [.ptr id519 0,.ptr id520 0])],[],H1053⟩) (e:=.normal) hc1054 rfl ?_
   refine bn ?_
   obtain rfl:=Zc h
   exact ⟨rfl,⟨H1053,(by show _=_;kernel_rfl),(HP.pick hH [2] rfl)⟩⟩
  rcases Zt h with ⟨hc1055,h⟩ | ⟨_,h⟩
  ·refine Zoe (S:=⟨[(1,Zk false a1_),(2,.ptr id1 0),(5,.ptr id6 0),(6,.ptr id8 0),(7,.ptr id10 0),(20,.fn 98 [] [.ptr id519 0,.ptr id520 0])],[],H1053⟩) (e:=(.exit 0)) hc1055 rfl ?_
   refine bx ?_
   obtain rfl:=Zc h
   exact ⟨rfl,⟨H1053,(by show _=_;kernel_rfl),(HP.pick hH [2] rfl)⟩⟩
  cases h
 clear hj515
 rintro s hR
 obtain ⟨H514,rfl,hH⟩:=hR
 replace hH:HP H514 [.cel id10 [iv j515]]:=hH
 refine sq ?_
 have hlc1056:=HP.get hH 0 rfl
 refine rgS ⟨[(4,bv (j515==((List.length a1_:Nat):Int)))],[],H514⟩ (Zb.u 0 (ZA (H:=H514) (id:=id10) (off:=0) (cs:=[iv j515]) (c:=[iv j515]) (r:=iv j515) (hl:=hlc1056)) (Zb.u 1 (Zo (ys:=[Zk false a1_]) (h:=ZB eI64)) Zb.f)) (by kernel_rfl) ?_
 replace hH:HP H514 []:=HP.pick hH [] rfl
 refine tq (rt ?_)
 obtain rfl:=Zc h
 exact ZC (by kernel_rfl)
theorem Zdj (N:Nat) (a0_:ZX) (a1_:(List Int)) (r:(List Int)) (h:Zbw N a0_ a1_=some r):Zal Try.prog 94 [.agg (Za a0_.Topo),Zk false a1_] (Zk false r):=by
 unfold Zbw at h
 have hH:HP ([]:List HO) []:=trivial
 refine ZF chk94 rfl rfl (Zv _ _ _ ?_) rfl
 refine sq (rgS ⟨[(1,Zk false a1_),(2,.loc 2 0)],[(2,(Za a0_.Topo))],[]⟩ Zb.f (by kernel_rfl) ?_)
 refine tq (sq ?_)
 obtain ⟨l3,hl3,h⟩:=bs h
 obtain ⟨a1,H2,ha1,hH2,ha1b,hH⟩:=HP.make eI64 hH hl3
 replace hH:HP H2 [.arr a1 1 false (List.map eI64 l3)]:=hH
 have hfa1:=Zu (HP.get hH 0 rfl)
 obtain ⟨id4,H5,hid4,hH5,hH⟩:=HP.newCell hH [Zk true []]
 replace hH:HP H5 [.cel id4 [Zk true []],.arr a1 1 false (List.map eI64 l3)]:=hH
 obtain ⟨H6,hH6,hH⟩:=HP.setCell (k:=0) (off:=0) (cs:=[Zk true []]) (vs:=[a1]) (cs':=[a1]) hH rfl (by kernel_rfl)
 replace hH:HP H6 [.cel id4 [a1],.arr a1 1 false (List.map eI64 l3)]:=hH
 refine rgS ⟨[(1,Zk false a1_),(2,.loc 2 0),(5,.ptr id4 0)],[(2,(Za a0_.Topo))],H6⟩ (Zb.u 1 (Zo (ys:=[Zk false a1_]) (h:=ZB eI64)) (Zb.h 1 (Zi6 (H:=[]) (zero:=[.int .i64 0]) (bytes:=8) (by kernel_rfl) (by kernel_rfl) (by kernel_rfl) ha1 hH2 ha1b) (Zb.h 0 (ZhS (H:=H2) (by kernel_rfl) hid4 hH5) (Zb.o 0 (Zhg (H:=H5) (v:=a1) (cs:=[a1]) (by rcases hfa1 with ha1e | ⟨_,_,ha1e⟩<;>subst ha1e<;>kernel_rfl) (by rcases hfa1 with ha1e | ⟨_,_,ha1e⟩<;>subst ha1e<;>kernel_rfl) (by rcases hfa1 with ha1e | ⟨_,_,ha1e⟩<;>subst ha1e<;>kernel_rfl) (by rcases hfa1 with ha1e | ⟨_,_,ha1e⟩<;>subst ha1e<;>kernel_rfl) (by rcases hfa1 with ha1e | ⟨_,_,ha1e⟩<;>subst ha1e<;>kernel_rfl) hH6) Zb.f)))) (by kernel_rfl) ?_
 refine tq (sq ?_)
 refine sq ?_
 obtain ⟨r7,hr7,h⟩:=bs h
 obtain ⟨id9,id10,H8,hvr7,hpr7⟩:=Ze2 N a0_ a1_ H6 r7 hr7
 replace hH:HP H8 [.cel id9 [Zk false r7.1],.cel id10 (Za r7.2.Topo),.cel id4 [a1],.arr a1 1 false (List.map eI64 l3)]:=HP.callee (fp:=[]) (rest:=[.cel id4 [a1],.arr a1 1 false (List.map eI64 l3)]) hH hpr7
 refine rgS ⟨[(5,.ptr id4 0),(14,.fn 98 [] [.ptr id9 0,.ptr id10 0])],[],H8⟩ (Zb.v 2 (Zgu (H:=H6) (ys:=[.agg (Za a0_.Topo),Zk false a1_]) (by kernel_rfl) (by kernel_rfl) (by kernel_rfl) hvr7) Zb.f) (by kernel_rfl) ?_
 refine tq (bk ?_)
 obtain ⟨o1030,ho1030,h⟩:=bs h
 have hyo1030:∀ (x13:Int) (x14:ZaL) (s:(List Int)) (r:((List Int)) × Bool) (H:List HO) (its:List Zan),(fun (s:(List Int)) (its:List Zan)=>∃ (a11:AV),its=[.arr a11 1 false (List.map eI64 s),.cel id4 [a11]]++[.lp (List.length H8) (lcOf Try.prog i94.nt [15,16] Zcr Zcq) [(5,.ptr id4 0)] .ready]) s its→HP H its→(fun (s:(List Int)) (x13:Int) (x14:ZaL)=>Zds (fun v:(List Int)=>ZaF N v x13 x14) s) s x13 x14=some r→∃ H' its',ZhB Try.prog (List.length H8) [iv x13,.agg (Z6 x14)] H r.2 H'∧(fun (s:(List Int)) (its:List Zan)=>∃ (a11:AV),its=[.arr a11 1 false (List.map eI64 s),.cel id4 [a11]]++[.lp (List.length H8) (lcOf Try.prog i94.nt [15,16] Zcr Zcq) [(5,.ptr id4 0)] .ready]) r.1 its'∧Fp H H' its its':=by
  clear h
  intro x13 x14 s r H12 its hT hH h
  obtain ⟨q,hb,rfl⟩:=Zg0 h
  clear h
  obtain ⟨vs,rfl⟩:∃ v,v=s:=⟨s,rfl⟩
  obtain ⟨l15,rfl⟩:∃ v,v=vs:=⟨vs,rfl⟩
  obtain ⟨a11,rfl⟩:=hT
  replace h:ZaF N l15 x13 x14=some q:=hb
  clear hb
  unfold ZaF at h
  replace hH:Fp H12 H12 [.arr a11 1 false (List.map eI64 l15),.cel id4 [a11],.lp (List.length H8) (lcOf Try.prog i94.nt [15,16] Zcr Zcq) [(5,.ptr id4 0)] .ready] [.arr a11 1 false (List.map eI64 l15),.cel id4 [a11],.lp (List.length H8) (lcOf Try.prog i94.nt [15,16] Zcr Zcq) [(5,.ptr id4 0)] .ready]:=Fp.refl hH
  have hfa11:=Zu (Fp.get hH 0 rfl)
  suffices hs:∃ H',ZhB Try.prog (List.length H8) [iv x13,.agg (Z6 x14)] H12 true H'∧∃ its',(fun (s:(List Int)) (its:List Zan)=>∃ (a11:AV),its=[.arr a11 1 false (List.map eI64 s),.cel id4 [a11]]++[.lp (List.length H8) (lcOf Try.prog i94.nt [15,16] Zcr Zcq) [(5,.ptr id4 0)] .ready]) q its'∧Fp H12 H' [.arr a11 1 false (List.map eI64 l15),.cel id4 [a11],.lp (List.length H8) (lcOf Try.prog i94.nt [15,16] Zcr Zcq) [(5,.ptr id4 0)] .ready] its' by
   obtain ⟨H',h1,its',h2,h3⟩:=hs
   exact ⟨H',its',h1,h2,h3⟩
  refine Zha (id:=(List.length H8)) (args:=[iv x13,.agg (Z6 x14)]) (H:=H12) (n:=i94.nt) (ps:=[15,16]) (fr0:=[(5,.ptr id4 0)]) (ia:=Zcr) (ib:=Zcq) true (fun H'=>∃ its',(fun (s:(List Int)) (its:List Zan)=>∃ (a11:AV),its=[.arr a11 1 false (List.map eI64 s),.cel id4 [a11]]++[.lp (List.length H8) (lcOf Try.prog i94.nt [15,16] Zcr Zcq) [(5,.ptr id4 0)] .ready]) q its'∧Fp H12 H' [.arr a11 1 false (List.map eI64 l15),.cel id4 [a11],.lp (List.length H8) (lcOf Try.prog i94.nt [15,16] Zcr Zcq) [(5,.ptr id4 0)] .ready] its') (Fp.get hH 2 rfl) rfl (by decide +kernel) rfl ?_
  show vc _ _ _ _ ⟨[(5,.ptr id4 0),(15,iv x13),(16,.agg (Z6 x14))],[],H12⟩
  refine sq (rgS ⟨[(5,.ptr id4 0),(6,iv x13),(16,.agg (Z6 x14))],[],H12⟩ Zb.f (by kernel_rfl) ?_)
  refine tq (rgS ⟨[(5,.ptr id4 0),(6,iv x13),(7,.loc 7 0)],[(7,(Z6 x14))],H12⟩ Zb.f (by kernel_rfl) ?_)
  refine Zlh (k:=2) hH rfl ?_
  intro H515 hH
  replace hH:Fp H12 H515 [.arr a11 1 false (List.map eI64 l15),.cel id4 [a11],.lp (List.length H8) (lcOf Try.prog i94.nt [15,16] Zcr Zcq) [(5,.ptr id4 0)] .ready] [.arr a11 1 false (List.map eI64 l15),.cel id4 [a11],.lp (List.length H8) (lcOf Try.prog i94.nt [15,16] Zcr Zcq) [(5,.ptr id4 0)] .busy]:=hH
  show vc _ _ _ _ ⟨[(5,.ptr id4 0),(6,iv x13),(7,.loc 7 0)],[(7,(Z6 x14))],H515⟩
  refine bk ?_
  obtain ⟨j1018,hj1018,h⟩:=bs h
  refine Zcu [5,7] (fun s=>∃ (a1016:AV) (H1017:List HO),s=⟨[(5,.ptr id4 0),(7,.loc 7 0)],[(7,(Z6 x14))],H1017⟩∧Fp H12 H1017 [.arr a11 1 false (List.map eI64 l15),.cel id4 [a11],.lp (List.length H8) (lcOf Try.prog i94.nt [15,16] Zcr Zcq) [(5,.ptr id4 0)] .ready] [.arr a1016 1 false (List.map eI64 j1018),.cel id4 [a1016],.lp (List.length H8) (lcOf Try.prog i94.nt [15,16] Zcr Zcq) [(5,.ptr id4 0)] .busy]) ?_ ?_
  ·clear h
   have h:=hj1018
   refine sq (rgS ⟨[(5,.ptr id4 0),(7,.loc 7 0),(18,bv (x13==0))],[(7,(Z6 x14))],H515⟩ Zb.f (by kernel_rfl) ?_)
   refine tq (it h (fun hc1019 h => ?_) (fun hc1019 h => ?_))
   ·have hlc1020:=Fp.get hH 1 rfl
    obtain ⟨l1023,hl1023,h⟩:=bs h
    obtain ⟨a1021,H1022,ha1021,hH⟩:=Fp.app (k:=0) (a:=a11) (sz:=1) (frz:=false) eI64 hH rfl hl1023
    replace hH:Fp H12 H1022 [.arr a11 1 false (List.map eI64 l15),.cel id4 [a11],.lp (List.length H8) (lcOf Try.prog i94.nt [15,16] Zcr Zcq) [(5,.ptr id4 0)] .ready] [.arr a1021 1 false (List.map eI64 l1023),.cel id4 [a11],.lp (List.length H8) (lcOf Try.prog i94.nt [15,16] Zcr Zcq) [(5,.ptr id4 0)] .busy]:=hH
    have hfa1021:=Zu (Fp.get hH 0 rfl)
    obtain ⟨H1024,hH1024,hH⟩:=Fp.setCell (k:=1) (off:=0) (cs:=[a11]) (vs:=[a1021]) (cs':=[a1021]) hH rfl (by kernel_rfl)
    replace hH:Fp H12 H1024 [.arr a11 1 false (List.map eI64 l15),.cel id4 [a11],.lp (List.length H8) (lcOf Try.prog i94.nt [15,16] Zcr Zcq) [(5,.ptr id4 0)] .ready] [.arr a1021 1 false (List.map eI64 l1023),.cel id4 [a1021],.lp (List.length H8) (lcOf Try.prog i94.nt [15,16] Zcr Zcq) [(5,.ptr id4 0)] .busy]:=hH
    refine rgS ⟨[(5,.ptr id4 0),(7,.loc 7 0)],[(7,(Z6 x14))],H1024⟩ (Zb.u 0 (ZA (H:=H515) (id:=id4) (off:=0) (cs:=[a11]) (c:=[a11]) (r:=a11) (by rcases hfa11 with ha11e | ⟨_,_,ha11e⟩<;>subst ha11e<;>kernel_rfl) (by rcases hfa11 with ha11e | ⟨_,_,ha11e⟩<;>subst ha11e<;>kernel_rfl) hlc1020 (by rcases hfa11 with ha11e | ⟨_,_,ha11e⟩<;>subst ha11e<;>kernel_rfl) (by rcases hfa11 with ha11e | ⟨_,_,ha11e⟩<;>subst ha11e<;>kernel_rfl) (by rcases hfa11 with ha11e | ⟨_,_,ha11e⟩<;>subst ha11e<;>kernel_rfl)) (Zb.h 3 (ZdH (H:=H515) (a:=a11) (b:=Zk true [x14.from_]) (by rcases hfa11 with ha11e | ⟨_,_,ha11e⟩<;>subst ha11e<;>kernel_rfl) (by rcases hfa11 with ha11e | ⟨_,_,ha11e⟩<;>subst ha11e<;>kernel_rfl) (by rcases hfa11 with ha11e | ⟨_,_,ha11e⟩<;>subst ha11e<;>kernel_rfl) (by rcases hfa11 with ha11e | ⟨_,_,ha11e⟩<;>subst ha11e<;>kernel_rfl) ha1021) (Zb.o 0 (Zhg (H:=H1022) (v:=a1021) (cs:=[a1021]) (by rcases hfa1021 with ha1021e | ⟨_,_,ha1021e⟩<;>subst ha1021e<;>kernel_rfl) (by rcases hfa1021 with ha1021e | ⟨_,_,ha1021e⟩<;>subst ha1021e<;>kernel_rfl) (by rcases hfa1021 with ha1021e | ⟨_,_,ha1021e⟩<;>subst ha1021e<;>kernel_rfl) (by rcases hfa1021 with ha1021e | ⟨_,_,ha1021e⟩<;>subst ha1021e<;>kernel_rfl) (by rcases hfa1021 with ha1021e | ⟨_,_,ha1021e⟩<;>subst ha1021e<;>kernel_rfl) hH1024) Zb.f))) (by kernel_rfl) ?_
    obtain rfl:=Zc h
    exact ⟨rfl,⟨a1021,H1024,(by show _=_;kernel_rfl),(Fp.pick hH [0,1,2] rfl)⟩⟩
   refine sk ?_
   obtain rfl:=Zc h
   exact ⟨rfl,⟨a11,H515,(by show _=_;kernel_rfl),(Fp.pick hH [0,1,2] rfl)⟩⟩
  clear hj1018
  rintro s hR
  obtain ⟨a1016,H1017,rfl,hH⟩:=hR
  replace hH:Fp H12 H1017 [.arr a11 1 false (List.map eI64 l15),.cel id4 [a11],.lp (List.length H8) (lcOf Try.prog i94.nt [15,16] Zcr Zcq) [(5,.ptr id4 0)] .ready] [.arr a1016 1 false (List.map eI64 j1018),.cel id4 [a1016],.lp (List.length H8) (lcOf Try.prog i94.nt [15,16] Zcr Zcq) [(5,.ptr id4 0)] .busy]:=hH
  have hfa1016:=Zu (Fp.get hH 0 rfl)
  have hlc1025:=Fp.get hH 1 rfl
  obtain ⟨l1028,hl1028,h⟩:=bs h
  obtain ⟨a1026,H1027,ha1026,hH⟩:=Fp.app (k:=0) (a:=a1016) (sz:=1) (frz:=false) eI64 hH rfl hl1028
  replace hH:Fp H12 H1027 [.arr a11 1 false (List.map eI64 l15),.cel id4 [a11],.lp (List.length H8) (lcOf Try.prog i94.nt [15,16] Zcr Zcq) [(5,.ptr id4 0)] .ready] [.arr a1026 1 false (List.map eI64 l1028),.cel id4 [a1016],.lp (List.length H8) (lcOf Try.prog i94.nt [15,16] Zcr Zcq) [(5,.ptr id4 0)] .busy]:=hH
  have hfa1026:=Zu (Fp.get hH 0 rfl)
  obtain ⟨H1029,hH1029,hH⟩:=Fp.setCell (k:=1) (off:=0) (cs:=[a1016]) (vs:=[a1026]) (cs':=[a1026]) hH rfl (by kernel_rfl)
  replace hH:Fp H12 H1029 [.arr a11 1 false (List.map eI64 l15),.cel id4 [a11],.lp (List.length H8) (lcOf Try.prog i94.nt [15,16] Zcr Zcq) [(5,.ptr id4 0)] .ready] [.arr a1026 1 false (List.map eI64 l1028),.cel id4 [a1026],.lp (List.length H8) (lcOf Try.prog i94.nt [15,16] Zcr Zcq) [(5,.ptr id4 0)] .busy]:=hH
  refine rgS ⟨[],[],H1029⟩ (Zb.u 0 (ZA (H:=H1017) (id:=id4) (off:=0) (cs:=[a1016]) (c:=[a1016]) (r:=a1016) (by rcases hfa1016 with ha1016e | ⟨_,_,ha1016e⟩<;>subst ha1016e<;>kernel_rfl) (by rcases hfa1016 with ha1016e | ⟨_,_,ha1016e⟩<;>subst ha1016e<;>kernel_rfl) hlc1025 (by rcases hfa1016 with ha1016e | ⟨_,_,ha1016e⟩<;>subst ha1016e<;>kernel_rfl) (by rcases hfa1016 with ha1016e | ⟨_,_,ha1016e⟩<;>subst ha1016e<;>kernel_rfl) (by rcases hfa1016 with ha1016e | ⟨_,_,ha1016e⟩<;>subst ha1016e<;>kernel_rfl)) (Zb.h 3 (ZdH (H:=H1017) (a:=a1016) (b:=Zk true [x14.to_]) (by rcases hfa1016 with ha1016e | ⟨_,_,ha1016e⟩<;>subst ha1016e<;>kernel_rfl) (by rcases hfa1016 with ha1016e | ⟨_,_,ha1016e⟩<;>subst ha1016e<;>kernel_rfl) (by rcases hfa1016 with ha1016e | ⟨_,_,ha1016e⟩<;>subst ha1016e<;>kernel_rfl) (by rcases hfa1016 with ha1016e | ⟨_,_,ha1016e⟩<;>subst ha1016e<;>kernel_rfl) ha1026) (Zb.o 0 (Zhg (H:=H1027) (v:=a1026) (cs:=[a1026]) (by rcases hfa1026 with ha1026e | ⟨_,_,ha1026e⟩<;>subst ha1026e<;>kernel_rfl) (by rcases hfa1026 with ha1026e | ⟨_,_,ha1026e⟩<;>subst ha1026e<;>kernel_rfl) (by rcases hfa1026 with ha1026e | ⟨_,_,ha1026e⟩<;>subst ha1026e<;>kernel_rfl) (by rcases hfa1026 with ha1026e | ⟨_,_,ha1026e⟩<;>subst ha1026e<;>kernel_rfl) (by rcases hfa1026 with ha1026e | ⟨_,_,ha1026e⟩<;>subst ha1026e<;>kernel_rfl) hH1029) Zb.f))) (by kernel_rfl) ?_
  refine bn ?_
  obtain rfl:=Zc h
  exact rbd (k:=2) (.ready) hH rfl rfl (fun H6 hH=>⟨_,⟨a1026,Eq.refl _⟩,(Fp.pick hH [0,1,2] rfl)⟩)
 refine ZiH (s:=⟨[(5,.ptr id4 0),(14,.fn 98 [] [.ptr id9 0,.ptr id10 0])],[],H8⟩) [(5,.ptr id4 0)] (FrOK.cons (by kernel_rfl) (by kernel_rfl) FrOK.nil) (by kernel_rfl) (fun H=>rfl) (capT:=[.cel id9 [Zk false r7.1],.cel id10 (Za r7.2.Topo)]) (cells0:=[.arr a1 1 false (List.map eI64 l3),.cel id4 [a1]]) (rest:=[]) (HP.now (HP.pick hH [0,1,3,2] rfl)) (fun (s:(List Int)) (its:List Zan)=>∃ (a11:AV),its=[.arr a11 1 false (List.map eI64 s),.cel id4 [a11]]++[.lp (List.length H8) (lcOf Try.prog i94.nt [15,16] Zcr Zcq) [(5,.ptr id4 0)] .ready]) l3 o1030 (by exact ⟨a1,Eq.refl _⟩) (fun H its hT hH=>Zen N (fun (s:(List Int)) (x13:Int) (x14:ZaL)=>Zds (fun v:(List Int)=>ZaF N v x13 x14) s) r7.1 r7.2 l3 id9 id10 (List.length H8) (fun (s:(List Int)) (its:List Zan)=>∃ (a11:AV),its=[.arr a11 1 false (List.map eI64 s),.cel id4 [a11]]++[.lp (List.length H8) (lcOf Try.prog i94.nt [15,16] Zcr Zcq) [(5,.ptr id4 0)] .ready]) hyo1030 H its hT hH o1030 ho1030) ?_
 rintro its hT
 obtain ⟨a11,rfl⟩:=hT
 refine ⟨_,_,rfl,?_⟩
 intro H1031 hF
 replace hH:HP H1031 [.cel id9 [Zk false r7.1],.cel id10 (Za r7.2.Topo),.arr a11 1 false (List.map eI64 o1030),.cel id4 [a11]]:=HP.after (HP.pick hH [0,1,3,2] rfl) hF
 have hfa11:=Zu (HP.get hH 2 rfl)
 refine ZhZ (S:=⟨[(5,.ptr id4 0),(14,.fn 98 [] [.ptr id9 0,.ptr id10 0])],[],H1031⟩) ?_
 refine bn (tq ?_)
 refine kq ?_
 replace hH:HP H1031 [.arr a11 1 false (List.map eI64 o1030),.cel id4 [a11]]:=HP.pick hH [2,3] rfl
 refine sq ?_
 have hlc1032:=HP.get hH 1 rfl
 refine rgS ⟨[(4,a11)],[],H1031⟩ (Zb.u 0 (ZA (H:=H1031) (id:=id4) (off:=0) (cs:=[a11]) (c:=[a11]) (r:=a11) (by rcases hfa11 with ha11e | ⟨_,_,ha11e⟩<;>subst ha11e<;>kernel_rfl) (by rcases hfa11 with ha11e | ⟨_,_,ha11e⟩<;>subst ha11e<;>kernel_rfl) hlc1032 (by rcases hfa11 with ha11e | ⟨_,_,ha11e⟩<;>subst ha11e<;>kernel_rfl) (by rcases hfa11 with ha11e | ⟨_,_,ha11e⟩<;>subst ha11e<;>kernel_rfl) (by rcases hfa11 with ha11e | ⟨_,_,ha11e⟩<;>subst ha11e<;>kernel_rfl)) Zb.f) (by rcases hfa11 with ha11e | ⟨_,_,ha11e⟩<;>subst ha11e<;>kernel_rfl) ?_
 replace hH:HP H1031 [.arr a11 1 false (List.map eI64 o1030)]:=HP.pick hH [0] rfl
 refine tq (rt ?_)
 obtain rfl:=Zc h
 exact ZdO (H:=H1031) (ys:=[a11]) (xs:=[.p (.sl 1 false (List.map eI64 o1030))]) (by rcases hfa11 with ha11e | ⟨_,_,ha11e⟩<;>subst ha11e<;>kernel_rfl) (by rcases hfa11 with ha11e | ⟨_,_,ha11e⟩<;>subst ha11e<;>kernel_rfl) (ZaU (HP.pure (k:=0) (frz:=false) eI64 hH rfl).2 ZbM) (by kernel_rfl)
theorem ZeF (N:Nat) (a0_:(List Int)) (a1_:Int) (r:Bool) (h:ZaV N a0_ a1_=some r):Zal Try.prog 95 [Zk false a0_,iv a1_] (bv r):=by
 unfold ZaV at h
 have hH:HP ([]:List HO) []:=trivial
 refine ZF chk95 rfl rfl (Zv _ _ _ ?_) rfl
 refine sq (rg Zb.f ?_)
 refine tq (sq ?_)
 obtain ⟨r1,hr1,h⟩:=bs h
 refine rg (Zb.v 2 (Zs (hc:=Zfn N a0_ a1_ r1 hr1)) Zb.f) (tq ?_)
 refine rt ?_
 obtain rfl:=Zc h
 exact ZC (by kernel_rfl)
theorem ZiB (N:Nat) (a0_:ZX) (c0_:(List Int)) (k0_:Nat) (H:List HO) (hH:HP H [.cel k0_ [Zk false c0_]]) (r:(List Int) × Int) (h:ZdA N a0_ c0_=some r):ZbG Try.prog 97 [.agg (Za a0_.Topo),.ptr k0_ 0] H (.tup [Zk false r.1,iv r.2]) H:=by
 unfold ZdA at h
 refine ZbB chk97 rfl rfl rfl (Zv _ _ _ ?_)
 refine sq (rg Zb.f ?_)
 refine tq (sq ?_)
 have hlc1:=HP.get hH 0 rfl
 obtain ⟨r2,hr2,h⟩:=bs h
 refine rg (Zb.u 1 (ZA (H:=H) (id:=k0_) (off:=0) (cs:=[Zk false c0_]) (c:=[Zk false c0_]) (r:=Zk false c0_) (hl:=hlc1)) (Zb.v 0 (Zs (hc:=Zdj N a0_ c0_ r2 hr2)) Zb.f)) ?_
 replace hH:HP H []:=HP.pick hH [] rfl
 refine tq (rt ?_)
 obtain rfl:=Zc h
 exact Za1 (by kernel_rfl) (by kernel_rfl)
end Go.Sh

