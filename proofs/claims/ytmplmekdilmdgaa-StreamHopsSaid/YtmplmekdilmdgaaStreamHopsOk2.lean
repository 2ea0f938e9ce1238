/- Part of the proof; written by a program out of the texts in wip/. -/
import Derived.Test.YtmplmekdilmdgaaStreamHopsOk1
namespace Go.Sh
open Go Go.Eng Go.Proofs
set_option linter.unusedVariables false
set_option linter.unusedSimpArgs false
set_option maxRecDepth 100000
set_option maxHeartbeats 4000000
attribute [local irreducible] vc ev ZfH opsD opsF Zg7 upd updH updO
theorem Zka (N:Nat) (a0_:Zi) (r:Bool) (h:ZeM N a0_=some r):Zal Try.prog 29 [.agg (Za a0_)] (bv r):=by
 unfold ZeM at h
 have hH:HP ([]:List HO) []:=trivial
 refine ZF chk29 rfl rfl (Zv _ _ _ ?_) rfl
 refine sq (rg Zb.f ?_)
 refine tq (sq ?_)
 refine sq (rgX ⟨[(1,.loc 1 0),(30,bv ((decide (a0_.Nodes<2))||((decide (a0_.Nodes > 12))||((((List.length a0_.Station:Nat):Int) != a0_.Nodes)||(decide (((List.length a0_.Links:Nat):Int) > 24))))))],[(1,(Za a0_))],[]⟩ ?_ ?_)
 ·rcases Bool.eq_false_or_eq_true (decide (a0_.Nodes<2)) with hc1 | hc2
  ·exact (EP.u 2 (Zj (c:=(decide (a0_.Nodes<2))) (h:=hc1)) (EP.f (by simp only [hc1];kernel_rfl)))
  refine (EP.u 2 (Zj (c:=(decide (a0_.Nodes<2))) (h:=hc2)) ?_)
  rcases Bool.eq_false_or_eq_true (decide (a0_.Nodes > 12)) with hc3 | hc4
  ·exact (EP.u 3 (Zj (c:=(decide (a0_.Nodes > 12))) (h:=hc3)) (EP.f (by simp only [hc2,hc3];kernel_rfl)))
  refine (EP.u 3 (Zj (c:=(decide (a0_.Nodes > 12))) (h:=hc4)) (EP.u 4 (Zo (ys:=[s_eB false a0_.Station]) (h:=ZB eB)) ?_))
  rcases Bool.eq_false_or_eq_true (((List.length a0_.Station:Nat):Int) != a0_.Nodes) with hc5 | hc6
  ·exact (EP.u 2 (Zj (c:=(((List.length a0_.Station:Nat):Int) != a0_.Nodes)) (h:=hc5)) (EP.f (by simp only [hc2,hc4,hc5];kernel_rfl)))
  exact (EP.u 2 (Zj (c:=(((List.length a0_.Station:Nat):Int) != a0_.Nodes)) (h:=hc6)) (EP.u 4 (Zo (ys:=[Zh false a0_.Links]) (h:=ZB Zp)) (EP.f (by simp only [hc2,hc4,hc6];kernel_rfl))))
 refine tq (it h (fun hc7 h => ?_) (fun hc7 h => ?_))
 ·refine sq (rg Zb.f ?_)
  refine tq (rt ?_)
  refine tr ?_
  obtain rfl:=Zc h
  exact ZC (by kernel_rfl)
 refine sk (tq ?_)
 refine kq (sq ?_)
 obtain ⟨l10,hl10,h⟩:=bs h
 obtain ⟨a8,H9,ha8,hH9,ha8b,hH⟩:=HP.make eI64 hH hl10
 replace hH:HP H9 [.arr a8 1 false (List.map eI64 l10)]:=hH
 have hfa8:=Zu (HP.get hH 0 rfl)
 refine rgS ⟨[(1,.loc 1 0),(3,a8)],[(1,(Za a0_))],H9⟩ (Zb.h 2 (Zi6 (H:=[]) (zero:=[.int .i64 0]) (bytes:=8) (by kernel_rfl) (by kernel_rfl) (by kernel_rfl) ha8 hH9 ha8b) Zb.f) (by rcases hfa8 with ha8e | ⟨_,_,ha8e⟩<;>subst ha8e<;>kernel_rfl) ?_
 refine tq (sq ?_)
 refine sq (rgS ⟨[(1,.loc 1 0),(3,a8),(4,iv 0)],[(1,(Za a0_))],H9⟩ Zb.f (by rcases hfa8 with ha8e | ⟨_,_,ha8e⟩<;>subst ha8e<;>kernel_rfl) ?_)
 refine tq (bk ?_)
 obtain ⟨o1043,ho1043,h⟩:=bs h
 refine Z8 ((ZT (fun (x:Int × (List Int)) s=>∃ (a11:AV) (H12:List HO),s=⟨[(1,.loc 1 0),(3,a11),(4,iv x.1)],[(1,(Za a0_))],H12⟩∧HP H12 [.arr a11 1 false (List.map eI64 x.2)]) (fun x:Int × (List Int)=>Za2 N a0_ x.1 x.2) (fun (p:((List Int)) ⊕ (Bool)) e s=>match p with | (.inl p)=>e = .exit 0∧(∃ (a515:AV) (H516:List HO),s=⟨[(1,.loc 1 0),(3,a515)],[(1,(Za a0_))],H516⟩∧HP H516 [.arr a515 1 false (List.map eI64 p)]) | (.inr p)=>e = .ret∧∃ xs,resL s i29.res=some xs∧Zbr xs=bv p) ?_ N _ o1043 _ ho1043 ⟨a8,H9,(by show _=_;rcases hfa8 with ha8e | ⟨_,_,ha8e⟩<;>subst ha8e<;>kernel_rfl),(HP.pick hH [0] rfl)⟩).mono ?_)
 ·clear h ho1043
  rintro ⟨i13,l14⟩ o s h hR
  obtain ⟨a11,H12,rfl,hH⟩:=hR
  replace hH:HP H12 [.arr a11 1 false (List.map eI64 l14)]:=hH
  have hfa11:=Zu (HP.get hH 0 rfl)
  replace h:Za2 N a0_ i13 l14=some o:=h
  unfold Za2 at h
  refine sq (sq ?_)
  refine rgS ⟨[(1,.loc 1 0),(3,a11),(4,iv i13),(38,bv (decide (i13<((List.length a0_.Links:Nat):Int))))],[(1,(Za a0_))],H12⟩ (Zb.u 3 (Zo (ys:=[Zh false a0_.Links]) (h:=ZB Zp)) Zb.f) (by rcases hfa11 with ha11e | ⟨_,_,ha11e⟩<;>subst ha11e<;>kernel_rfl) ?_
  refine tq (it h (fun hc517 h => ?_) (fun hc517 h => ?_))
  ·refine sk (tq ?_)
   refine kq (sq ?_)
   refine bk (sq ?_)
   obtain ⟨e518,he518,h⟩:=bs h
   refine rgS ⟨[(1,.loc 1 0),(3,a11),(4,iv i13),(5,.loc 5 0)],[(1,(Za a0_)),(5,(ZR e518))],H12⟩ (Zb.u 3 (Zo (ys:=[Zh false a0_.Links,iv i13]) (h:=Zg Zp he518)) (Zb.u 0 (Zq (sz:=4) (off:=0) (cs:=[.int .i64 e518.A,.int .i64 e518.B,.int .i64 e518.Per,.int .i64 e518.Delay]) (r:=.agg (ZR e518)) Zp he518) (Zb.f (h:=(by rcases hfa11 with ha11e | ⟨_,_,ha11e⟩<;>subst ha11e<;>kernel_rfl))))) (by rcases hfa11 with ha11e | ⟨_,_,ha11e⟩<;>subst ha11e<;>kernel_rfl) ?_
   refine tq (sq ?_)
   refine sq ?_
   obtain ⟨r519,hr519,h⟩:=bs h
   refine rgS ⟨[(1,.loc 1 0),(3,a11),(4,iv i13),(5,.loc 5 0),(49,bv (!r519))],[(1,(Za a0_)),(5,(ZR e518))],H12⟩ (Zb.v 2 (Zs (hc:=Zhq N a0_ e518 r519 hr519)) Zb.f) (by rcases hfa11 with ha11e | ⟨_,_,ha11e⟩<;>subst ha11e<;>kernel_rfl) ?_
   refine tq (it h (fun hc520 h => ?_) (fun hc520 h => ?_))
   ·refine sq (rgS ⟨[(2,bv false)],[],H12⟩ Zb.f (by kernel_rfl) ?_)
    replace hH:HP H12 []:=HP.pick hH [] rfl
    refine tq (rt ?_)
    refine tr (br ?_)
    refine tr ?_
    obtain rfl:=Zc h
    exact ⟨_,rfl,rfl,ZC (by kernel_rfl)⟩
   refine sk (tq ?_)
   refine kq (sq ?_)
   refine sq (rgS ⟨[(1,.loc 1 0),(3,a11),(4,iv i13),(5,.loc 5 0),(6,iv 0)],[(1,(Za a0_)),(5,(ZR e518))],H12⟩ Zb.f (by rcases hfa11 with ha11e | ⟨_,_,ha11e⟩<;>subst ha11e<;>kernel_rfl) ?_)
   refine tq (bk ?_)
   obtain ⟨o1026,ho1026,h⟩:=bs h
   refine Z8 ((ZT (fun (x:Int) s=>s=⟨[(1,.loc 1 0),(3,a11),(4,iv i13),(5,.loc 5 0),(6,iv x)],[(1,(Za a0_)),(5,(ZR e518))],H12⟩) (fun x:Int=>Zce N a0_ i13 e518 x) (fun (p:(Unit) ⊕ (Bool)) e s=>match p with | (.inl p)=>e = .exit 2∧(s=⟨[(1,.loc 1 0),(3,a11),(4,iv i13),(5,.loc 5 0)],[(1,(Za a0_)),(5,(ZR e518))],H12⟩) | (.inr p)=>e = .ret∧∃ xs,resL s i29.res=some xs∧Zbr xs=bv p) ?_ N _ o1026 _ ho1026 (by show _=_;rcases hfa11 with ha11e | ⟨_,_,ha11e⟩<;>subst ha11e<;>kernel_rfl)).mono ?_)
   ·clear h ho1026
    rintro i521 o s h hR
    obtain rfl:=hR
    replace h:Zce N a0_ i13 e518 i521=some o:=h
    unfold Zce at h
    refine sq (sq ?_)
    refine rgS ⟨[(1,.loc 1 0),(3,a11),(4,iv i13),(5,.loc 5 0),(6,iv i521),(52,bv (decide (i521<i13)))],[(1,(Za a0_)),(5,(ZR e518))],H12⟩ Zb.f (by rcases hfa11 with ha11e | ⟨_,_,ha11e⟩<;>subst ha11e<;>kernel_rfl) ?_
    refine tq (it h (fun hc1022 h => ?_) (fun hc1022 h => ?_))
    ·refine sk (tq ?_)
     refine kq (sq ?_)
     refine bk (sq ?_)
     obtain ⟨e1023,he1023,h⟩:=bs h
     obtain ⟨r1024,hr1024,h⟩:=bs h
     refine rqS ⟨[(1,.loc 1 0),(3,a11),(4,iv i13),(5,.loc 5 0),(6,iv i521),(64,bv r1024)],[(1,(Za a0_)),(5,(ZR e518))],H12⟩ (Zb.u 3 (Zo (ys:=[Zh false a0_.Links,iv i521]) (h:=Zg Zp he1023)) (Zb.u 0 (Zw (Zq (sz:=4) (off:=0) (cs:=[.int .i64 e1023.A,.int .i64 e1023.B,.int .i64 e1023.Per,.int .i64 e1023.Delay]) (r:=.agg (ZR e1023)) Zp he1023)) (Zb.v 4 (Zs (hc:=ZgU N e1023 e518.A e518.B r1024 hr1024)) Zb.f))) (by rcases hfa11 with ha11e | ⟨_,_,ha11e⟩<;>subst ha11e<;>kernel_rfl) ?_
     refine tq (it h (fun hc1025 h => ?_) (fun hc1025 h => ?_))
     ·refine sq (rgS ⟨[(2,bv false)],[],H12⟩ Zb.f (by kernel_rfl) ?_)
      replace hH:HP H12 []:=HP.pick hH [] rfl
      refine tq (rt ?_)
      refine br (tr ?_)
      obtain rfl:=Zc h
      exact ⟨_,rfl,rfl,ZC (by kernel_rfl)⟩
     refine sk (bn ?_)
     refine tq (kq ?_)
     refine rgS ⟨[(1,.loc 1 0),(3,a11),(4,iv i13),(5,.loc 5 0),(6,iv (w64 (i521+1)))],[(1,(Za a0_)),(5,(ZR e518))],H12⟩ Zb.f (by rcases hfa11 with ha11e | ⟨_,_,ha11e⟩<;>subst ha11e<;>kernel_rfl) ?_
     obtain rfl:=Zc h
     exact ⟨_,rfl,(by show _=_;rcases hfa11 with ha11e | ⟨_,_,ha11e⟩<;>subst ha11e<;>kernel_rfl)⟩
    refine kq (xq ?_)
    refine tx ?_
    obtain rfl:=Zc h
    exact ⟨_,rfl,rfl,(by show _=_;rcases hfa11 with ha11e | ⟨_,_,ha11e⟩<;>subst ha11e<;>kernel_rfl)⟩
   rintro e s hq
   rcases o1026 with p1027 | p1042
   ·dsimp only at h hq
    obtain ⟨rfl,hR⟩:=hq
    obtain rfl:=hR
    refine bx (tq ?_)
    refine sq ?_
    obtain ⟨e1028,he1028,h⟩:=bs h
    obtain ⟨id1029,ver1030,_,hid1029f,hid1029,hid1029a,hid1029v⟩:=HP.elem (k:=0) (a:=a11) (sz:=1) (frz:=false) eI64 hH rfl he1028
    obtain ⟨e1031,he1031,h⟩:=bs h
    obtain ⟨id1032,ver1033,_,hid1032f,hid1032,hid1032a,hid1032v⟩:=HP.elem (k:=0) (a:=a11) (sz:=1) (frz:=false) eI64 hH rfl he1031
    obtain ⟨H1034,hH1034,hH⟩:=HP.setRow (k:=0) (off:=0) (cs:=[iv (w64 (e1028+1))]) (ps:=[.int .i64 (w64 (e1028+1))]) (e':=(w64 (e1028+1))) eI64 hH rfl hid1032a hid1032 (hid1032f rfl) he1031 (by kernel_rfl) (by kernel_rfl)
    replace hH:HP H1034 [.arr a11 1 false (List.map eI64 (List.set l14 (Int.toNat e518.A) (w64 (e1028+1))))]:=hH
    refine rqS ⟨[(1,.loc 1 0),(3,a11),(4,iv i13),(5,.loc 5 0)],[(1,(Za a0_)),(5,(ZR e518))],H1034⟩ (Zb.u 6 (Zo (ys:=[a11,iv e518.A]) (by rcases hfa11 with ha11e | ⟨_,_,ha11e⟩<;>subst ha11e<;>kernel_rfl) (hid1029v .i64)) (Zb.u 0 (Zw (ZbD (H:=H12) (off:=0) (cs:=[.int .i64 e1028]) (r:=iv e1028) eI64 he1028 hid1029)) (Zb.u 1 (Zo (ys:=[a11,iv e518.A]) (by rcases hfa11 with ha11e | ⟨_,_,ha11e⟩<;>subst ha11e<;>kernel_rfl) (hid1032v .i64)) (Zb.o 0 (ZlD (ZaD (H:=H12) (v:=iv (w64 (e1028+1))) (hw:=hH1034)) (by kernel_rfl)) Zb.f)))) (by rcases hfa11 with ha11e | ⟨_,_,ha11e⟩<;>subst ha11e<;>kernel_rfl) ?_
    refine tq ?_
    obtain ⟨e1035,he1035,h⟩:=bs h
    obtain ⟨id1036,ver1037,_,hid1036f,hid1036,hid1036a,hid1036v⟩:=HP.elem (k:=0) (a:=a11) (sz:=1) (frz:=false) eI64 hH rfl he1035
    obtain ⟨e1038,he1038,h⟩:=bs h
    obtain ⟨id1039,ver1040,_,hid1039f,hid1039,hid1039a,hid1039v⟩:=HP.elem (k:=0) (a:=a11) (sz:=1) (frz:=false) eI64 hH rfl he1038
    obtain ⟨H1041,hH1041,hH⟩:=HP.setRow (k:=0) (off:=0) (cs:=[iv (w64 (e1035+1))]) (ps:=[.int .i64 (w64 (e1035+1))]) (e':=(w64 (e1035+1))) eI64 hH rfl hid1039a hid1039 (hid1039f rfl) he1038 (by kernel_rfl) (by kernel_rfl)
    replace hH:HP H1041 [.arr a11 1 false (List.map eI64 (List.set (List.set l14 (Int.toNat e518.A) (w64 (e1028+1))) (Int.toNat e518.B) (w64 (e1035+1))))]:=hH
    refine rqS ⟨[(1,.loc 1 0),(3,a11),(4,iv i13)],[(1,(Za a0_))],H1041⟩ (Zb.u 6 (Zo (ys:=[a11,iv e518.B]) (by rcases hfa11 with ha11e | ⟨_,_,ha11e⟩<;>subst ha11e<;>kernel_rfl) (hid1036v .i64)) (Zb.u 0 (Zw (ZbD (H:=H1034) (off:=0) (cs:=[.int .i64 e1035]) (r:=iv e1035) eI64 he1035 hid1036)) (Zb.u 1 (Zo (ys:=[a11,iv e518.B]) (by rcases hfa11 with ha11e | ⟨_,_,ha11e⟩<;>subst ha11e<;>kernel_rfl) (hid1039v .i64)) (Zb.o 0 (ZlD (ZaD (H:=H1034) (v:=iv (w64 (e1035+1))) (hw:=hH1041)) (by kernel_rfl)) Zb.f)))) (by rcases hfa11 with ha11e | ⟨_,_,ha11e⟩<;>subst ha11e<;>kernel_rfl) ?_
    refine bn (tq ?_)
    refine kq (rgS ⟨[(1,.loc 1 0),(3,a11),(4,iv (w64 (i13+1)))],[(1,(Za a0_))],H1041⟩ Zb.f (by rcases hfa11 with ha11e | ⟨_,_,ha11e⟩<;>subst ha11e<;>kernel_rfl) ?_)
    obtain rfl:=Zc h
    exact ⟨_,rfl,⟨a11,H1041,(by show _=_;rcases hfa11 with ha11e | ⟨_,_,ha11e⟩<;>subst ha11e<;>kernel_rfl),(HP.pick hH [0] rfl)⟩⟩
   dsimp only at h hq
   obtain ⟨rfl,hq⟩:=hq
   refine br (tr ?_)
   refine br (tr ?_)
   obtain rfl:=Zc h
   exact ⟨_,rfl,rfl,hq⟩
  refine kq (xq ?_)
  refine tx ?_
  obtain rfl:=Zc h
  exact ⟨_,rfl,rfl,⟨a11,H12,(by show _=_;rcases hfa11 with ha11e | ⟨_,_,ha11e⟩<;>subst ha11e<;>kernel_rfl),(HP.pick hH [0] rfl)⟩⟩
 rintro e s hq
 rcases o1043 with p1044 | p1567
 ·dsimp only at h hq
  obtain ⟨rfl,hR⟩:=hq
  obtain ⟨a515,H516,rfl,hH⟩:=hR
  replace hH:HP H516 [.arr a515 1 false (List.map eI64 p1044)]:=hH
  have hfa515:=Zu (HP.get hH 0 rfl)
  refine bx (tq ?_)
  refine sq ?_
  obtain ⟨r1045,hr1045,h⟩:=bs h
  refine rgS ⟨[(1,.loc 1 0),(3,a515),(7,s_eB false r1045)],[(1,(Za a0_))],H516⟩ (Zb.v 1 (Zs (hc:=Zkc N a0_ 0 ([]) r1045 hr1045)) Zb.f) (by rcases hfa515 with ha515e | ⟨_,_,ha515e⟩<;>subst ha515e<;>kernel_rfl) ?_
  refine tq (sq ?_)
  refine sq (rgS ⟨[(1,.loc 1 0),(3,a515),(7,s_eB false r1045),(8,iv 0)],[(1,(Za a0_))],H516⟩ Zb.f (by rcases hfa515 with ha515e | ⟨_,_,ha515e⟩<;>subst ha515e<;>kernel_rfl) ?_)
  refine tq (bk ?_)
  obtain ⟨o1564,ho1564,h⟩:=bs h
  refine Z8 ((ZT (fun (x:Int) s=>s=⟨[(1,.loc 1 0),(3,a515),(7,s_eB false r1045),(8,iv x)],[(1,(Za a0_))],H516⟩) (fun x:Int=>Zcd N a0_ p1044 r1045 x) (fun (p:(Unit) ⊕ (Bool)) e s=>match p with | (.inl p)=>e = .exit 4∧(s=⟨[],[],H516⟩) | (.inr p)=>e = .ret∧∃ xs,resL s i29.res=some xs∧Zbr xs=bv p) ?_ N _ o1564 _ ho1564 (by show _=_;rcases hfa515 with ha515e | ⟨_,_,ha515e⟩<;>subst ha515e<;>kernel_rfl)).mono ?_)
  ·clear h ho1564
   rintro i1046 o s h hR
   obtain rfl:=hR
   replace h:Zcd N a0_ p1044 r1045 i1046=some o:=h
   unfold Zcd at h
   refine sq (sq ?_)
   refine rgS ⟨[(1,.loc 1 0),(3,a515),(7,s_eB false r1045),(8,iv i1046),(90,bv (decide (i1046<a0_.Nodes)))],[(1,(Za a0_))],H516⟩ Zb.f (by rcases hfa515 with ha515e | ⟨_,_,ha515e⟩<;>subst ha515e<;>kernel_rfl) ?_
   refine tq (it h (fun hc1547 h => ?_) (fun hc1547 h => ?_))
   ·refine sk (tq ?_)
    refine kq (sq ?_)
    refine bk (sq ?_)
    obtain ⟨j1562,hj,h⟩:=bs h
    refine rgR (fun s=>s=⟨[(1,.loc 1 0),(3,a515),(7,s_eB false r1045),(8,iv i1046),(118,bv j1562)],[(1,(Za a0_))],H516⟩) ?_ ?_
    ·clear h
     obtain ⟨e1548,he1548,hj⟩:=bs hj
     refine (EP.u 2 (Zo (ys:=[s_eB false r1045,iv i1046]) (h:=Zg eB he1548)) (EP.u 0 (Zq (sz:=1) (off:=0) (cs:=[.bool e1548]) (r:=bv e1548) eB he1548) ?_))
     rcases Zt hj with ⟨hc1549,hj⟩ | ⟨hc1550,hj⟩
     ·obtain rfl:=Zc hj
      exact (EP.u 0 (Zj (c:=(!e1548)) (h:=hc1549)) (EP.f (by show _=_;rcases hfa515 with ha515e | ⟨_,_,ha515e⟩<;>subst ha515e<;>kernel_rfl)))
     refine (EP.u 0 (Zj (c:=(!e1548)) (h:=hc1550)) ?_)
     obtain ⟨e1551,he1551,hj⟩:=bs hj
     refine (EP.u 4 (Zo (ys:=[s_eB false a0_.Station,iv i1046]) (h:=Zg eB he1551)) ?_)
     rcases Zt hj with ⟨hc1552,hj⟩ | ⟨hc1561,hj⟩
     ·refine (EP.u 0 (ZH.bool (Zq (sz:=1) (off:=0) (cs:=[.bool e1551]) (r:=bv e1551) eB he1551) hc1552) ?_)
      obtain ⟨e1553,he1553,hj⟩:=bs hj
      obtain ⟨id1554,ver1555,_,hid1554f,hid1554,hid1554a,hid1554v⟩:=HP.elem (k:=0) (a:=a515) (sz:=1) (frz:=false) eI64 hH rfl he1553
      refine (EP.u 3 (Zo (ys:=[a515,iv i1046]) (by rcases hfa515 with ha515e | ⟨_,_,ha515e⟩<;>subst ha515e<;>kernel_rfl) (hid1554v .i64)) (EP.u 0 (ZbD (H:=H516) (off:=0) (cs:=[.int .i64 e1553]) (r:=iv e1553) eI64 he1553 hid1554) ?_))
      rcases Zt hj with ⟨hc1556,hj⟩ | ⟨hc1557,hj⟩
      ·obtain rfl:=Zc hj
       exact (EP.u 0 (Zj (c:=(decide (e1553<1))) (h:=hc1556)) (EP.f (by show _=_;rcases hfa515 with ha515e | ⟨_,_,ha515e⟩<;>subst ha515e<;>kernel_rfl)))
      refine (EP.u 0 (Zj (c:=(decide (e1553<1))) (h:=hc1557)) ?_)
      obtain ⟨e1558,he1558,hj⟩:=bs hj
      obtain ⟨id1559,ver1560,_,hid1559f,hid1559,hid1559a,hid1559v⟩:=HP.elem (k:=0) (a:=a515) (sz:=1) (frz:=false) eI64 hH rfl he1558
      obtain rfl:=Zc hj
      exact (EP.u 3 (Zo (ys:=[a515,iv i1046]) (by rcases hfa515 with ha515e | ⟨_,_,ha515e⟩<;>subst ha515e<;>kernel_rfl) (hid1559v .i64)) (EP.u 0 (ZbD (H:=H516) (off:=0) (cs:=[.int .i64 e1558]) (r:=iv e1558) eI64 he1558 hid1559) (EP.f (by show _=_;rcases hfa515 with ha515e | ⟨_,_,ha515e⟩<;>subst ha515e<;>kernel_rfl))))
     obtain rfl:=Zc hj
     exact (EP.u 0 (ZH.bool (Zq (sz:=1) (off:=0) (cs:=[.bool e1551]) (r:=bv e1551) eB he1551) hc1561) (EP.f (by show _=_;rcases hfa515 with ha515e | ⟨_,_,ha515e⟩<;>subst ha515e<;>kernel_rfl)))
    clear hj
    rintro s hR
    obtain rfl:=hR
    refine tq (it h (fun hc1563 h => ?_) (fun hc1563 h => ?_))
    ·refine sq (rgS ⟨[(2,bv false)],[],H516⟩ Zb.f (by kernel_rfl) ?_)
     replace hH:HP H516 []:=HP.pick hH [] rfl
     refine tq (rt ?_)
     refine br (tr ?_)
     obtain rfl:=Zc h
     exact ⟨_,rfl,rfl,ZC (by kernel_rfl)⟩
    refine sk (bn ?_)
    refine tq (kq ?_)
    refine rgS ⟨[(1,.loc 1 0),(3,a515),(7,s_eB false r1045),(8,iv (w64 (i1046+1)))],[(1,(Za a0_))],H516⟩ Zb.f (by rcases hfa515 with ha515e | ⟨_,_,ha515e⟩<;>subst ha515e<;>kernel_rfl) ?_
    obtain rfl:=Zc h
    exact ⟨_,rfl,(by show _=_;rcases hfa515 with ha515e | ⟨_,_,ha515e⟩<;>subst ha515e<;>kernel_rfl)⟩
   refine kq ?_
   replace hH:HP H516 []:=HP.pick hH [] rfl
   refine xq (tx ?_)
   obtain rfl:=Zc h
   exact ⟨_,rfl,rfl,(by show _=_;kernel_rfl)⟩
  rintro e s hq
  rcases o1564 with p1565 | p1566
  ·dsimp only at h hq
   obtain ⟨rfl,hR⟩:=hq
   obtain rfl:=hR
   refine bx (tq ?_)
   refine sq (rg Zb.f ?_)
   refine tq (rt ?_)
   obtain rfl:=Zc h
   exact ZC (by kernel_rfl)
  dsimp only at h hq
  obtain ⟨rfl,hq⟩:=hq
  refine br (tr ?_)
  obtain rfl:=Zc h
  exact hq
 dsimp only at h hq
 obtain ⟨rfl,hq⟩:=hq
 refine br (tr ?_)
 obtain rfl:=Zc h
 exact hq
theorem ZbR (N:Nat) (a0_:Zau) (a1_:Zi) (a2_:Int) (a3_:Int) (bp1_1_:AV) (bp1_2_:AV) (H:List HO) (hH:HP H [.arr bp1_1_ 1 true (List.map eB a1_.Station),.arr bp1_2_ 4 true (List.map Zp a1_.Links)]) (r:Zi) (h:Zaf N a0_ a1_ a2_ a3_=some r):∃ (or_0_1_:AV) (or_0_2_:AV) (H':List HO),ZbG Try.prog 30 [.agg (Zz a0_),.agg [iv a1_.Nodes,bp1_1_,bp1_2_],iv a2_,iv a3_] H (.agg [iv r.Nodes,or_0_1_,or_0_2_]) H'∧Fp H H' [.arr bp1_1_ 1 true (List.map eB a1_.Station),.arr bp1_2_ 4 true (List.map Zp a1_.Links)] [.arr or_0_1_ 1 true (List.map eB r.Station),.arr or_0_2_ 4 true (List.map Zp r.Links)]:=by
 suffices hs:∃ r' H',ZbG Try.prog 30 [.agg (Zz a0_),.agg [iv a1_.Nodes,bp1_1_,bp1_2_],iv a2_,iv a3_] H r' H'∧∃ (or_0_1_:AV) (or_0_2_:AV),r' = .agg [iv r.Nodes,or_0_1_,or_0_2_]∧Fp H H' [.arr bp1_1_ 1 true (List.map eB a1_.Station),.arr bp1_2_ 4 true (List.map Zp a1_.Links)] [.arr or_0_1_ 1 true (List.map eB r.Station),.arr or_0_2_ 4 true (List.map Zp r.Links)] by
  obtain ⟨_,H',h1,or_0_1_,or_0_2_,he,h2⟩:=hs
  exact ⟨or_0_1_,or_0_2_,H',he ▸ h1,h2⟩
 unfold Zaf at h
 replace hH:=Fp.refl hH
 have hfbp1_1_:=Zu (Fp.get hH 0 rfl)
 have hfbp1_2_:=Zu (Fp.get hH 1 rfl)
 refine ZmT chk30 [] (fun r' H'=>∃ (or_0_1_:AV) (or_0_2_:AV),r' = .agg [iv r.Nodes,or_0_1_,or_0_2_]∧Fp H H' [.arr bp1_1_ 1 true (List.map eB a1_.Station),.arr bp1_2_ 4 true (List.map Zp a1_.Links)] [.arr or_0_1_ 1 true (List.map eB r.Station),.arr or_0_2_ 4 true (List.map Zp r.Links)]) (fun r' H' q=>by obtain ⟨or_0_1_,or_0_2_,e,hp⟩:=q;subst e;have hfor_0_1_:=Zu (Fp.get hp 0 rfl);have hfor_0_2_:=Zu (Fp.get hp 1 rfl);show ZY _=true;rcases hfor_0_1_ with hor_0_1_e | ⟨_,_,hor_0_1_e⟩<;>rcases hfor_0_2_ with hor_0_2_e | ⟨_,_,hor_0_2_e⟩<;>subst hor_0_1_e hor_0_2_e<;>rfl) rfl (by rcases hfbp1_1_ with hbp1_1_e | ⟨_,_,hbp1_1_e⟩<;>rcases hfbp1_2_ with hbp1_2_e | ⟨_,_,hbp1_2_e⟩<;>subst hbp1_1_e hbp1_2_e<;>kernel_rfl) ?_
 refine sq (rgS ⟨[(2,iv a2_),(3,iv a3_),(4,.loc 4 0),(5,.loc 5 0),(8,.loc 8 0)],[(4,(Zz a0_)),(5,[iv a1_.Nodes,bp1_1_,bp1_2_]),(8,[iv 0,s_eB true [],Zh true []])],H⟩ (Zb.f (h:=(by rcases hfbp1_1_ with hbp1_1_e | ⟨_,_,hbp1_1_e⟩<;>rcases hfbp1_2_ with hbp1_2_e | ⟨_,_,hbp1_2_e⟩<;>subst hbp1_1_e hbp1_2_e<;>kernel_rfl))) (by rcases hfbp1_1_ with hbp1_1_e | ⟨_,_,hbp1_1_e⟩<;>rcases hfbp1_2_ with hbp1_2_e | ⟨_,_,hbp1_2_e⟩<;>subst hbp1_1_e hbp1_2_e<;>kernel_rfl) ?_)
 refine tq (sq ?_)
 have hln1:=Fp.len (k:=1) (a:=bp1_2_) (sz:=4) (frz:=true) (l:=a1_.Links) Zp hH rfl
 refine rgS ⟨[(2,iv a2_),(3,iv a3_),(4,.loc 4 0),(5,.loc 5 0),(8,.loc 8 0),(9,iv ((List.length a1_.Links:Nat):Int))],[(4,(Zz a0_)),(5,[iv a1_.Nodes,bp1_1_,bp1_2_]),(8,[iv 0,s_eB true [],Zh true []])],H⟩ (Zb.u (hm:=(by rcases hfbp1_1_ with hbp1_1_e | ⟨_,_,hbp1_1_e⟩<;>rcases hfbp1_2_ with hbp1_2_e | ⟨_,_,hbp1_2_e⟩<;>subst hbp1_1_e hbp1_2_e<;>kernel_rfl)) 2 (Zo (ys:=[bp1_2_]) (by rcases hfbp1_1_ with hbp1_1_e | ⟨_,_,hbp1_1_e⟩<;>rcases hfbp1_2_ with hbp1_2_e | ⟨_,_,hbp1_2_e⟩<;>subst hbp1_1_e hbp1_2_e<;>kernel_rfl) hln1) (Zb.f (h:=(by rcases hfbp1_1_ with hbp1_1_e | ⟨_,_,hbp1_1_e⟩<;>rcases hfbp1_2_ with hbp1_2_e | ⟨_,_,hbp1_2_e⟩<;>subst hbp1_1_e hbp1_2_e<;>kernel_rfl)))) (by rcases hfbp1_1_ with hbp1_1_e | ⟨_,_,hbp1_1_e⟩<;>rcases hfbp1_2_ with hbp1_2_e | ⟨_,_,hbp1_2_e⟩<;>subst hbp1_1_e hbp1_2_e<;>kernel_rfl) ?_
 refine tq (sq ?_)
 obtain ⟨r2,hr2,h⟩:=bs h
 obtain ⟨r3,hr3,h⟩:=bs h
 refine rqS ⟨[(2,iv a2_),(3,iv a3_),(5,.loc 5 0),(8,.loc 8 0),(9,iv ((List.length a1_.Links:Nat):Int)),(10,.loc 10 0)],[(5,[iv a1_.Nodes,bp1_1_,bp1_2_]),(8,[iv 0,s_eB true [],Zh true []]),(10,[iv a2_,iv a3_,iv (w64 (1+(Int.tmod r2 20))),iv (Int.tmod r3 50)])],H⟩ (Zb.u 5 (Zaw (hc:=ZdC N a0_.Pers ((List.length a1_.Links:Nat):Int) r2 hr2)) (Zb.u 5 (Zaw (hc:=ZdC N a0_.Delays ((List.length a1_.Links:Nat):Int) r3 hr3)) Zb.f)) (by rcases hfbp1_1_ with hbp1_1_e | ⟨_,_,hbp1_1_e⟩<;>rcases hfbp1_2_ with hbp1_2_e | ⟨_,_,hbp1_2_e⟩<;>subst hbp1_1_e hbp1_2_e<;>kernel_rfl) ?_
 refine tq (sq ?_)
 refine sq ?_
 obtain ⟨j12,hj,h⟩:=bs h
 refine rgR (fun s=>∃ (a9:AV) (a10:AV) (H11:List HO),s=⟨[(2,iv a2_),(3,iv a3_),(5,.loc 5 0),(8,.loc 8 0),(9,iv ((List.length a1_.Links:Nat):Int)),(10,.loc 10 0),(36,bv j12)],[(5,[iv a1_.Nodes,a9,a10]),(8,[iv 0,s_eB true [],Zh true []]),(10,[iv a2_,iv a3_,iv (w64 (1+(Int.tmod r2 20))),iv (Int.tmod r3 50)])],H11⟩∧Fp H H11 [.arr bp1_1_ 1 true (List.map eB a1_.Station),.arr bp1_2_ 4 true (List.map Zp a1_.Links)] [.arr a9 1 true (List.map eB a1_.Station),.arr a10 4 true (List.map Zp a1_.Links)]) ?_ ?_
 ·clear h
  rcases Zt hj with ⟨hc4,hj⟩ | ⟨hc5,hj⟩
  ·obtain rfl:=Zc hj
   exact (EP.u 1 (Zj (c:=(((List.length a1_.Links:Nat):Int)==24)) (h:=hc4)) (EP.f ⟨bp1_1_,bp1_2_,H,(by show _=_;rcases hfbp1_1_ with hbp1_1_e | ⟨_,_,hbp1_1_e⟩<;>rcases hfbp1_2_ with hbp1_2_e | ⟨_,_,hbp1_2_e⟩<;>subst hbp1_1_e hbp1_2_e<;>kernel_rfl),(Fp.pick hH [0,1] rfl)⟩))
  refine (EP.u 1 (Zj (c:=(((List.length a1_.Links:Nat):Int)==24)) (h:=hc5)) ?_)
  obtain ⟨r6,hr6,hj⟩:=bs hj
  obtain ⟨H7,hzH7,hzH7v,hH⟩:=Fp.frz (k:=0) (a:=bp1_1_) (sz:=1) (frz:=true) eB hH rfl
  replace hH:Fp H H7 [.arr bp1_1_ 1 true (List.map eB a1_.Station),.arr bp1_2_ 4 true (List.map Zp a1_.Links)] [.arr bp1_1_ 1 true (List.map eB a1_.Station),.arr bp1_2_ 4 true (List.map Zp a1_.Links)]:=hH
  obtain ⟨H8,hzH8,hzH8v,hH⟩:=Fp.frz (k:=1) (a:=bp1_2_) (sz:=4) (frz:=true) Zp hH rfl
  replace hH:Fp H H8 [.arr bp1_1_ 1 true (List.map eB a1_.Station),.arr bp1_2_ 4 true (List.map Zp a1_.Links)] [.arr bp1_1_ 1 true (List.map eB a1_.Station),.arr bp1_2_ 4 true (List.map Zp a1_.Links)]:=hH
  obtain rfl:=Zc hj
  exact (EP.v (hm:=(by rcases hfbp1_1_ with hbp1_1_e | ⟨_,_,hbp1_1_e⟩<;>rcases hfbp1_2_ with hbp1_2_e | ⟨_,_,hbp1_2_e⟩<;>subst hbp1_1_e hbp1_2_e<;>kernel_rfl)) 3 (ZmY (H:=H) (ys:=[.agg [iv a1_.Nodes,bp1_1_,bp1_2_],.agg [iv a2_,iv a3_,iv (w64 (1+(Int.tmod r2 20))),iv (Int.tmod r3 50)]]) (by rcases hfbp1_1_ with hbp1_1_e | ⟨_,_,hbp1_1_e⟩<;>rcases hfbp1_2_ with hbp1_2_e | ⟨_,_,hbp1_2_e⟩<;>subst hbp1_1_e hbp1_2_e<;>kernel_rfl) (by rcases hfbp1_1_ with hbp1_1_e | ⟨_,_,hbp1_1_e⟩<;>rcases hfbp1_2_ with hbp1_2_e | ⟨_,_,hbp1_2_e⟩<;>subst hbp1_1_e hbp1_2_e<;>kernel_rfl) (Zhx (Zne (Z4 rfl (Z4 hzH7 (Z4 hzH8 ZiM)))) (Zhx rfl Znf)) (Zhq N a1_ (Zy.mk a2_ a3_ (w64 (1+(Int.tmod r2 20))) (Int.tmod r3 50)) r6 hr6)) (EP.f ⟨bp1_1_,bp1_2_,H8,(by show _=_;rcases hfbp1_1_ with hbp1_1_e | ⟨_,_,hbp1_1_e⟩<;>rcases hfbp1_2_ with hbp1_2_e | ⟨_,_,hbp1_2_e⟩<;>subst hbp1_1_e hbp1_2_e<;>kernel_rfl),(Fp.pick hH [0,1] rfl)⟩ (h:=(by rcases hfbp1_1_ with hbp1_1_e | ⟨_,_,hbp1_1_e⟩<;>rcases hfbp1_2_ with hbp1_2_e | ⟨_,_,hbp1_2_e⟩<;>subst hbp1_1_e hbp1_2_e<;>kernel_rfl))))
 clear hj
 rintro s hR
 obtain ⟨a9,a10,H11,rfl,hH⟩:=hR
 replace hH:Fp H H11 [.arr bp1_1_ 1 true (List.map eB a1_.Station),.arr bp1_2_ 4 true (List.map Zp a1_.Links)] [.arr a9 1 true (List.map eB a1_.Station),.arr a10 4 true (List.map Zp a1_.Links)]:=hH
 have hfa9:=Zu (Fp.get hH 0 rfl)
 have hfa10:=Zu (Fp.get hH 1 rfl)
 refine tq (it h (fun hc13 h => ?_) (fun hc13 h => ?_))
 ·refine sq (rgS ⟨[(8,.loc 8 0)],[(8,[iv a1_.Nodes,a9,a10])],H11⟩ (Zb.f (h:=(by rcases hfa10 with ha10e | ⟨_,_,ha10e⟩<;>rcases hfa9 with ha9e | ⟨_,_,ha9e⟩<;>subst ha10e ha9e<;>kernel_rfl))) (by rcases hfa10 with ha10e | ⟨_,_,ha10e⟩<;>rcases hfa9 with ha9e | ⟨_,_,ha9e⟩<;>subst ha10e ha9e<;>kernel_rfl) ?_)
  refine tq (rt ?_)
  refine tr ?_
  obtain rfl:=Zc h
  exact ⟨[.agg [iv a1_.Nodes,a9,a10]],(by rcases hfa10 with ha10e | ⟨_,_,ha10e⟩<;>rcases hfa9 with ha9e | ⟨_,_,ha9e⟩<;>subst ha10e ha9e<;>kernel_rfl),a9,a10,(by rcases hfa10 with ha10e | ⟨_,_,ha10e⟩<;>rcases hfa9 with ha9e | ⟨_,_,ha9e⟩<;>subst ha10e ha9e<;>kernel_rfl),Fp.pk hH [0,1] rfl⟩
 refine sk (tq ?_)
 refine kq (sq ?_)
 refine sq (rgS ⟨[(2,iv a2_),(3,iv a3_),(5,.loc 5 0),(8,.loc 8 0),(9,iv ((List.length a1_.Links:Nat):Int)),(10,.loc 10 0),(11,iv 0)],[(5,[iv a1_.Nodes,a9,a10]),(8,[iv 0,s_eB true [],Zh true []]),(10,[iv a2_,iv a3_,iv (w64 (1+(Int.tmod r2 20))),iv (Int.tmod r3 50)])],H11⟩ Zb.f (by rcases hfa10 with ha10e | ⟨_,_,ha10e⟩<;>rcases hfa9 with ha9e | ⟨_,_,ha9e⟩<;>subst ha10e ha9e<;>kernel_rfl) ?_)
 refine tq (bk ?_)
 obtain ⟨o521,ho521,h⟩:=bs h
 refine Z8 ((ZT (fun (x:Int) s=>s=⟨[(2,iv a2_),(3,iv a3_),(5,.loc 5 0),(8,.loc 8 0),(9,iv ((List.length a1_.Links:Nat):Int)),(10,.loc 10 0),(11,iv x)],[(5,[iv a1_.Nodes,a9,a10]),(8,[iv 0,s_eB true [],Zh true []]),(10,[iv a2_,iv a3_,iv (w64 (1+(Int.tmod r2 20))),iv (Int.tmod r3 50)])],H11⟩) (fun x:Int=>ZaT N a1_ a2_ a3_ x) (fun (p:(Unit) ⊕ (Zi)) e s=>match p with | (.inl p)=>e = .exit 0∧(s=⟨[(5,.loc 5 0),(8,.loc 8 0),(10,.loc 10 0)],[(5,[iv a1_.Nodes,a9,a10]),(8,[iv 0,s_eB true [],Zh true []]),(10,[iv a2_,iv a3_,iv (w64 (1+(Int.tmod r2 20))),iv (Int.tmod r3 50)])],H11⟩) | (.inr p)=>e = .ret∧∃ xs,rawL (wS [] s) i30.res=some xs∧∃ (or_0_1_:AV) (or_0_2_:AV),Zbr xs = .agg [iv p.Nodes,or_0_1_,or_0_2_]∧Fp H (weakH [] s.H) [.arr bp1_1_ 1 true (List.map eB a1_.Station),.arr bp1_2_ 4 true (List.map Zp a1_.Links)] [.arr or_0_1_ 1 true (List.map eB p.Station),.arr or_0_2_ 4 true (List.map Zp p.Links)]) ?_ N _ o521 _ ho521 (by show _=_;rcases hfa10 with ha10e | ⟨_,_,ha10e⟩<;>rcases hfa9 with ha9e | ⟨_,_,ha9e⟩<;>subst ha10e ha9e<;>kernel_rfl)).mono ?_)
 ·clear h ho521
  rintro i14 o s h hR
  obtain rfl:=hR
  replace h:ZaT N a1_ a2_ a3_ i14=some o:=h
  unfold ZaT at h
  refine sq (sq ?_)
  refine rgS ⟨[(2,iv a2_),(3,iv a3_),(5,.loc 5 0),(8,.loc 8 0),(9,iv ((List.length a1_.Links:Nat):Int)),(10,.loc 10 0),(11,iv i14),(40,bv (decide (i14<((List.length a1_.Links:Nat):Int))))],[(5,[iv a1_.Nodes,a9,a10]),(8,[iv 0,s_eB true [],Zh true []]),(10,[iv a2_,iv a3_,iv (w64 (1+(Int.tmod r2 20))),iv (Int.tmod r3 50)])],H11⟩ Zb.f (by rcases hfa10 with ha10e | ⟨_,_,ha10e⟩<;>rcases hfa9 with ha9e | ⟨_,_,ha9e⟩<;>subst ha10e ha9e<;>kernel_rfl) ?_
  refine tq (it h (fun hc515 h => ?_) (fun hc515 h => ?_))
  ·refine sk (tq ?_)
   refine kq (sq ?_)
   refine bk (sq ?_)
   obtain ⟨e516,he516,h⟩:=bs h
   obtain ⟨id517,ver518,_,hid517f,hid517,hid517a,hid517v⟩:=Fp.elem (k:=1) (a:=a10) (sz:=4) (frz:=true) Zp hH rfl he516
   obtain ⟨r519,hr519,h⟩:=bs h
   refine rgS ⟨[(2,iv a2_),(3,iv a3_),(5,.loc 5 0),(8,.loc 8 0),(9,iv ((List.length a1_.Links:Nat):Int)),(10,.loc 10 0),(11,iv i14),(50,bv r519)],[(5,[iv a1_.Nodes,a9,a10]),(8,[iv 0,s_eB true [],Zh true []]),(10,[iv a2_,iv a3_,iv (w64 (1+(Int.tmod r2 20))),iv (Int.tmod r3 50)])],H11⟩ (Zb.u (hm:=(by rcases hfa10 with ha10e | ⟨_,_,ha10e⟩<;>rcases hfa9 with ha9e | ⟨_,_,ha9e⟩<;>subst ha10e ha9e<;>kernel_rfl)) 3 (Zo (ys:=[a10,iv i14]) (by rcases hfa10 with ha10e | ⟨_,_,ha10e⟩<;>rcases hfa9 with ha9e | ⟨_,_,ha9e⟩<;>subst ha10e ha9e<;>kernel_rfl) (hid517v .i64)) (Zb.u (hm:=(by rcases hfa10 with ha10e | ⟨_,_,ha10e⟩<;>rcases hfa9 with ha9e | ⟨_,_,ha9e⟩<;>subst ha10e ha9e<;>kernel_rfl)) 0 (ZbD (H:=H11) (off:=0) (cs:=[.int .i64 e516.A,.int .i64 e516.B,.int .i64 e516.Per,.int .i64 e516.Delay]) (r:=.agg (ZR e516)) Zp he516 hid517 (by rcases hfa10 with ha10e | ⟨_,_,ha10e⟩<;>rcases hfa9 with ha9e | ⟨_,_,ha9e⟩<;>subst ha10e ha9e<;>kernel_rfl) (by rcases hfa10 with ha10e | ⟨_,_,ha10e⟩<;>rcases hfa9 with ha9e | ⟨_,_,ha9e⟩<;>subst ha10e ha9e<;>kernel_rfl) (by rcases hfa10 with ha10e | ⟨_,_,ha10e⟩<;>rcases hfa9 with ha9e | ⟨_,_,ha9e⟩<;>subst ha10e ha9e<;>kernel_rfl) (by rcases hfa10 with ha10e | ⟨_,_,ha10e⟩<;>rcases hfa9 with ha9e | ⟨_,_,ha9e⟩<;>subst ha10e ha9e<;>kernel_rfl)) (Zb.v (hm:=(by rcases hfa10 with ha10e | ⟨_,_,ha10e⟩<;>rcases hfa9 with ha9e | ⟨_,_,ha9e⟩<;>subst ha10e ha9e<;>kernel_rfl)) 2 (Zs (by rcases hfa10 with ha10e | ⟨_,_,ha10e⟩<;>rcases hfa9 with ha9e | ⟨_,_,ha9e⟩<;>subst ha10e ha9e<;>kernel_rfl) (ZgU N e516 a2_ a3_ r519 hr519)) Zb.f))) (by rcases hfa10 with ha10e | ⟨_,_,ha10e⟩<;>rcases hfa9 with ha9e | ⟨_,_,ha9e⟩<;>subst ha10e ha9e<;>kernel_rfl) ?_
   refine tq (it h (fun hc520 h => ?_) (fun hc520 h => ?_))
   ·refine sq (rgS ⟨[(8,.loc 8 0)],[(8,[iv a1_.Nodes,a9,a10])],H11⟩ (Zb.f (h:=(by rcases hfa10 with ha10e | ⟨_,_,ha10e⟩<;>rcases hfa9 with ha9e | ⟨_,_,ha9e⟩<;>subst ha10e ha9e<;>kernel_rfl))) (by rcases hfa10 with ha10e | ⟨_,_,ha10e⟩<;>rcases hfa9 with ha9e | ⟨_,_,ha9e⟩<;>subst ha10e ha9e<;>kernel_rfl) ?_)
    refine tq (rt ?_)
    refine br (tr ?_)
    obtain rfl:=Zc h
    exact ⟨_,rfl,rfl,⟨[.agg [iv a1_.Nodes,a9,a10]],(by rcases hfa10 with ha10e | ⟨_,_,ha10e⟩<;>rcases hfa9 with ha9e | ⟨_,_,ha9e⟩<;>subst ha10e ha9e<;>kernel_rfl),a9,a10,(by rcases hfa10 with ha10e | ⟨_,_,ha10e⟩<;>rcases hfa9 with ha9e | ⟨_,_,ha9e⟩<;>subst ha10e ha9e<;>kernel_rfl),Fp.pk hH [0,1] rfl⟩⟩
   refine sk (bn ?_)
   refine tq (kq ?_)
   refine rgS ⟨[(2,iv a2_),(3,iv a3_),(5,.loc 5 0),(8,.loc 8 0),(9,iv ((List.length a1_.Links:Nat):Int)),(10,.loc 10 0),(11,iv (w64 (i14+1)))],[(5,[iv a1_.Nodes,a9,a10]),(8,[iv 0,s_eB true [],Zh true []]),(10,[iv a2_,iv a3_,iv (w64 (1+(Int.tmod r2 20))),iv (Int.tmod r3 50)])],H11⟩ Zb.f (by rcases hfa10 with ha10e | ⟨_,_,ha10e⟩<;>rcases hfa9 with ha9e | ⟨_,_,ha9e⟩<;>subst ha10e ha9e<;>kernel_rfl) ?_
   obtain rfl:=Zc h
   exact ⟨_,rfl,(by show _=_;rcases hfa10 with ha10e | ⟨_,_,ha10e⟩<;>rcases hfa9 with ha9e | ⟨_,_,ha9e⟩<;>subst ha10e ha9e<;>kernel_rfl)⟩
  refine kq (xq ?_)
  refine tx ?_
  obtain rfl:=Zc h
  exact ⟨_,rfl,rfl,(by show _=_;rcases hfa10 with ha10e | ⟨_,_,ha10e⟩<;>rcases hfa9 with ha9e | ⟨_,_,ha9e⟩<;>subst ha10e ha9e<;>kernel_rfl)⟩
 rintro e s hq
 rcases o521 with p522 | p526
 ·dsimp only at h hq
  obtain ⟨rfl,hR⟩:=hq
  obtain rfl:=hR
  refine bx (tq ?_)
  refine sq ?_
  obtain ⟨l525,hl525,h⟩:=bs h
  obtain ⟨a523,H524,ha523,hH⟩:=Fp.app (k:=1) (a:=a10) (sz:=4) (frz:=true) Zp hH rfl hl525
  replace hH:Fp H H524 [.arr bp1_1_ 1 true (List.map eB a1_.Station),.arr bp1_2_ 4 true (List.map Zp a1_.Links)] [.arr a9 1 true (List.map eB a1_.Station),.arr a523 4 true (List.map Zp l525)]:=hH
  have hfa523:=Zu (Fp.get hH 1 rfl)
  refine rgS ⟨[(5,.loc 5 0),(8,.loc 8 0)],[(5,[iv a1_.Nodes,a9,a523]),(8,[iv 0,s_eB true [],Zh true []])],H524⟩ (Zb.h (hm:=(by rcases hfa10 with ha10e | ⟨_,_,ha10e⟩<;>rcases hfa9 with ha9e | ⟨_,_,ha9e⟩<;>subst ha10e ha9e<;>kernel_rfl)) 4 (ZdH (H:=H11) (a:=a10) (b:=Zh true [(Zy.mk a2_ a3_ (w64 (1+(Int.tmod r2 20))) (Int.tmod r3 50))]) (by rcases hfa10 with ha10e | ⟨_,_,ha10e⟩<;>rcases hfa9 with ha9e | ⟨_,_,ha9e⟩<;>subst ha10e ha9e<;>kernel_rfl) (by rcases hfa10 with ha10e | ⟨_,_,ha10e⟩<;>rcases hfa9 with ha9e | ⟨_,_,ha9e⟩<;>subst ha10e ha9e<;>kernel_rfl) (by rcases hfa10 with ha10e | ⟨_,_,ha10e⟩<;>rcases hfa9 with ha9e | ⟨_,_,ha9e⟩<;>subst ha10e ha9e<;>kernel_rfl) (by rcases hfa10 with ha10e | ⟨_,_,ha10e⟩<;>rcases hfa9 with ha9e | ⟨_,_,ha9e⟩<;>subst ha10e ha9e<;>kernel_rfl) ha523) (Zb.f (h:=(by rcases hfa10 with ha10e | ⟨_,_,ha10e⟩<;>rcases hfa523 with ha523e | ⟨_,_,ha523e⟩<;>rcases hfa9 with ha9e | ⟨_,_,ha9e⟩<;>subst ha10e ha523e ha9e<;>kernel_rfl)))) (by rcases hfa10 with ha10e | ⟨_,_,ha10e⟩<;>rcases hfa523 with ha523e | ⟨_,_,ha523e⟩<;>rcases hfa9 with ha9e | ⟨_,_,ha9e⟩<;>subst ha10e ha523e ha9e<;>kernel_rfl) ?_
  refine tq (sq ?_)
  refine rgS ⟨[(8,.loc 8 0)],[(8,[iv a1_.Nodes,a9,a523])],H524⟩ (Zb.f (h:=(by rcases hfa523 with ha523e | ⟨_,_,ha523e⟩<;>rcases hfa9 with ha9e | ⟨_,_,ha9e⟩<;>subst ha523e ha9e<;>kernel_rfl))) (by rcases hfa523 with ha523e | ⟨_,_,ha523e⟩<;>rcases hfa9 with ha9e | ⟨_,_,ha9e⟩<;>subst ha523e ha9e<;>kernel_rfl) ?_
  refine tq (rt ?_)
  obtain rfl:=Zc h
  exact ⟨[.agg [iv a1_.Nodes,a9,a523]],(by rcases hfa523 with ha523e | ⟨_,_,ha523e⟩<;>rcases hfa9 with ha9e | ⟨_,_,ha9e⟩<;>subst ha523e ha9e<;>kernel_rfl),a9,a523,(by rcases hfa523 with ha523e | ⟨_,_,ha523e⟩<;>rcases hfa9 with ha9e | ⟨_,_,ha9e⟩<;>subst ha523e ha9e<;>kernel_rfl),Fp.pk hH [0,1] rfl⟩
 dsimp only at h hq
 obtain ⟨rfl,hq⟩:=hq
 refine br (tr ?_)
 obtain rfl:=Zc h
 exact hq
theorem ZgR (N:Nat) (a0_:Zi) (a1_:Zm) (r:Bool) (h:ZdQ N a0_ a1_=some r):Zal Try.prog 42 [.agg (Za a0_),.agg (Ze a1_)] (bv r):=by
 unfold ZdQ at h
 have hH:HP ([]:List HO) []:=trivial
 refine ZF chk42 rfl rfl (Zv _ _ _ ?_) rfl
 refine sq (rg Zb.f ?_)
 refine tq (sq ?_)
 refine sq ?_
 obtain ⟨j16,hj,h⟩:=bs h
 refine rgR (fun s=>s=⟨[(2,.loc 2 0),(3,.loc 3 0),(43,bv j16)],[(2,(Za a0_)),(3,(Ze a1_))],[]⟩) ?_ ?_
 ·clear h
  obtain ⟨r1,hr1,hj⟩:=bs hj
  refine (EP.v 2 (Zs (hc:=ZaR N a1_.Id 1 4095 r1 hr1)) ?_)
  rcases Zt hj with ⟨hc2,hj⟩ | ⟨hc3,hj⟩
  ·obtain rfl:=Zc hj
   exact (EP.u 0 (Zj (c:=(!r1)) (h:=hc2)) (EP.f (by show _=_;kernel_rfl)))
  refine (EP.u 0 (Zj (c:=(!r1)) (h:=hc3)) ?_)
  obtain ⟨r4,hr4,hj⟩:=bs hj
  refine (EP.v 4 (Zs (hc:=ZfS N a0_ a1_.Talker r4 hr4)) ?_)
  rcases Zt hj with ⟨hc5,hj⟩ | ⟨hc6,hj⟩
  ·obtain rfl:=Zc hj
   exact (EP.u 0 (Zj (c:=(!r4)) (h:=hc5)) (EP.f (by show _=_;kernel_rfl)))
  refine (EP.u 0 (Zj (c:=(!r4)) (h:=hc6)) ?_)
  obtain ⟨r7,hr7,hj⟩:=bs hj
  refine (EP.v 5 (Zs (hc:=ZfS N a0_ a1_.Listener r7 hr7)) ?_)
  rcases Zt hj with ⟨hc8,hj⟩ | ⟨hc9,hj⟩
  ·obtain rfl:=Zc hj
   exact (EP.u 0 (Zj (c:=(!r7)) (h:=hc8)) (EP.f (by show _=_;kernel_rfl)))
  refine (EP.u 0 (Zj (c:=(!r7)) (h:=hc9)) ?_)
  rcases Zt hj with ⟨hc10,hj⟩ | ⟨hc11,hj⟩
  ·obtain rfl:=Zc hj
   exact (EP.u 6 (Zj (c:=(a1_.Talker==a1_.Listener)) (h:=hc10)) (EP.f (by show _=_;kernel_rfl)))
  refine (EP.u 6 (Zj (c:=(a1_.Talker==a1_.Listener)) (h:=hc11)) ?_)
  obtain ⟨r12,hr12,hj⟩:=bs hj
  refine (EP.v 4 (Zs (hc:=ZaR N a1_.Size 84 1542 r12 hr12)) ?_)
  rcases Zt hj with ⟨hc13,hj⟩ | ⟨hc14,hj⟩
  ·obtain rfl:=Zc hj
   exact (EP.u 0 (Zj (c:=(!r12)) (h:=hc13)) (EP.f (by show _=_;kernel_rfl)))
  refine (EP.u 0 (Zj (c:=(!r12)) (h:=hc14)) ?_)
  obtain ⟨r15,hr15,hj⟩:=bs hj
  obtain rfl:=Zc hj
  exact (EP.v 4 (Zs (hc:=ZaR N a1_.Deadline 1 1099511627776 r15 hr15)) (EP.f (by show _=_;kernel_rfl)))
 clear hj
 rintro s hR
 obtain rfl:=hR
 refine tq (it h (fun hc17 h => ?_) (fun hc17 h => ?_))
 ·refine sq (rg Zb.f ?_)
  refine tq (rt ?_)
  refine tr ?_
  obtain rfl:=Zc h
  exact ZC (by kernel_rfl)
 refine sk (tq ?_)
 refine kq (sq ?_)
 refine sq (rg Zb.f ?_)
 refine tq (bk ?_)
 refine sq (rg Zb.f ?_)
 refine tq (it h (fun hc18 h => ?_) (fun hc18 h => ?_))
 ·refine sq ?_
  obtain ⟨j22,hj,h⟩:=bs h
  refine rgR (fun s=>s=⟨[(2,.loc 2 0),(3,.loc 3 0),(57,bv j22)],[(2,(Za a0_)),(3,(Ze a1_))],[]⟩) ?_ ?_
  ·clear h
   obtain ⟨r19,hr19,hj⟩:=bs hj
   refine (EP.v 2 (Zs (hc:=ZaR N a1_.Period 1 240 r19 hr19)) ?_)
   rcases Zt hj with ⟨hc20,hj⟩ | ⟨hc21,hj⟩
   ·obtain rfl:=Zc hj
    exact (EP.u 0 (Zj (c:=(!r19)) (h:=hc20)) (EP.f (by show _=_;kernel_rfl)))
   obtain rfl:=Zc hj
   exact (EP.u 0 (Zj (c:=(!r19)) (h:=hc21)) (EP.f (by show _=_;kernel_rfl)))
  clear hj
  rintro s hR
  obtain rfl:=hR
  refine tq (it h (fun hc23 h => ?_) (fun hc23 h => ?_))
  ·refine sq (rg Zb.f ?_)
   refine tq (rt ?_)
   refine br (tr ?_)
   obtain rfl:=Zc h
   exact ZC (by kernel_rfl)
  refine sk (bn ?_)
  refine tq (kq ?_)
  refine sq (sq ?_)
  refine rgX ⟨[(2,.loc 2 0),(3,.loc 3 0),(88,bv ((decide (((List.length a1_.Routes:Nat):Int)<1))||(decide (((List.length a1_.Routes:Nat):Int) > 2))))],[(2,(Za a0_)),(3,(Ze a1_))],[]⟩ ?_ ?_
  ·refine (EP.u 2 (Zo (ys:=[Zl false a1_.Routes]) (h:=ZB (eSl 1 eI64))) ?_)
   rcases Bool.eq_false_or_eq_true (decide (((List.length a1_.Routes:Nat):Int)<1)) with hc24 | hc25
   ·exact (EP.u 0 (Zj (c:=(decide (((List.length a1_.Routes:Nat):Int)<1))) (h:=hc24)) (EP.f (by simp only [hc24];kernel_rfl)))
   exact (EP.u 0 (Zj (c:=(decide (((List.length a1_.Routes:Nat):Int)<1))) (h:=hc25)) (EP.u 3 (Zo (ys:=[Zl false a1_.Routes]) (h:=ZB (eSl 1 eI64))) (EP.f (by simp only [hc25];kernel_rfl))))
  refine tq (it h (fun hc26 h => ?_) (fun hc26 h => ?_))
  ·refine sq (rg Zb.f ?_)
   refine tq (rt ?_)
   refine tr ?_
   obtain rfl:=Zc h
   exact ZC (by kernel_rfl)
  refine sk (tq ?_)
  refine kq (sq ?_)
  refine sq (rg Zb.f ?_)
  refine tq (bk ?_)
  obtain ⟨o541,ho541,h⟩:=bs h
  refine Z8 ((ZT (fun (x:Int) s=>s=⟨[(2,.loc 2 0),(3,.loc 3 0),(5,iv x)],[(2,(Za a0_)),(3,(Ze a1_))],[]⟩) (fun x:Int=>ZbJ N a0_ a1_ x) (fun (p:(Unit) ⊕ (Bool)) e s=>match p with | (.inl p)=>e = .exit 1∧(s=⟨[(2,.loc 2 0),(3,.loc 3 0)],[(2,(Za a0_)),(3,(Ze a1_))],[]⟩) | (.inr p)=>e = .ret∧∃ xs,resL s i42.res=some xs∧Zbr xs=bv p) ?_ N _ o541 _ ho541 (by show _=_;kernel_rfl)).mono ?_)
  ·clear h ho541
   rintro i27 o s h hR
   obtain rfl:=hR
   replace h:ZbJ N a0_ a1_ i27=some o:=h
   unfold ZbJ at h
   refine sq (sq ?_)
   refine rg (Zb.u 3 (Zo (ys:=[Zl false a1_.Routes]) (h:=ZB (eSl 1 eI64))) Zb.f) (tq ?_)
   refine it h (fun hc528 h => ?_) (fun hc528 h => ?_)
   ·refine sk (tq ?_)
    refine kq (sq ?_)
    refine bk (sq ?_)
    obtain ⟨e529,he529,h⟩:=bs h
    refine rg (Zb.u 3 (Zo (ys:=[Zl false a1_.Routes,iv i27]) (h:=Zg (eSl 1 eI64) he529)) (Zb.u 0 (Zq (sz:=1) (off:=0) (cs:=[.sl 1 false (List.map eI64 e529)]) (r:=Zk false e529) (eSl 1 eI64) he529) Zb.f)) (tq ?_)
    refine sq ?_
    obtain ⟨j539,hj,h⟩:=bs h
    refine rqR (fun s=>s=⟨[(2,.loc 2 0),(3,.loc 3 0),(5,iv i27),(127,bv j539)],[(2,(Za a0_)),(3,(Ze a1_))],[]⟩) ?_ ?_
    ·clear h
     obtain ⟨r530,hr530,hj⟩:=bs hj
     refine (EP.v 2 (Zs (hc:=Zd5 N a0_ e529 r530 hr530)) ?_)
     rcases Zt hj with ⟨hc531,hj⟩ | ⟨hc532,hj⟩
     ·obtain rfl:=Zc hj
      exact (EP.u 0 (Zj (c:=(!r530)) (h:=hc531)) (EP.f (by show _=_;kernel_rfl)))
     refine (EP.u 0 (Zj (c:=(!r530)) (h:=hc532)) ?_)
     obtain ⟨e533,he533,hj⟩:=bs hj
     refine (EP.u 3 (Zo (ys:=[Zk false e529,iv 0]) (h:=Zg eI64 he533)) (EP.u 0 (Zw (Zq (sz:=1) (off:=0) (cs:=[.int .i64 e533]) (r:=iv e533) eI64 he533)) ?_))
     obtain ⟨r534,hr534,hj⟩:=bs hj
     refine (EP.u 0 (Zaw (hc:=Zcz N a0_ e533 r534 hr534)) ?_)
     rcases Zt hj with ⟨hc535,hj⟩ | ⟨hc536,hj⟩
     ·obtain rfl:=Zc hj
      exact (EP.u 2 (Zj (c:=(r534 != a1_.Talker)) (h:=hc535)) (EP.f (by show _=_;kernel_rfl)))
     refine (EP.u 2 (Zj (c:=(r534 != a1_.Talker)) (h:=hc536)) (EP.u 5 (Zo (ys:=[Zk false e529]) (h:=ZB eI64)) ?_))
     obtain ⟨e537,he537,hj⟩:=bs hj
     refine (EP.u 1 (Zo (ys:=[Zk false e529,iv (w64 (((List.length e529:Nat):Int) - 1))]) (h:=Zg eI64 he537)) (EP.u 0 (Zw (Zq (sz:=1) (off:=0) (cs:=[.int .i64 e537]) (r:=iv e537) eI64 he537)) ?_))
     obtain ⟨r538,hr538,hj⟩:=bs hj
     obtain rfl:=Zc hj
     exact (EP.u 0 (Zaw (hc:=ZcQ N a0_ e537 r538 hr538)) (EP.f (by show _=_;kernel_rfl)))
    clear hj
    rintro s hR
    obtain rfl:=hR
    refine tq (it h (fun hc540 h => ?_) (fun hc540 h => ?_))
    ·refine sq (rg Zb.f ?_)
     refine tq (rt ?_)
     refine br (tr ?_)
     obtain rfl:=Zc h
     exact ⟨_,rfl,rfl,ZC (by kernel_rfl)⟩
    refine sk (bn ?_)
    refine tq (kq ?_)
    refine rg Zb.f ?_
    obtain rfl:=Zc h
    exact ⟨_,rfl,(by show _=_;kernel_rfl)⟩
   refine kq (xq ?_)
   refine tx ?_
   obtain rfl:=Zc h
   exact ⟨_,rfl,rfl,(by show _=_;kernel_rfl)⟩
  rintro e s hq
  rcases o541 with p542 | p549
  ·dsimp only at h hq
   obtain ⟨rfl,hR⟩:=hq
   obtain rfl:=hR
   refine bx (tq ?_)
   refine sq ?_
   obtain ⟨j548,hj,h⟩:=bs h
   refine rqR (fun s=>s=⟨[(4,bv j548)],[],[]⟩) ?_ ?_
   ·clear h
    refine (EP.u 2 (Zo (ys:=[Zl false a1_.Routes]) (h:=ZB (eSl 1 eI64))) ?_)
    rcases Zt hj with ⟨hc543,hj⟩ | ⟨hc544,hj⟩
    ·obtain rfl:=Zc hj
     exact (EP.u 0 (Zj (c:=(((List.length a1_.Routes:Nat):Int)==1)) (h:=hc543)) (EP.f (by show _=_;kernel_rfl)))
    refine (EP.u 0 (Zj (c:=(((List.length a1_.Routes:Nat):Int)==1)) (h:=hc544)) ?_)
    obtain ⟨e545,he545,hj⟩:=bs hj
    refine (EP.u 4 (Zo (ys:=[Zl false a1_.Routes,iv 0]) (h:=Zg (eSl 1 eI64) he545)) (EP.u 0 (Zw (Zq (sz:=1) (off:=0) (cs:=[.sl 1 false (List.map eI64 e545)]) (r:=Zk false e545) (eSl 1 eI64) he545)) ?_))
    obtain ⟨e546,he546,hj⟩:=bs hj
    refine (EP.u 2 (Zo (ys:=[Zl false a1_.Routes,iv 1]) (h:=Zg (eSl 1 eI64) he546)) (EP.u 0 (Zw (Zq (sz:=1) (off:=0) (cs:=[.sl 1 false (List.map eI64 e546)]) (r:=Zk false e546) (eSl 1 eI64) he546)) ?_))
    obtain ⟨r547,hr547,hj⟩:=bs hj
    obtain rfl:=Zc hj
    exact (EP.u 0 (Zaw (hc:=Zfg N a0_ e545 e546 r547 hr547)) (EP.f (by show _=_;kernel_rfl)))
   clear hj
   rintro s hR
   obtain rfl:=hR
   refine tq (rt ?_)
   obtain rfl:=Zc h
   exact ZC (by kernel_rfl)
  dsimp only at h hq
  obtain ⟨rfl,hq⟩:=hq
  refine br (tr ?_)
  obtain rfl:=Zc h
  exact hq
 refine sq (rg Zb.f ?_)
 refine tq (it h (fun hc550 h => ?_) (fun hc550 h => ?_))
 ·refine sq ?_
  obtain ⟨j557,hj,h⟩:=bs h
  refine rgR (fun s=>s=⟨[(2,.loc 2 0),(3,.loc 3 0),(78,bv j557)],[(2,(Za a0_)),(3,(Ze a1_))],[]⟩) ?_ ?_
  ·clear h
   rcases Zt hj with ⟨hc551,hj⟩ | ⟨hc552,hj⟩
   ·obtain rfl:=Zc hj
    exact (EP.u 2 (Zj (c:=(a1_.Period != 0)) (h:=hc551)) (EP.f (by show _=_;kernel_rfl)))
   refine (EP.u 2 (Zj (c:=(a1_.Period != 0)) (h:=hc552)) ?_)
   obtain ⟨r553,hr553,hj⟩:=bs hj
   refine (EP.v 6 (Zs (hc:=ZaR N a1_.Bucket.Burst a1_.Size 1048576 r553 hr553)) ?_)
   rcases Zt hj with ⟨hc554,hj⟩ | ⟨hc555,hj⟩
   ·obtain rfl:=Zc hj
    exact (EP.u 0 (Zj (c:=(!r553)) (h:=hc554)) (EP.f (by show _=_;kernel_rfl)))
   refine (EP.u 0 (Zj (c:=(!r553)) (h:=hc555)) ?_)
   obtain ⟨r556,hr556,hj⟩:=bs hj
   obtain rfl:=Zc hj
   exact (EP.v 5 (Zs (hc:=ZaR N a1_.Bucket.Rate 1 2097152 r556 hr556)) (EP.f (by show _=_;kernel_rfl)))
  clear hj
  rintro s hR
  obtain rfl:=hR
  refine tq (it h (fun hc558 h => ?_) (fun hc558 h => ?_))
  ·refine sq (rg Zb.f ?_)
   refine tq (rt ?_)
   refine br (tr ?_)
   obtain rfl:=Zc h
   exact ZC (by kernel_rfl)
  refine sk (bn ?_)
  refine tq (kq ?_)
  refine sq (sq ?_)
  refine rgX ⟨[(2,.loc 2 0),(3,.loc 3 0),(88,bv ((decide (((List.length a1_.Routes:Nat):Int)<1))||(decide (((List.length a1_.Routes:Nat):Int) > 2))))],[(2,(Za a0_)),(3,(Ze a1_))],[]⟩ ?_ ?_
  ·refine (EP.u 2 (Zo (ys:=[Zl false a1_.Routes]) (h:=ZB (eSl 1 eI64))) ?_)
   rcases Bool.eq_false_or_eq_true (decide (((List.length a1_.Routes:Nat):Int)<1)) with hc559 | hc560
   ·exact (EP.u 0 (Zj (c:=(decide (((List.length a1_.Routes:Nat):Int)<1))) (h:=hc559)) (EP.f (by simp only [hc559];kernel_rfl)))
   exact (EP.u 0 (Zj (c:=(decide (((List.length a1_.Routes:Nat):Int)<1))) (h:=hc560)) (EP.u 3 (Zo (ys:=[Zl false a1_.Routes]) (h:=ZB (eSl 1 eI64))) (EP.f (by simp only [hc560];kernel_rfl))))
  refine tq (it h (fun hc561 h => ?_) (fun hc561 h => ?_))
  ·refine sq (rg Zb.f ?_)
   refine tq (rt ?_)
   refine tr ?_
   obtain rfl:=Zc h
   exact ZC (by kernel_rfl)
  refine sk (tq ?_)
  refine kq (sq ?_)
  refine sq (rg Zb.f ?_)
  refine tq (bk ?_)
  obtain ⟨o1076,ho1076,h⟩:=bs h
  refine Z8 ((ZT (fun (x:Int) s=>s=⟨[(2,.loc 2 0),(3,.loc 3 0),(5,iv x)],[(2,(Za a0_)),(3,(Ze a1_))],[]⟩) (fun x:Int=>Zda N a0_ a1_ x) (fun (p:(Unit) ⊕ (Bool)) e s=>match p with | (.inl p)=>e = .exit 1∧(s=⟨[(2,.loc 2 0),(3,.loc 3 0)],[(2,(Za a0_)),(3,(Ze a1_))],[]⟩) | (.inr p)=>e = .ret∧∃ xs,resL s i42.res=some xs∧Zbr xs=bv p) ?_ N _ o1076 _ ho1076 (by show _=_;kernel_rfl)).mono ?_)
  ·clear h ho1076
   rintro i562 o s h hR
   obtain rfl:=hR
   replace h:Zda N a0_ a1_ i562=some o:=h
   unfold Zda at h
   refine sq (sq ?_)
   refine rg (Zb.u 3 (Zo (ys:=[Zl false a1_.Routes]) (h:=ZB (eSl 1 eI64))) Zb.f) (tq ?_)
   refine it h (fun hc1063 h => ?_) (fun hc1063 h => ?_)
   ·refine sk (tq ?_)
    refine kq (sq ?_)
    refine bk (sq ?_)
    obtain ⟨e1064,he1064,h⟩:=bs h
    refine rg (Zb.u 3 (Zo (ys:=[Zl false a1_.Routes,iv i562]) (h:=Zg (eSl 1 eI64) he1064)) (Zb.u 0 (Zq (sz:=1) (off:=0) (cs:=[.sl 1 false (List.map eI64 e1064)]) (r:=Zk false e1064) (eSl 1 eI64) he1064) Zb.f)) (tq ?_)
    refine sq ?_
    obtain ⟨j1074,hj,h⟩:=bs h
    refine rqR (fun s=>s=⟨[(2,.loc 2 0),(3,.loc 3 0),(5,iv i562),(127,bv j1074)],[(2,(Za a0_)),(3,(Ze a1_))],[]⟩) ?_ ?_
    ·clear h
     obtain ⟨r1065,hr1065,hj⟩:=bs hj
     refine (EP.v 2 (Zs (hc:=Zd5 N a0_ e1064 r1065 hr1065)) ?_)
     rcases Zt hj with ⟨hc1066,hj⟩ | ⟨hc1067,hj⟩
     ·obtain rfl:=Zc hj
      exact (EP.u 0 (Zj (c:=(!r1065)) (h:=hc1066)) (EP.f (by show _=_;kernel_rfl)))
     refine (EP.u 0 (Zj (c:=(!r1065)) (h:=hc1067)) ?_)
     obtain ⟨e1068,he1068,hj⟩:=bs hj
     refine (EP.u 3 (Zo (ys:=[Zk false e1064,iv 0]) (h:=Zg eI64 he1068)) (EP.u 0 (Zw (Zq (sz:=1) (off:=0) (cs:=[.int .i64 e1068]) (r:=iv e1068) eI64 he1068)) ?_))
     obtain ⟨r1069,hr1069,hj⟩:=bs hj
     refine (EP.u 0 (Zaw (hc:=Zcz N a0_ e1068 r1069 hr1069)) ?_)
     rcases Zt hj with ⟨hc1070,hj⟩ | ⟨hc1071,hj⟩
     ·obtain rfl:=Zc hj
      exact (EP.u 2 (Zj (c:=(r1069 != a1_.Talker)) (h:=hc1070)) (EP.f (by show _=_;kernel_rfl)))
     refine (EP.u 2 (Zj (c:=(r1069 != a1_.Talker)) (h:=hc1071)) (EP.u 5 (Zo (ys:=[Zk false e1064]) (h:=ZB eI64)) ?_))
     obtain ⟨e1072,he1072,hj⟩:=bs hj
     refine (EP.u 1 (Zo (ys:=[Zk false e1064,iv (w64 (((List.length e1064:Nat):Int) - 1))]) (h:=Zg eI64 he1072)) (EP.u 0 (Zw (Zq (sz:=1) (off:=0) (cs:=[.int .i64 e1072]) (r:=iv e1072) eI64 he1072)) ?_))
     obtain ⟨r1073,hr1073,hj⟩:=bs hj
     obtain rfl:=Zc hj
     exact (EP.u 0 (Zaw (hc:=ZcQ N a0_ e1072 r1073 hr1073)) (EP.f (by show _=_;kernel_rfl)))
    clear hj
    rintro s hR
    obtain rfl:=hR
    refine tq (it h (fun hc1075 h => ?_) (fun hc1075 h => ?_))
    ·refine sq (rg Zb.f ?_)
     refine tq (rt ?_)
     refine br (tr ?_)
     obtain rfl:=Zc h
     exact ⟨_,rfl,rfl,ZC (by kernel_rfl)⟩
    refine sk (bn ?_)
    refine tq (kq ?_)
    refine rg Zb.f ?_
    obtain rfl:=Zc h
    exact ⟨_,rfl,(by show _=_;kernel_rfl)⟩
   refine kq (xq ?_)
   refine tx ?_
   obtain rfl:=Zc h
   exact ⟨_,rfl,rfl,(by show _=_;kernel_rfl)⟩
  rintro e s hq
  rcases o1076 with p1077 | p1084
  ·dsimp only at h hq
   obtain ⟨rfl,hR⟩:=hq
   obtain rfl:=hR
   refine bx (tq ?_)
   refine sq ?_
   obtain ⟨j1083,hj,h⟩:=bs h
   refine rqR (fun s=>s=⟨[(4,bv j1083)],[],[]⟩) ?_ ?_
   ·clear h
    refine (EP.u 2 (Zo (ys:=[Zl false a1_.Routes]) (h:=ZB (eSl 1 eI64))) ?_)
    rcases Zt hj with ⟨hc1078,hj⟩ | ⟨hc1079,hj⟩
    ·obtain rfl:=Zc hj
     exact (EP.u 0 (Zj (c:=(((List.length a1_.Routes:Nat):Int)==1)) (h:=hc1078)) (EP.f (by show _=_;kernel_rfl)))
    refine (EP.u 0 (Zj (c:=(((List.length a1_.Routes:Nat):Int)==1)) (h:=hc1079)) ?_)
    obtain ⟨e1080,he1080,hj⟩:=bs hj
    refine (EP.u 4 (Zo (ys:=[Zl false a1_.Routes,iv 0]) (h:=Zg (eSl 1 eI64) he1080)) (EP.u 0 (Zw (Zq (sz:=1) (off:=0) (cs:=[.sl 1 false (List.map eI64 e1080)]) (r:=Zk false e1080) (eSl 1 eI64) he1080)) ?_))
    obtain ⟨e1081,he1081,hj⟩:=bs hj
    refine (EP.u 2 (Zo (ys:=[Zl false a1_.Routes,iv 1]) (h:=Zg (eSl 1 eI64) he1081)) (EP.u 0 (Zw (Zq (sz:=1) (off:=0) (cs:=[.sl 1 false (List.map eI64 e1081)]) (r:=Zk false e1081) (eSl 1 eI64) he1081)) ?_))
    obtain ⟨r1082,hr1082,hj⟩:=bs hj
    obtain rfl:=Zc hj
    exact (EP.u 0 (Zaw (hc:=Zfg N a0_ e1080 e1081 r1082 hr1082)) (EP.f (by show _=_;kernel_rfl)))
   clear hj
   rintro s hR
   obtain rfl:=hR
   refine tq (rt ?_)
   obtain rfl:=Zc h
   exact ZC (by kernel_rfl)
  dsimp only at h hq
  obtain ⟨rfl,hq⟩:=hq
  refine br (tr ?_)
  obtain rfl:=Zc h
  exact hq
 refine sq (rg Zb.f ?_)
 refine tq (rt ?_)
 refine br (tr ?_)
 obtain rfl:=Zc h
 exact ZC (by kernel_rfl)
theorem Zhk (N:Nat) (a0_:Zi) (a1_:Int) (a2_:Int) (r:(List Int)) (h:Zew N a0_ a1_ a2_=some r):Zal Try.prog 49 [.agg (Za a0_),.p (.int .u8 a1_),.p (.int .u8 a2_)] (Zlb 1 eI64 r):=by
 unfold Zew at h
 have hH:HP ([]:List HO) []:=trivial
 refine ZF chk49 rfl rfl (Zv _ _ _ ?_) Znz
 refine sq (rg Zb.f ?_)
 refine tq (sq ?_)
 refine sq (rg Zb.f ?_)
 refine tq (bk ?_)
 obtain ⟨o519,ho519,h⟩:=bs h
 refine Z8 ((ZT (fun (x:Int) s=>s=⟨[(1,.p (.int .u8 a1_)),(2,.p (.int .u8 a2_)),(3,.loc 3 0),(7,iv x)],[(3,(Za a0_))],[]⟩) (fun x:Int=>ZcZ N a0_ a1_ a2_ x) (fun (p:(Unit) ⊕ ((List Int))) e s=>match p with | (.inl p)=>e = .exit 0∧(s=⟨[],[],[]⟩) | (.inr p)=>e = .ret∧∃ xs,resL s i49.res=some xs∧Zbr xs=Zlb 1 eI64 p) ?_ N _ o519 _ ho519 (by show _=_;kernel_rfl)).mono ?_)
 ·clear h ho519
  rintro i1 o s h hR
  obtain rfl:=hR
  replace h:ZcZ N a0_ a1_ a2_ i1=some o:=h
  unfold ZcZ at h
  refine sq (sq ?_)
  refine rg Zb.f (tq ?_)
  refine it h (fun hc502 h => ?_) (fun hc502 h => ?_)
  ·refine sk (tq ?_)
   refine kq (sq ?_)
   refine bk (sq ?_)
   obtain ⟨r503,hr503,h⟩:=bs h
   refine rg (Zb.v 6 (Zs (hc:=Zk4 N a0_ a1_ (IntKind.u8.wrap (a2_+(IntKind.u8.wrap (i1)))) r503 hr503)) Zb.f) (tq ?_)
   refine sq ?_
   obtain ⟨j517,hj,h⟩:=bs h
   refine rqR (fun s=>s=⟨[(1,.p (.int .u8 a1_)),(2,.p (.int .u8 a2_)),(3,.loc 3 0),(7,iv i1),(8,Zk false r503),(52,bv j517)],[(3,(Za a0_))],[]⟩) ?_ ?_
   ·clear h
    refine (EP.u 1 (Zo (ys:=[Zk false r503]) (h:=ZB eI64)) ?_)
    rcases Zt hj with ⟨hc504,hj⟩ | ⟨hc516,hj⟩
    ·refine (EP.u 0 (Zj (c:=(decide (((List.length r503:Nat):Int) > 0))) (h:=hc504)) ?_)
     obtain ⟨r505,hr505,hj⟩:=bs hj
     rcases Zt hj with ⟨hc506,hj⟩ | ⟨hc515,hj⟩
     ·refine (EP.u 3 (ZlF (by kernel_rfl) (Zd5 N a0_ r503 r505 hr505) hc506) ?_)
      obtain ⟨e507,he507,hj⟩:=bs hj
      refine (EP.u 6 (Zo (ys:=[Zk false r503,iv 0]) (h:=Zg eI64 he507)) (EP.u 0 (Zw (Zq (sz:=1) (off:=0) (cs:=[.int .i64 e507]) (r:=iv e507) eI64 he507)) ?_))
      obtain ⟨r508,hr508,hj⟩:=bs hj
      refine (EP.u 0 (Zaw (hc:=Zcz N a0_ e507 r508 hr508)) ?_)
      obtain ⟨e509,he509,hj⟩:=bs hj
      refine (EP.u 0 (Zo (ys:=[s_eB false a0_.Station,iv r508]) (h:=Zg eB he509)) ?_)
      rcases Zt hj with ⟨hc510,hj⟩ | ⟨hc514,hj⟩
      ·refine (EP.u 0 (ZH.bool (Zw (Zq (sz:=1) (off:=0) (cs:=[.bool e509]) (r:=bv e509) eB he509)) hc510) (EP.u 7 (Zo (ys:=[Zk false r503]) (h:=ZB eI64)) ?_))
       obtain ⟨e511,he511,hj⟩:=bs hj
       refine (EP.u 1 (Zo (ys:=[Zk false r503,iv (w64 (((List.length r503:Nat):Int) - 1))]) (h:=Zg eI64 he511)) (EP.u 0 (Zw (Zq (sz:=1) (off:=0) (cs:=[.int .i64 e511]) (r:=iv e511) eI64 he511)) ?_))
       obtain ⟨r512,hr512,hj⟩:=bs hj
       refine (EP.u 0 (Zaw (hc:=ZcQ N a0_ e511 r512 hr512)) ?_)
       obtain ⟨e513,he513,hj⟩:=bs hj
       obtain rfl:=Zc hj
       exact (EP.u 0 (Zo (ys:=[s_eB false a0_.Station,iv r512]) (h:=Zg eB he513)) (EP.u 0 (Zw (Zq (sz:=1) (off:=0) (cs:=[.bool e513]) (r:=bv e513) eB he513)) (EP.f (by show _=_;kernel_rfl))))
      obtain rfl:=Zc hj
      exact (EP.u 0 (ZH.bool (Zw (Zq (sz:=1) (off:=0) (cs:=[.bool e509]) (r:=bv e509) eB he509)) hc514) (EP.f (by show _=_;kernel_rfl)))
     obtain rfl:=Zc hj
     exact (EP.u 3 (ZlF (by kernel_rfl) (Zd5 N a0_ r503 r505 hr505) hc515) (EP.f (by show _=_;kernel_rfl)))
    obtain rfl:=Zc hj
    exact (EP.u 0 (Zj (c:=(decide (((List.length r503:Nat):Int) > 0))) (h:=hc516)) (EP.f (by show _=_;kernel_rfl)))
   clear hj
   rintro s hR
   obtain rfl:=hR
   refine tq (it h (fun hc518 h => ?_) (fun hc518 h => ?_))
   ·refine sq (rg Zb.f ?_)
    refine tq (rt ?_)
    refine br (tr ?_)
    obtain ⟨_,hu_,h⟩:=bind_some h
    obtain rfl:=Zc h
    exact ⟨_,rfl,rfl,ZC (by rw [Zla (Zo3 hu_)];kernel_rfl)⟩
   refine sk (bn ?_)
   refine tq (kq ?_)
   refine rg Zb.f ?_
   obtain rfl:=Zc h
   exact ⟨_,rfl,(by show _=_;kernel_rfl)⟩
  refine kq (xq ?_)
  refine tx ?_
  obtain rfl:=Zc h
  exact ⟨_,rfl,rfl,(by show _=_;kernel_rfl)⟩
 rintro e s hq
 rcases o519 with p520 | p521
 ·dsimp only at h hq
  obtain ⟨rfl,hR⟩:=hq
  obtain rfl:=hR
  refine bx (tq ?_)
  refine sq (rg Zb.f ?_)
  refine tq (rt ?_)
  obtain rfl:=Zc h
  exact ZC (by kernel_rfl)
 dsimp only at h hq
 obtain ⟨rfl,hq⟩:=hq
 refine br (tr ?_)
 obtain rfl:=Zc h
 exact hq
theorem ZkT (N:Nat) (a0_:Zi) (r:Bool) (h:Zfj N a0_=some r):Zal Try.prog 53 [.agg (Za a0_)] (bv r):=by
 unfold Zfj at h
 have hH:HP ([]:List HO) []:=trivial
 refine ZF chk53 rfl rfl (Zv _ _ _ ?_) rfl
 refine sq ?_
 obtain ⟨id1,H2,hid1,hH2,hH⟩:=HP.newCell hH (Za a0_)
 replace hH:HP H2 [.cel id1 (Za a0_)]:=hH
 refine rg (Zb.h 0 (Zdi (H:=[]) (v:=.agg (Za a0_)) (hid:=hid1) (hH:=hH2)) Zb.f) (tq ?_)
 refine sq (rg Zb.f ?_)
 refine tq (sq ?_)
 refine sq ?_
 have hlc3:=HP.get hH 0 rfl
 refine rg (Zb.u 1 (ZA (H:=H2) (id:=id1) (off:=2) (cs:=(Za a0_)) (c:=[Zh false a0_.Links]) (r:=Zh false a0_.Links) (hl:=hlc3)) (Zb.u 0 (Zo (ys:=[Zh false a0_.Links]) (h:=ZB Zp)) Zb.f)) (tq ?_)
 refine bk ?_
 obtain ⟨o514,ho514,h⟩:=bs h
 refine Z8 ((ZT (fun (x:Int) s=>s=⟨[(3,.loc 3 0),(14,iv ((List.length a0_.Links:Nat):Int)),(15,iv x)],[(3,[.fn 76 [] [.ptr id1 0],.fn 78 [] [.ptr id1 0],.fn 79 [] [.ptr id1 0],.fn 80 [] [.ptr id1 0]])],H2⟩) (fun x:Int=>Zcv N a0_ x) (fun (p:(Unit) ⊕ (Bool)) e s=>match p with | (.inl p)=>e = .exit 0∧(s=⟨[],[],H2⟩) | (.inr p)=>e = .ret∧∃ xs,resL s i53.res=some xs∧Zbr xs=bv p) ?_ N _ o514 _ ho514 (by show _=_;kernel_rfl)).mono ?_)
 ·clear h ho514
  rintro i4 o s h hR
  obtain rfl:=hR
  replace h:Zcv N a0_ i4=some o:=h
  unfold Zcv at h
  refine sq (rg Zb.f ?_)
  refine tq (sq ?_)
  refine it h (fun hc505 h => ?_) (fun hc505 h => ?_)
  ·refine sk (tq ?_)
   refine kq (sq ?_)
   refine bk (sq ?_)
   refine rg Zb.f (tq ?_)
   refine sq (rg Zb.f ?_)
   refine tq (bk ?_)
   refine Zdu 18 ?_
   refine Z5 ?_
   refine sq (rg Zb.f ?_)
   refine tq (sq ?_)
   refine ZaP (by kernel_rfl) ?_
   refine sk (tq ?_)
   refine kq (sq ?_)
   refine bk (sq ?_)
   refine rg Zb.f (tq ?_)
   refine sq ?_
   obtain ⟨r506,hr506,h⟩:=bs h
   have hvr506:=(ZiW N i4 a0_ id1 H2 (HP.now (HP.pick hH [0] rfl)) r506 hr506)
   refine rg (Zb.v 2 (ZcI (H:=H2) (fv:=.fn 76 [] [.ptr id1 0]) (ys:=[iv i4]) (hc:=ZfN.of (by kernel_rfl) hvr506)) Zb.f) (tq ?_)
   refine it h (fun hc507 h => ?_) (fun hc507 h => ?_)
   ·refine sq (rg Zb.f ?_)
    replace hH:HP H2 []:=HP.pick hH [] rfl
    refine tq (rt ?_)
    refine br (tr ?_)
    refine tr (br ?_)
    refine br (tr ?_)
    obtain rfl:=Zc h
    exact ⟨_,rfl,rfl,ZC (by kernel_rfl)⟩
   refine sk (bn ?_)
   refine tq (kq ?_)
   refine rg Zb.f (tq ?_)
   refine Z5 ?_
   refine sq (rg Zb.f ?_)
   refine tq (sq ?_)
   refine ZaP (by kernel_rfl) ?_
   refine sk (tq ?_)
   refine kq (sq ?_)
   refine bk (sq ?_)
   refine rg Zb.f (tq ?_)
   refine sq ?_
   obtain ⟨r508,hr508,h⟩:=bs h
   have hvr508:=(ZiV N i4 a0_ id1 H2 (HP.now (HP.pick hH [0] rfl)) r508 hr508)
   refine rg (Zb.v 2 (ZcI (H:=H2) (fv:=.fn 78 [] [.ptr id1 0]) (ys:=[iv i4]) (hc:=ZfN.of (by kernel_rfl) hvr508)) Zb.f) (tq ?_)
   refine it h (fun hc509 h => ?_) (fun hc509 h => ?_)
   ·refine sq (rg Zb.f ?_)
    replace hH:HP H2 []:=HP.pick hH [] rfl
    refine tq (rt ?_)
    refine br (tr ?_)
    refine tr (br ?_)
    refine br (tr ?_)
    obtain rfl:=Zc h
    exact ⟨_,rfl,rfl,ZC (by kernel_rfl)⟩
   refine sk (bn ?_)
   refine tq (kq ?_)
   refine rg Zb.f (tq ?_)
   refine Z5 ?_
   refine sq (rg Zb.f ?_)
   refine tq (sq ?_)
   refine ZaP (by kernel_rfl) ?_
   refine sk (tq ?_)
   refine kq (sq ?_)
   refine bk (sq ?_)
   refine rg Zb.f (tq ?_)
   refine sq ?_
   obtain ⟨r510,hr510,h⟩:=bs h
   have hvr510:=(ZiU N i4 a0_ id1 H2 (HP.now (HP.pick hH [0] rfl)) r510 hr510)
   refine rg (Zb.v 2 (ZcI (H:=H2) (fv:=.fn 79 [] [.ptr id1 0]) (ys:=[iv i4]) (hc:=ZfN.of (by kernel_rfl) hvr510)) Zb.f) (tq ?_)
   refine it h (fun hc511 h => ?_) (fun hc511 h => ?_)
   ·refine sq (rg Zb.f ?_)
    replace hH:HP H2 []:=HP.pick hH [] rfl
    refine tq (rt ?_)
    refine br (tr ?_)
    refine tr (br ?_)
    refine br (tr ?_)
    obtain rfl:=Zc h
    exact ⟨_,rfl,rfl,ZC (by kernel_rfl)⟩
   refine sk (bn ?_)
   refine tq (kq ?_)
   refine rg Zb.f (tq ?_)
   refine Z5 ?_
   refine sq (rg Zb.f ?_)
   refine tq (sq ?_)
   refine ZaP (by kernel_rfl) ?_
   refine sk (tq ?_)
   refine kq (sq ?_)
   refine bk (sq ?_)
   refine rg Zb.f (tq ?_)
   refine sq ?_
   obtain ⟨r512,hr512,h⟩:=bs h
   have hvr512:=(ZiT N i4 a0_ id1 H2 (HP.now (HP.pick hH [0] rfl)) r512 hr512)
   refine rg (Zb.v 2 (ZcI (H:=H2) (fv:=.fn 80 [] [.ptr id1 0]) (ys:=[iv i4]) (hc:=ZfN.of (by kernel_rfl) hvr512)) Zb.f) (tq ?_)
   refine it h (fun hc513 h => ?_) (fun hc513 h => ?_)
   ·refine sq (rg Zb.f ?_)
    replace hH:HP H2 []:=HP.pick hH [] rfl
    refine tq (rt ?_)
    refine br (tr ?_)
    refine tr (br ?_)
    refine br (tr ?_)
    obtain rfl:=Zc h
    exact ⟨_,rfl,rfl,ZC (by kernel_rfl)⟩
   refine sk (bn ?_)
   refine tq (kq ?_)
   refine rg Zb.f (tq ?_)
   refine Z5 ?_
   refine sq (rg Zb.f ?_)
   refine tq (sq ?_)
   refine Zdv (by kernel_rfl) ?_
   refine kq (xq ?_)
   refine tx (tx ?_)
   refine bx (bn ?_)
   refine tq (rg Zb.f ?_)
   obtain rfl:=Zc h
   exact ⟨_,rfl,(by show _=_;kernel_rfl)⟩
  refine kq ?_
  replace hH:HP H2 []:=HP.pick hH [] rfl
  refine xq (tx ?_)
  obtain rfl:=Zc h
  exact ⟨_,rfl,rfl,(by show _=_;kernel_rfl)⟩
 rintro e s hq
 rcases o514 with p515 | p516
 ·dsimp only at h hq
  obtain ⟨rfl,hR⟩:=hq
  obtain rfl:=hR
  refine bx (tq ?_)
  refine sq (rg Zb.f ?_)
  refine tq (rt ?_)
  obtain rfl:=Zc h
  exact ZC (by kernel_rfl)
 dsimp only at h hq
 obtain ⟨rfl,hq⟩:=hq
 refine br (tr ?_)
 obtain rfl:=Zc h
 exact hq
theorem ZhM (N:Nat) (c0_:Zm) (k0_:Nat) (H:List HO) (hH:HP H [.cel k0_ (Ze c0_)]) (r:Bool) (h:Zc9 N c0_=some r):ZbG Try.prog 61 [.ptr k0_ 0] H (bv r) H:=by
 unfold Zc9 at h
 refine ZbB chk61 rfl rfl rfl (Zv _ _ _ ?_)
 refine sq (rg Zb.f ?_)
 refine tq (sq ?_)
 refine sq ?_
 have hlc1:=HP.get hH 0 rfl
 refine rg (Zb.u 1 (ZA (H:=H) (id:=k0_) (off:=3) (cs:=(Ze c0_)) (c:=[iv c0_.Class]) (r:=iv c0_.Class) (hl:=hlc1)) Zb.f) (tq ?_)
 refine bk (sq ?_)
 refine rg Zb.f (tq ?_)
 refine it h (fun hc2 h => ?_) (fun hc2 h => ?_)
 ·refine sq ?_
  obtain ⟨j8,hj,h⟩:=bs h
  refine rgR (fun s=>s=⟨[(1,bv j8)],[],H⟩) ?_ ?_
  ·clear h
   have hlc3:=HP.get hH 0 rfl
   refine (EP.u 1 (ZA (H:=H) (id:=k0_) (off:=5) (cs:=(Ze c0_)) (c:=[iv c0_.Period]) (r:=iv c0_.Period) (hl:=hlc3)) ?_)
   obtain ⟨r4,hr4,hj⟩:=bs hj
   rcases Zt hj with ⟨hc5,hj⟩ | ⟨hc7,hj⟩
   ·refine (EP.h 0 (Zbs (by kernel_rfl) (Z9 N c0_.Period 1 240 r4 hr4) hc5) ?_)
    have hlc6:=HP.get hH 0 rfl
    obtain rfl:=Zc hj
    exact (EP.u 2 (ZA (H:=H) (id:=k0_) (off:=6) (cs:=(Ze c0_)) (c:=(Zee c0_.Bucket)) (r:=.agg (Zee c0_.Bucket)) (hl:=hlc6)) (EP.f (by show _=_;kernel_rfl)))
   obtain rfl:=Zc hj
   exact (EP.h 0 (Zbs (by kernel_rfl) (Z9 N c0_.Period 1 240 r4 hr4) hc7) (EP.f (by show _=_;kernel_rfl)))
  clear hj
  rintro s hR
  obtain rfl:=hR
  refine tq (rt ?_)
  refine br (tr ?_)
  obtain rfl:=Zc h
  exact Za1 (by kernel_rfl) (by kernel_rfl)
 refine sq (rg Zb.f ?_)
 refine tq (it h (fun hc9 h => ?_) (fun hc9 h => ?_))
 ·refine sq ?_
  obtain ⟨j19,hj,h⟩:=bs h
  refine rgR (fun s=>s=⟨[(1,bv j19)],[],H⟩) ?_ ?_
  ·clear h
   have hlc10:=HP.get hH 0 rfl
   refine (EP.u 1 (ZA (H:=H) (id:=k0_) (off:=5) (cs:=(Ze c0_)) (c:=[iv c0_.Period]) (r:=iv c0_.Period) (hl:=hlc10)) ?_)
   rcases Zt hj with ⟨hc11,hj⟩ | ⟨hc18,hj⟩
   ·refine (EP.u 0 (Zj (c:=(c0_.Period==0)) (h:=hc11)) ?_)
    have hlc12:=HP.get hH 0 rfl
    refine (EP.u 2 (ZA (H:=H) (id:=k0_) (off:=6) (cs:=(Ze c0_)) (c:=(Zee c0_.Bucket)) (r:=.agg (Zee c0_.Bucket)) (hl:=hlc12)) ?_)
    obtain ⟨r13,hr13,hj⟩:=bs hj
    refine (EP.v 0 (Zs (hc:=ZjQ N c0_.Bucket r13 hr13)) ?_)
    rcases Zt hj with ⟨hc14,hj⟩ | ⟨hc17,hj⟩
    ·refine (EP.u 0 (Zj (c:=(r13==0)) (h:=hc14)) ?_)
     have hlc15:=HP.get hH 0 rfl
     refine (EP.u 4 (ZA (H:=H) (id:=k0_) (off:=6) (cs:=(Ze c0_)) (c:=[iv c0_.Bucket.Burst]) (r:=iv c0_.Bucket.Burst) (hl:=hlc15)) ?_)
     have hlc16:=HP.get hH 0 rfl
     obtain rfl:=Zc hj
     exact (EP.u 1 (ZA (H:=H) (id:=k0_) (off:=4) (cs:=(Ze c0_)) (c:=[iv c0_.Size]) (r:=iv c0_.Size) (hl:=hlc16)) (EP.f (by show _=_;kernel_rfl)))
    obtain rfl:=Zc hj
    exact (EP.u 0 (Zj (c:=(r13==0)) (h:=hc17)) (EP.f (by show _=_;kernel_rfl)))
   obtain rfl:=Zc hj
   exact (EP.u 0 (Zj (c:=(c0_.Period==0)) (h:=hc18)) (EP.f (by show _=_;kernel_rfl)))
  clear hj
  rintro s hR
  obtain rfl:=hR
  refine tq (rt ?_)
  refine br (tr ?_)
  obtain rfl:=Zc h
  exact Za1 (by kernel_rfl) (by kernel_rfl)
 refine sk (bn ?_)
 refine tq (kq ?_)
 replace hH:HP H []:=HP.pick hH [] rfl
 refine sq (rg Zb.f ?_)
 refine tq (rt ?_)
 obtain rfl:=Zc h
 exact Za1 (by kernel_rfl) (by kernel_rfl)
theorem ZeJ (N:Nat) (a0_:ZX) (a1_:(List Int)) (a2_:(List Int)) (r:Bool) (h:ZbU N a0_ a1_ a2_=some r):Zal Try.prog 88 [.agg (Za a0_.Topo),Zk false a1_,Zk false a2_] (bv r):=by
 unfold ZbU at h
 have hH:HP ([]:List HO) []:=trivial
 refine ZF chk88 rfl rfl (Zv _ _ _ ?_) rfl
 refine sq (rg Zb.f ?_)
 refine tq (sq ?_)
 obtain ⟨r1,hr1,h⟩:=bs h
 refine rg (Zb.v 2 (Zs (hc:=Zdj N a0_ a1_ r1 hr1)) Zb.f) (tq ?_)
 refine sq (rg (Zb.u 1 (Zo (ys:=[Zk false r1]) (h:=ZB eI64)) Zb.f) ?_)
 refine tq (sq ?_)
 obtain ⟨r2,hr2,h⟩:=bs h
 refine rg (Zb.v 2 (Zs (hc:=Zdj N a0_ a2_ r2 hr2)) Zb.f) (tq ?_)
 refine sq (sq ?_)
 obtain ⟨l3,hl3,h⟩:=bs h
 refine rg (Zb.u 3 (Zo (ys:=[Zk false r1,iv 1,iv (w64 (((List.length r1:Nat):Int) - 1)),iv (w64 (((List.length r1:Nat):Int) - 1))]) (h:=Zlx eI64 hl3)) (Zb.u 0 (Zo (ys:=[Zk true l3]) (h:=ZB eI64)) Zb.f)) (tq ?_)
 refine bk ?_
 obtain ⟨o509,ho509,h⟩:=bs h
 refine Z8 ((ZT (fun (x:Int) s=>s=⟨[(9,Zk false r2),(24,Zk true l3),(25,iv ((List.length l3:Nat):Int)),(26,iv x)],[],[]⟩) (fun x:Int=>ZaQ N r2 l3 x) (fun (p:(Unit) ⊕ (Bool)) e s=>match p with | (.inl p)=>e = .exit 0∧(s=⟨[],[],[]⟩) | (.inr p)=>e = .ret∧∃ xs,resL s i88.res=some xs∧Zbr xs=bv p) ?_ N _ o509 _ ho509 (by show _=_;kernel_rfl)).mono ?_)
 ·clear h ho509
  rintro i4 o s h hR
  obtain rfl:=hR
  replace h:ZaQ N r2 l3 i4=some o:=h
  unfold ZaQ at h
  refine sq (rg Zb.f ?_)
  refine tq (sq ?_)
  refine it h (fun hc505 h => ?_) (fun hc505 h => ?_)
  ·refine sk (tq ?_)
   refine kq (sq ?_)
   refine bk (sq ?_)
   obtain ⟨e506,he506,h⟩:=bs h
   refine rg (Zb.u 0 (Zo (ys:=[Zk true l3,iv i4]) (h:=Zg eI64 he506)) (Zb.u 0 (Zq (sz:=1) (off:=0) (cs:=[.int .i64 e506]) (r:=iv e506) eI64 he506) Zb.f)) (tq ?_)
   refine sq ?_
   obtain ⟨r507,hr507,h⟩:=bs h
   refine rg (Zb.v 2 (Zs (hc:=ZeF N r2 e506 r507 hr507)) Zb.f) (tq ?_)
   refine it h (fun hc508 h => ?_) (fun hc508 h => ?_)
   ·refine sq (rg Zb.f ?_)
    refine tq (rt ?_)
    refine br (tr ?_)
    obtain rfl:=Zc h
    exact ⟨_,rfl,rfl,ZC (by kernel_rfl)⟩
   refine sk (bn ?_)
   refine tq (kq ?_)
   refine rg Zb.f ?_
   obtain rfl:=Zc h
   exact ⟨_,rfl,(by show _=_;kernel_rfl)⟩
  refine kq (xq ?_)
  refine tx ?_
  obtain rfl:=Zc h
  exact ⟨_,rfl,rfl,(by show _=_;kernel_rfl)⟩
 rintro e s hq
 rcases o509 with p510 | p511
 ·dsimp only at h hq
  obtain ⟨rfl,hR⟩:=hq
  obtain rfl:=hR
  refine bx (tq ?_)
  refine sq (rg Zb.f ?_)
  refine tq (rt ?_)
  obtain rfl:=Zc h
  exact ZC (by kernel_rfl)
 dsimp only at h hq
 obtain ⟨rfl,hq⟩:=hq
 refine br (tr ?_)
 obtain rfl:=Zc h
 exact hq
theorem Zg2 (N:Nat) (a0_:Zau) (r:Zi) (h:Zby N a0_=some r):Zal Try.prog 8 [.agg (Zz a0_)] (.agg [iv r.Nodes,s_eB false r.Station,Zh false r.Links]):=by
 unfold Zby at h
 have hH:HP ([]:List HO) []:=trivial
 refine ZF chk8 rfl rfl (Zv _ _ _ ?_) rfl
 refine sq (rg Zb.f ?_)
 refine tq (sq ?_)
 refine rg Zb.f (tq ?_)
 refine sq (rg Zb.f ?_)
 refine tq (sq ?_)
 refine rg Zb.f (tq ?_)
 refine sq (sq ?_)
 refine rg Zb.f (tq ?_)
 refine bk ?_
 obtain ⟨o511,ho511,h⟩:=bs h
 refine Z8 ((ZT (fun (x:Int × (List Bool)) s=>∃ (a1:AV) (H2:List HO),s=⟨[(1,.loc 1 0),(2,.loc 2 0),(3,iv (w64 (1+(w64 ((Int.tmod a0_.Bridges 6)))))),(4,iv (w64 (2+(w64 ((Int.tmod a0_.Stations 5)))))),(5,.loc 5 0),(6,iv x.1)],[(1,(Zz a0_)),(2,[iv 0,s_eB true [],Zh true []]),(5,[iv (w64 ((w64 (1+(w64 ((Int.tmod a0_.Bridges 6)))))+(w64 (2+(w64 ((Int.tmod a0_.Stations 5))))))),a1,Zh true []])],H2⟩∧HP H2 [.arr a1 1 false (List.map eB x.2)]) (fun x:Int × (List Bool)=>Zak N a0_ x.1 x.2) (fun (p:(List Bool)) e s=>e = .exit 0∧(∃ (a505:AV) (H506:List HO),s=⟨[(1,.loc 1 0),(2,.loc 2 0),(3,iv (w64 (1+(w64 ((Int.tmod a0_.Bridges 6)))))),(4,iv (w64 (2+(w64 ((Int.tmod a0_.Stations 5)))))),(5,.loc 5 0)],[(1,(Zz a0_)),(2,[iv 0,s_eB true [],Zh true []]),(5,[iv (w64 ((w64 (1+(w64 ((Int.tmod a0_.Bridges 6)))))+(w64 (2+(w64 ((Int.tmod a0_.Stations 5))))))),a505,Zh true []])],H506⟩∧HP H506 [.arr a505 1 false (List.map eB p)])) ?_ N _ o511 _ ho511 ⟨(.p (.sl 1 true [])),[],(by show _=_;kernel_rfl),(HP.pick (HP.nilArr hH 1 false) [0] rfl)⟩).mono ?_)
 ·clear h ho511
  rintro ⟨i3,l4⟩ o s h hR
  obtain ⟨a1,H2,rfl,hH⟩:=hR
  replace hH:HP H2 [.arr a1 1 false (List.map eB l4)]:=hH
  have hfa1:=Zu (HP.get hH 0 rfl)
  replace h:Zak N a0_ i3 l4=some o:=h
  unfold Zak at h
  refine sq (sq ?_)
  refine rgS ⟨[(1,.loc 1 0),(2,.loc 2 0),(3,iv (w64 (1+(w64 ((Int.tmod a0_.Bridges 6)))))),(4,iv (w64 (2+(w64 ((Int.tmod a0_.Stations 5)))))),(5,.loc 5 0),(6,iv i3),(28,bv (decide (i3<(w64 ((w64 (1+(w64 ((Int.tmod a0_.Bridges 6)))))+(w64 (2+(w64 ((Int.tmod a0_.Stations 5))))))))))],[(1,(Zz a0_)),(2,[iv 0,s_eB true [],Zh true []]),(5,[iv (w64 ((w64 (1+(w64 ((Int.tmod a0_.Bridges 6)))))+(w64 (2+(w64 ((Int.tmod a0_.Stations 5))))))),a1,Zh true []])],H2⟩ (Zb.f (h:=(by rcases hfa1 with ha1e | ⟨_,_,ha1e⟩<;>subst ha1e<;>kernel_rfl))) (by rcases hfa1 with ha1e | ⟨_,_,ha1e⟩<;>subst ha1e<;>kernel_rfl) ?_
  refine tq (it h (fun hc507 h => ?_) (fun hc507 h => ?_))
  ·refine sk (tq ?_)
   refine kq (sq ?_)
   refine bk ?_
   obtain ⟨l510,hl510,h⟩:=bs h
   obtain ⟨a508,H509,ha508,hH⟩:=HP.app (k:=0) (a:=a1) (sz:=1) (frz:=false) eB hH rfl hl510
   replace hH:HP H509 [.arr a508 1 false (List.map eB l510)]:=hH
   have hfa508:=Zu (HP.get hH 0 rfl)
   refine rgS ⟨[(1,.loc 1 0),(2,.loc 2 0),(3,iv (w64 (1+(w64 ((Int.tmod a0_.Bridges 6)))))),(4,iv (w64 (2+(w64 ((Int.tmod a0_.Stations 5)))))),(5,.loc 5 0),(6,iv i3)],[(1,(Zz a0_)),(2,[iv 0,s_eB true [],Zh true []]),(5,[iv (w64 ((w64 (1+(w64 ((Int.tmod a0_.Bridges 6)))))+(w64 (2+(w64 ((Int.tmod a0_.Stations 5))))))),a508,Zh true []])],H509⟩ (Zb.h (hm:=(by rcases hfa1 with ha1e | ⟨_,_,ha1e⟩<;>subst ha1e<;>kernel_rfl)) 6 (ZdH (H:=H2) (a:=a1) (b:=s_eB true [(decide (i3 ≥ (w64 (1+(w64 ((Int.tmod a0_.Bridges 6)))))))]) (by rcases hfa1 with ha1e | ⟨_,_,ha1e⟩<;>subst ha1e<;>kernel_rfl) (by rcases hfa1 with ha1e | ⟨_,_,ha1e⟩<;>subst ha1e<;>kernel_rfl) (by rcases hfa1 with ha1e | ⟨_,_,ha1e⟩<;>subst ha1e<;>kernel_rfl) (by rcases hfa1 with ha1e | ⟨_,_,ha1e⟩<;>subst ha1e<;>kernel_rfl) ha508) (Zb.f (h:=(by rcases hfa1 with ha1e | ⟨_,_,ha1e⟩<;>rcases hfa508 with ha508e | ⟨_,_,ha508e⟩<;>subst ha1e ha508e<;>kernel_rfl)))) (by rcases hfa1 with ha1e | ⟨_,_,ha1e⟩<;>rcases hfa508 with ha508e | ⟨_,_,ha508e⟩<;>subst ha1e ha508e<;>kernel_rfl) ?_
   refine bn (tq ?_)
   refine rgS ⟨[(1,.loc 1 0),(2,.loc 2 0),(3,iv (w64 (1+(w64 ((Int.tmod a0_.Bridges 6)))))),(4,iv (w64 (2+(w64 ((Int.tmod a0_.Stations 5)))))),(5,.loc 5 0),(6,iv (w64 (i3+1)))],[(1,(Zz a0_)),(2,[iv 0,s_eB true [],Zh true []]),(5,[iv (w64 ((w64 (1+(w64 ((Int.tmod a0_.Bridges 6)))))+(w64 (2+(w64 ((Int.tmod a0_.Stations 5))))))),a508,Zh true []])],H509⟩ Zb.f (by rcases hfa508 with ha508e | ⟨_,_,ha508e⟩<;>subst ha508e<;>kernel_rfl) ?_
   obtain rfl:=Zc h
   exact ⟨_,rfl,⟨a508,H509,(by show _=_;rcases hfa508 with ha508e | ⟨_,_,ha508e⟩<;>subst ha508e<;>kernel_rfl),(HP.pick hH [0] rfl)⟩⟩
  refine kq (xq ?_)
  refine tx ?_
  obtain rfl:=Zc h
  exact ⟨_,rfl,rfl,⟨a1,H2,(by show _=_;rcases hfa1 with ha1e | ⟨_,_,ha1e⟩<;>subst ha1e<;>kernel_rfl),(HP.pick hH [0] rfl)⟩⟩
 rintro e s hq
 obtain ⟨rfl,hR⟩:=hq
 obtain ⟨a505,H506,rfl,hH⟩:=hR
 replace hH:HP H506 [.arr a505 1 false (List.map eB o511)]:=hH
 have hfa505:=Zu (HP.get hH 0 rfl)
 refine bx (tq ?_)
 refine sq (sq ?_)
 refine rgS ⟨[(1,.loc 1 0),(2,.loc 2 0),(3,iv (w64 (1+(w64 ((Int.tmod a0_.Bridges 6)))))),(4,iv (w64 (2+(w64 ((Int.tmod a0_.Stations 5)))))),(5,.loc 5 0),(7,iv 1)],[(1,(Zz a0_)),(2,[iv 0,s_eB true [],Zh true []]),(5,[iv (w64 ((w64 (1+(w64 ((Int.tmod a0_.Bridges 6)))))+(w64 (2+(w64 ((Int.tmod a0_.Stations 5))))))),a505,Zh true []])],H506⟩ Zb.f (by rcases hfa505 with ha505e | ⟨_,_,ha505e⟩<;>subst ha505e<;>kernel_rfl) ?_
 refine tq (bk ?_)
 obtain ⟨o1027,ho1027,h⟩:=bs h
 refine Z8 ((ZT (fun (x:Int × Int × (List Bool) × (List Zy)) s=>∃ (a512:AV) (a513:AV) (H514:List HO),s=⟨[(1,.loc 1 0),(2,.loc 2 0),(3,iv (w64 (1+(w64 ((Int.tmod a0_.Bridges 6)))))),(4,iv (w64 (2+(w64 ((Int.tmod a0_.Stations 5)))))),(5,.loc 5 0),(7,iv x.1)],[(1,(Zz a0_)),(2,[iv 0,s_eB true [],Zh true []]),(5,[iv x.2.1,a512,a513])],H514⟩∧HP H514 [.arr a512 1 true (List.map eB x.2.2.1),.arr a513 4 true (List.map Zp x.2.2.2)]) (fun x:Int × Int × (List Bool) × (List Zy)=>Zaj N a0_ x.1 x.2.1 x.2.2.1 x.2.2.2) (fun (p:Int × (List Bool) × (List Zy)) e s=>e = .exit 2∧(∃ (a1019:AV) (a1020:AV) (H1021:List HO),s=⟨[(1,.loc 1 0),(2,.loc 2 0),(3,iv (w64 (1+(w64 ((Int.tmod a0_.Bridges 6)))))),(4,iv (w64 (2+(w64 ((Int.tmod a0_.Stations 5)))))),(5,.loc 5 0)],[(1,(Zz a0_)),(2,[iv 0,s_eB true [],Zh true []]),(5,[iv p.1,a1019,a1020])],H1021⟩∧HP H1021 [.arr a1019 1 true (List.map eB p.2.1),.arr a1020 4 true (List.map Zp p.2.2)])) ?_ N _ o1027 _ ho1027 ⟨a505,(.p (.sl 4 true [])),H506,(by show _=_;rcases hfa505 with ha505e | ⟨_,_,ha505e⟩<;>subst ha505e<;>kernel_rfl),(HP.frzUp (k:=0) (HP.pick (HP.nilArr hH 4 true) [1,0] rfl) rfl)⟩).mono ?_)
 ·clear h ho1027
  rintro ⟨i515,i516,l517,l518⟩ o s h hR
  obtain ⟨a512,a513,H514,rfl,hH⟩:=hR
  replace hH:HP H514 [.arr a512 1 true (List.map eB l517),.arr a513 4 true (List.map Zp l518)]:=hH
  have hfa512:=Zu (HP.get hH 0 rfl)
  have hfa513:=Zu (HP.get hH 1 rfl)
  replace h:Zaj N a0_ i515 i516 l517 l518=some o:=h
  unfold Zaj at h
  refine sq (sq ?_)
  refine rgS ⟨[(1,.loc 1 0),(2,.loc 2 0),(3,iv (w64 (1+(w64 ((Int.tmod a0_.Bridges 6)))))),(4,iv (w64 (2+(w64 ((Int.tmod a0_.Stations 5)))))),(5,.loc 5 0),(7,iv i515),(41,bv (decide (i515<(w64 (1+(w64 ((Int.tmod a0_.Bridges 6))))))))],[(1,(Zz a0_)),(2,[iv 0,s_eB true [],Zh true []]),(5,[iv i516,a512,a513])],H514⟩ Zb.f (by rcases hfa512 with ha512e | ⟨_,_,ha512e⟩<;>rcases hfa513 with ha513e | ⟨_,_,ha513e⟩<;>subst ha512e ha513e<;>kernel_rfl) ?_
  refine tq (it h (fun hc1022 h => ?_) (fun hc1022 h => ?_))
  ·refine sk (tq ?_)
   refine kq (sq ?_)
   refine bk ?_
   obtain ⟨r1023,hr1023,h⟩:=bs h
   have hl_a512:=HP.get hH 0 rfl
   have hl_a513:=HP.get hH 1 rfl
   obtain ⟨a1024,a1025,H1026,hvr1023,hpr1023⟩:=ZbR N a0_ (Zi.mk i516 l517 l518) (w64 (i515 - 1)) i515   a512 a513 H514 (HP.now (HP.pick hH [0,1] rfl)) r1023 hr1023
   replace hH:HP H1026 [.arr a1024 1 true (List.map eB r1023.Station),.arr a1025 4 true (List.map Zp r1023.Links)]:=HP.callee (fp:=[.arr a512 1 true (List.map eB l517),.arr a513 4 true (List.map Zp l518)]) (rest:=[]) (HP.pick hH [0,1] rfl) hpr1023
   have hfa1024:=Zu (HP.get hH 0 rfl)
   have hfa1025:=Zu (HP.get hH 1 rfl)
   refine rgS ⟨[(1,.loc 1 0),(2,.loc 2 0),(3,iv (w64 (1+(w64 ((Int.tmod a0_.Bridges 6)))))),(4,iv (w64 (2+(w64 ((Int.tmod a0_.Stations 5)))))),(5,.loc 5 0),(7,iv i515)],[(1,(Zz a0_)),(2,[iv 0,s_eB true [],Zh true []]),(5,[iv r1023.Nodes,a1024,a1025])],H1026⟩ (Zb.v (hm:=(by rcases hfa512 with ha512e | ⟨_,_,ha512e⟩<;>rcases hfa513 with ha513e | ⟨_,_,ha513e⟩<;>subst ha512e ha513e<;>kernel_rfl)) 5 (Zhh (H:=H514) (ys:=[.agg (Zz a0_),.agg [iv i516,a512,a513],iv (w64 (i515 - 1)),iv i515]) (by rcases hfa512 with ha512e | ⟨_,_,ha512e⟩<;>rcases hfa513 with ha513e | ⟨_,_,ha513e⟩<;>subst ha512e ha513e<;>kernel_rfl) (by rcases hfa512 with ha512e | ⟨_,_,ha512e⟩<;>rcases hfa513 with ha513e | ⟨_,_,ha513e⟩<;>subst ha512e ha513e<;>kernel_rfl) [[],[false,true,true],[],[]] (ZaC (ZbS rfl) (ZaC (Zgf (Zbi (Zgg rfl) (Zbi (Zdc (Zdd hl_a512)) (Zbi (Zdc (Zdd hl_a513)) passC_nil')))) (ZaC (ZbS rfl) (ZaC (ZbS rfl) passL_nil')))) hvr1023) (Zb.f (h:=(by rcases hfa1024 with ha1024e | ⟨_,_,ha1024e⟩<;>rcases hfa1025 with ha1025e | ⟨_,_,ha1025e⟩<;>rcases hfa512 with ha512e | ⟨_,_,ha512e⟩<;>rcases hfa513 with ha513e | ⟨_,_,ha513e⟩<;>subst ha1024e ha1025e ha512e ha513e<;>kernel_rfl)))) (by rcases hfa1024 with ha1024e | ⟨_,_,ha1024e⟩<;>rcases hfa1025 with ha1025e | ⟨_,_,ha1025e⟩<;>rcases hfa512 with ha512e | ⟨_,_,ha512e⟩<;>rcases hfa513 with ha513e | ⟨_,_,ha513e⟩<;>subst ha1024e ha1025e ha512e ha513e<;>kernel_rfl) ?_
   refine bn (tq ?_)
   refine rgS ⟨[(1,.loc 1 0),(2,.loc 2 0),(3,iv (w64 (1+(w64 ((Int.tmod a0_.Bridges 6)))))),(4,iv (w64 (2+(w64 ((Int.tmod a0_.Stations 5)))))),(5,.loc 5 0),(7,iv (w64 (i515+1)))],[(1,(Zz a0_)),(2,[iv 0,s_eB true [],Zh true []]),(5,[iv r1023.Nodes,a1024,a1025])],H1026⟩ Zb.f (by rcases hfa1024 with ha1024e | ⟨_,_,ha1024e⟩<;>rcases hfa1025 with ha1025e | ⟨_,_,ha1025e⟩<;>subst ha1024e ha1025e<;>kernel_rfl) ?_
   obtain rfl:=Zc h
   exact ⟨_,rfl,⟨a1024,a1025,H1026,(by show _=_;rcases hfa1024 with ha1024e | ⟨_,_,ha1024e⟩<;>rcases hfa1025 with ha1025e | ⟨_,_,ha1025e⟩<;>subst ha1024e ha1025e<;>kernel_rfl),(HP.pick hH [0,1] rfl)⟩⟩
  refine kq (xq ?_)
  refine tx ?_
  obtain rfl:=Zc h
  exact ⟨_,rfl,rfl,⟨a512,a513,H514,(by show _=_;rcases hfa512 with ha512e | ⟨_,_,ha512e⟩<;>rcases hfa513 with ha513e | ⟨_,_,ha513e⟩<;>subst ha512e ha513e<;>kernel_rfl),(HP.pick hH [0,1] rfl)⟩⟩
 rintro e s hq
 obtain ⟨rfl,hR⟩:=hq
 obtain ⟨a1019,a1020,H1021,rfl,hH⟩:=hR
 replace hH:HP H1021 [.arr a1019 1 true (List.map eB o1027.2.1),.arr a1020 4 true (List.map Zp o1027.2.2)]:=hH
 have hfa1019:=Zu (HP.get hH 0 rfl)
 have hfa1020:=Zu (HP.get hH 1 rfl)
 refine bx (tq ?_)
 refine sq (sq ?_)
 refine rgS ⟨[(1,.loc 1 0),(2,.loc 2 0),(3,iv (w64 (1+(w64 ((Int.tmod a0_.Bridges 6)))))),(4,iv (w64 (2+(w64 ((Int.tmod a0_.Stations 5)))))),(5,.loc 5 0),(8,iv 0)],[(1,(Zz a0_)),(2,[iv 0,s_eB true [],Zh true []]),(5,[iv o1027.1,a1019,a1020])],H1021⟩ Zb.f (by rcases hfa1019 with ha1019e | ⟨_,_,ha1019e⟩<;>rcases hfa1020 with ha1020e | ⟨_,_,ha1020e⟩<;>subst ha1019e ha1020e<;>kernel_rfl) ?_
 refine tq (bk ?_)
 obtain ⟨o1545,ho1545,h⟩:=bs h
 refine Z8 ((ZT (fun (x:Int × Int × (List Bool) × (List Zy)) s=>∃ (a1028:AV) (a1029:AV) (H1030:List HO),s=⟨[(1,.loc 1 0),(2,.loc 2 0),(3,iv (w64 (1+(w64 ((Int.tmod a0_.Bridges 6)))))),(4,iv (w64 (2+(w64 ((Int.tmod a0_.Stations 5)))))),(5,.loc 5 0),(8,iv x.1)],[(1,(Zz a0_)),(2,[iv 0,s_eB true [],Zh true []]),(5,[iv x.2.1,a1028,a1029])],H1030⟩∧HP H1030 [.arr a1028 1 true (List.map eB x.2.2.1),.arr a1029 4 true (List.map Zp x.2.2.2)]) (fun x:Int × Int × (List Bool) × (List Zy)=>Zai N a0_ x.1 x.2.1 x.2.2.1 x.2.2.2) (fun (p:Int × (List Bool) × (List Zy)) e s=>e = .exit 4∧(∃ (a1535:AV) (a1536:AV) (H1537:List HO),s=⟨[(1,.loc 1 0),(2,.loc 2 0),(3,iv (w64 (1+(w64 ((Int.tmod a0_.Bridges 6)))))),(4,iv (w64 (2+(w64 ((Int.tmod a0_.Stations 5)))))),(5,.loc 5 0)],[(1,(Zz a0_)),(2,[iv 0,s_eB true [],Zh true []]),(5,[iv p.1,a1535,a1536])],H1537⟩∧HP H1537 [.arr a1535 1 true (List.map eB p.2.1),.arr a1536 4 true (List.map Zp p.2.2)])) ?_ N _ o1545 _ ho1545 ⟨a1019,a1020,H1021,(by show _=_;rcases hfa1019 with ha1019e | ⟨_,_,ha1019e⟩<;>rcases hfa1020 with ha1020e | ⟨_,_,ha1020e⟩<;>subst ha1019e ha1020e<;>kernel_rfl),(HP.pick hH [0,1] rfl)⟩).mono ?_)
 ·clear h ho1545
  rintro ⟨i1031,i1032,l1033,l1034⟩ o s h hR
  obtain ⟨a1028,a1029,H1030,rfl,hH⟩:=hR
  replace hH:HP H1030 [.arr a1028 1 true (List.map eB l1033),.arr a1029 4 true (List.map Zp l1034)]:=hH
  have hfa1028:=Zu (HP.get hH 0 rfl)
  have hfa1029:=Zu (HP.get hH 1 rfl)
  replace h:Zai N a0_ i1031 i1032 l1033 l1034=some o:=h
  unfold Zai at h
  refine sq (sq ?_)
  refine rgS ⟨[(1,.loc 1 0),(2,.loc 2 0),(3,iv (w64 (1+(w64 ((Int.tmod a0_.Bridges 6)))))),(4,iv (w64 (2+(w64 ((Int.tmod a0_.Stations 5)))))),(5,.loc 5 0),(8,iv i1031),(52,bv (decide (i1031<(w64 (2+(w64 ((Int.tmod a0_.Stations 5))))))))],[(1,(Zz a0_)),(2,[iv 0,s_eB true [],Zh true []]),(5,[iv i1032,a1028,a1029])],H1030⟩ Zb.f (by rcases hfa1028 with ha1028e | ⟨_,_,ha1028e⟩<;>rcases hfa1029 with ha1029e | ⟨_,_,ha1029e⟩<;>subst ha1028e ha1029e<;>kernel_rfl) ?_
  refine tq (it h (fun hc1538 h => ?_) (fun hc1538 h => ?_))
  ·refine sk (tq ?_)
   refine kq (sq ?_)
   refine bk ?_
   obtain ⟨r1539,hr1539,h⟩:=bs h
   obtain ⟨m1540,hm1540,h⟩:=bs h
   obtain ⟨r1541,hr1541,h⟩:=bs h
   have hl_a1028:=HP.get hH 0 rfl
   have hl_a1029:=HP.get hH 1 rfl
   obtain ⟨a1542,a1543,H1544,hvr1541,hpr1541⟩:=ZbR N a0_ (Zi.mk i1032 l1033 l1034) (w64 ((w64 (1+(w64 ((Int.tmod a0_.Bridges 6)))))+i1031)) m1540   a1028 a1029 H1030 (HP.now (HP.pick hH [0,1] rfl)) r1541 hr1541
   replace hH:HP H1544 [.arr a1542 1 true (List.map eB r1541.Station),.arr a1543 4 true (List.map Zp r1541.Links)]:=HP.callee (fp:=[.arr a1028 1 true (List.map eB l1033),.arr a1029 4 true (List.map Zp l1034)]) (rest:=[]) (HP.pick hH [0,1] rfl) hpr1541
   have hfa1542:=Zu (HP.get hH 0 rfl)
   have hfa1543:=Zu (HP.get hH 1 rfl)
   refine rqS ⟨[(1,.loc 1 0),(2,.loc 2 0),(3,iv (w64 (1+(w64 ((Int.tmod a0_.Bridges 6)))))),(4,iv (w64 (2+(w64 ((Int.tmod a0_.Stations 5)))))),(5,.loc 5 0),(8,iv i1031)],[(1,(Zz a0_)),(2,[iv 0,s_eB true [],Zh true []]),(5,[iv r1541.Nodes,a1542,a1543])],H1544⟩ (Zb.u (hm:=(by rcases hfa1028 with ha1028e | ⟨_,_,ha1028e⟩<;>rcases hfa1029 with ha1029e | ⟨_,_,ha1029e⟩<;>subst ha1028e ha1029e<;>kernel_rfl)) 9 (Zaw (by rcases hfa1028 with ha1028e | ⟨_,_,ha1028e⟩<;>rcases hfa1029 with ha1029e | ⟨_,_,ha1029e⟩<;>subst ha1028e ha1029e<;>kernel_rfl) (ZdC N a0_.Homes (w64 (2 * i1031)) r1539 hr1539)) (Zb.u (hm:=(by rcases hfa1028 with ha1028e | ⟨_,_,ha1028e⟩<;>rcases hfa1029 with ha1029e | ⟨_,_,ha1029e⟩<;>subst ha1028e ha1029e<;>kernel_rfl)) 1 (Zo (ys:=[iv r1539,iv (w64 (1+(w64 ((Int.tmod a0_.Bridges 6)))))]) (by rcases hfa1028 with ha1028e | ⟨_,_,ha1028e⟩<;>rcases hfa1029 with ha1029e | ⟨_,_,ha1029e⟩<;>subst ha1028e ha1029e<;>kernel_rfl) (Zdt hm1540)) (Zb.v (hm:=(by rcases hfa1028 with ha1028e | ⟨_,_,ha1028e⟩<;>rcases hfa1029 with ha1029e | ⟨_,_,ha1029e⟩<;>subst ha1028e ha1029e<;>kernel_rfl)) 0 (Zhh (H:=H1030) (ys:=[.agg (Zz a0_),.agg [iv i1032,a1028,a1029],iv (w64 ((w64 (1+(w64 ((Int.tmod a0_.Bridges 6)))))+i1031)),iv m1540]) (by rcases hfa1028 with ha1028e | ⟨_,_,ha1028e⟩<;>rcases hfa1029 with ha1029e | ⟨_,_,ha1029e⟩<;>subst ha1028e ha1029e<;>kernel_rfl) (by rcases hfa1028 with ha1028e | ⟨_,_,ha1028e⟩<;>rcases hfa1029 with ha1029e | ⟨_,_,ha1029e⟩<;>subst ha1028e ha1029e<;>kernel_rfl) [[],[false,true,true],[],[]] (ZaC (ZbS rfl) (ZaC (Zgf (Zbi (Zgg rfl) (Zbi (Zdc (Zdd hl_a1028)) (Zbi (Zdc (Zdd hl_a1029)) passC_nil')))) (ZaC (ZbS rfl) (ZaC (ZbS rfl) passL_nil')))) hvr1541) (Zb.f (h:=(by rcases hfa1028 with ha1028e | ⟨_,_,ha1028e⟩<;>rcases hfa1029 with ha1029e | ⟨_,_,ha1029e⟩<;>rcases hfa1542 with ha1542e | ⟨_,_,ha1542e⟩<;>rcases hfa1543 with ha1543e | ⟨_,_,ha1543e⟩<;>subst ha1028e ha1029e ha1542e ha1543e<;>kernel_rfl)))))) (by rcases hfa1028 with ha1028e | ⟨_,_,ha1028e⟩<;>rcases hfa1029 with ha1029e | ⟨_,_,ha1029e⟩<;>rcases hfa1542 with ha1542e | ⟨_,_,ha1542e⟩<;>rcases hfa1543 with ha1543e | ⟨_,_,ha1543e⟩<;>subst ha1028e ha1029e ha1542e ha1543e<;>kernel_rfl) ?_
   refine bn (tq ?_)
   refine rgS ⟨[(1,.loc 1 0),(2,.loc 2 0),(3,iv (w64 (1+(w64 ((Int.tmod a0_.Bridges 6)))))),(4,iv (w64 (2+(w64 ((Int.tmod a0_.Stations 5)))))),(5,.loc 5 0),(8,iv (w64 (i1031+1)))],[(1,(Zz a0_)),(2,[iv 0,s_eB true [],Zh true []]),(5,[iv r1541.Nodes,a1542,a1543])],H1544⟩ Zb.f (by rcases hfa1542 with ha1542e | ⟨_,_,ha1542e⟩<;>rcases hfa1543 with ha1543e | ⟨_,_,ha1543e⟩<;>subst ha1542e ha1543e<;>kernel_rfl) ?_
   obtain rfl:=Zc h
   exact ⟨_,rfl,⟨a1542,a1543,H1544,(by show _=_;rcases hfa1542 with ha1542e | ⟨_,_,ha1542e⟩<;>rcases hfa1543 with ha1543e | ⟨_,_,ha1543e⟩<;>subst ha1542e ha1543e<;>kernel_rfl),(HP.pick hH [0,1] rfl)⟩⟩
  refine kq (xq ?_)
  refine tx ?_
  obtain rfl:=Zc h
  exact ⟨_,rfl,rfl,⟨a1028,a1029,H1030,(by show _=_;rcases hfa1028 with ha1028e | ⟨_,_,ha1028e⟩<;>rcases hfa1029 with ha1029e | ⟨_,_,ha1029e⟩<;>subst ha1028e ha1029e<;>kernel_rfl),(HP.pick hH [0,1] rfl)⟩⟩
 rintro e s hq
 obtain ⟨rfl,hR⟩:=hq
 obtain ⟨a1535,a1536,H1537,rfl,hH⟩:=hR
 replace hH:HP H1537 [.arr a1535 1 true (List.map eB o1545.2.1),.arr a1536 4 true (List.map Zp o1545.2.2)]:=hH
 have hfa1535:=Zu (HP.get hH 0 rfl)
 have hfa1536:=Zu (HP.get hH 1 rfl)
 refine bx (tq ?_)
 obtain ⟨j2049,hj2049,h⟩:=bs h
 refine Zcu [1,2,3,4,5] (fun s=>∃ (a2046:AV) (a2047:AV) (H2048:List HO),s=⟨[(1,.loc 1 0),(2,.loc 2 0),(3,iv (w64 (1+(w64 ((Int.tmod a0_.Bridges 6)))))),(4,iv (w64 (2+(w64 ((Int.tmod a0_.Stations 5)))))),(5,.loc 5 0)],[(1,(Zz a0_)),(2,[iv 0,s_eB true [],Zh true []]),(5,[iv j2049.1,a2046,a2047])],H2048⟩∧HP H2048 [.arr a2046 1 true (List.map eB j2049.2.1),.arr a2047 4 true (List.map Zp j2049.2.2)]) ?_ ?_
 ·clear h
  have h:=hj2049
  refine sq (rgX ⟨[(1,.loc 1 0),(2,.loc 2 0),(3,iv (w64 (1+(w64 ((Int.tmod a0_.Bridges 6)))))),(4,iv (w64 (2+(w64 ((Int.tmod a0_.Stations 5)))))),(5,.loc 5 0),(75,bv ((decide ((w64 (1+(w64 ((Int.tmod a0_.Bridges 6))))) > 2))&&((Int.tmod a0_.Bridges 2)==0)))],[(1,(Zz a0_)),(2,[iv 0,s_eB true [],Zh true []]),(5,[iv o1545.1,a1535,a1536])],H1537⟩ ?_ ?_)
  ·rcases Bool.eq_false_or_eq_true (decide ((w64 (1+(w64 ((Int.tmod a0_.Bridges 6))))) > 2)) with hc2050 | hc2051
   ·exact (EP.u 1 (Zj (c:=(decide ((w64 (1+(w64 ((Int.tmod a0_.Bridges 6))))) > 2))) (h:=hc2050)) (EP.f (by simp only [hc2050];rcases hfa1535 with ha1535e | ⟨_,_,ha1535e⟩<;>rcases hfa1536 with ha1536e | ⟨_,_,ha1536e⟩<;>subst ha1535e ha1536e<;>kernel_rfl)))
   exact (EP.u 1 (Zj (c:=(decide ((w64 (1+(w64 ((Int.tmod a0_.Bridges 6))))) > 2))) (h:=hc2051)) (EP.f (by simp only [hc2051];rcases hfa1535 with ha1535e | ⟨_,_,ha1535e⟩<;>rcases hfa1536 with ha1536e | ⟨_,_,ha1536e⟩<;>subst ha1535e ha1536e<;>kernel_rfl)))
  refine tq (it h (fun hc2052 h => ?_) (fun hc2052 h => ?_))
  ·obtain ⟨r2053,hr2053,h⟩:=bs h
   have hl_a1535:=HP.get hH 0 rfl
   have hl_a1536:=HP.get hH 1 rfl
   obtain ⟨a2054,a2055,H2056,hvr2053,hpr2053⟩:=ZbR N a0_ (Zi.mk o1545.1 o1545.2.1 o1545.2.2) (w64 ((w64 (1+(w64 ((Int.tmod a0_.Bridges 6))))) - 1)) 0   a1535 a1536 H1537 (HP.now (HP.pick hH [0,1] rfl)) r2053 hr2053
   replace hH:HP H2056 [.arr a2054 1 true (List.map eB r2053.Station),.arr a2055 4 true (List.map Zp r2053.Links)]:=HP.callee (fp:=[.arr a1535 1 true (List.map eB o1545.2.1),.arr a1536 4 true (List.map Zp o1545.2.2)]) (rest:=[]) (HP.pick hH [0,1] rfl) hpr2053
   have hfa2054:=Zu (HP.get hH 0 rfl)
   have hfa2055:=Zu (HP.get hH 1 rfl)
   refine rgS ⟨[(1,.loc 1 0),(2,.loc 2 0),(3,iv (w64 (1+(w64 ((Int.tmod a0_.Bridges 6)))))),(4,iv (w64 (2+(w64 ((Int.tmod a0_.Stations 5)))))),(5,.loc 5 0)],[(1,(Zz a0_)),(2,[iv 0,s_eB true [],Zh true []]),(5,[iv r2053.Nodes,a2054,a2055])],H2056⟩ (Zb.v (hm:=(by rcases hfa1535 with ha1535e | ⟨_,_,ha1535e⟩<;>rcases hfa1536 with ha1536e | ⟨_,_,ha1536e⟩<;>subst ha1535e ha1536e<;>kernel_rfl)) 4 (Zhh (H:=H1537) (ys:=[.agg (Zz a0_),.agg [iv o1545.1,a1535,a1536],iv (w64 ((w64 (1+(w64 ((Int.tmod a0_.Bridges 6))))) - 1)),iv 0]) (by rcases hfa1535 with ha1535e | ⟨_,_,ha1535e⟩<;>rcases hfa1536 with ha1536e | ⟨_,_,ha1536e⟩<;>subst ha1535e ha1536e<;>kernel_rfl) (by rcases hfa1535 with ha1535e | ⟨_,_,ha1535e⟩<;>rcases hfa1536 with ha1536e | ⟨_,_,ha1536e⟩<;>subst ha1535e ha1536e<;>kernel_rfl) [[],[false,true,true],[],[]] (ZaC (ZbS rfl) (ZaC (Zgf (Zbi (Zgg rfl) (Zbi (Zdc (Zdd hl_a1535)) (Zbi (Zdc (Zdd hl_a1536)) passC_nil')))) (ZaC (ZbS rfl) (ZaC (ZbS rfl) passL_nil')))) hvr2053) (Zb.f (h:=(by rcases hfa1535 with ha1535e | ⟨_,_,ha1535e⟩<;>rcases hfa1536 with ha1536e | ⟨_,_,ha1536e⟩<;>rcases hfa2054 with ha2054e | ⟨_,_,ha2054e⟩<;>rcases hfa2055 with ha2055e | ⟨_,_,ha2055e⟩<;>subst ha1535e ha1536e ha2054e ha2055e<;>kernel_rfl)))) (by rcases hfa1535 with ha1535e | ⟨_,_,ha1535e⟩<;>rcases hfa1536 with ha1536e | ⟨_,_,ha1536e⟩<;>rcases hfa2054 with ha2054e | ⟨_,_,ha2054e⟩<;>rcases hfa2055 with ha2055e | ⟨_,_,ha2055e⟩<;>subst ha1535e ha1536e ha2054e ha2055e<;>kernel_rfl) ?_
   obtain rfl:=Zc h
   exact ⟨rfl,⟨a2054,a2055,H2056,(by show _=_;rcases hfa2054 with ha2054e | ⟨_,_,ha2054e⟩<;>rcases hfa2055 with ha2055e | ⟨_,_,ha2055e⟩<;>subst ha2054e ha2055e<;>kernel_rfl),(HP.pick hH [0,1] rfl)⟩⟩
  refine sk ?_
  obtain rfl:=Zc h
  exact ⟨rfl,⟨a1535,a1536,H1537,(by show _=_;rcases hfa1535 with ha1535e | ⟨_,_,ha1535e⟩<;>rcases hfa1536 with ha1536e | ⟨_,_,ha1536e⟩<;>subst ha1535e ha1536e<;>kernel_rfl),(HP.pick hH [0,1] rfl)⟩⟩
 clear hj2049
 rintro s hR
 obtain ⟨a2046,a2047,H2048,rfl,hH⟩:=hR
 replace hH:HP H2048 [.arr a2046 1 true (List.map eB j2049.2.1),.arr a2047 4 true (List.map Zp j2049.2.2)]:=hH
 have hfa2046:=Zu (HP.get hH 0 rfl)
 have hfa2047:=Zu (HP.get hH 1 rfl)
 refine sq (sq ?_)
 refine rgS ⟨[(1,.loc 1 0),(2,.loc 2 0),(3,iv (w64 (1+(w64 ((Int.tmod a0_.Bridges 6)))))),(4,iv (w64 (2+(w64 ((Int.tmod a0_.Stations 5)))))),(5,.loc 5 0),(9,iv 0)],[(1,(Zz a0_)),(2,[iv 0,s_eB true [],Zh true []]),(5,[iv j2049.1,a2046,a2047])],H2048⟩ Zb.f (by rcases hfa2046 with ha2046e | ⟨_,_,ha2046e⟩<;>rcases hfa2047 with ha2047e | ⟨_,_,ha2047e⟩<;>subst ha2046e ha2047e<;>kernel_rfl) ?_
 refine tq (bk ?_)
 obtain ⟨o3080,ho3080,h⟩:=bs h
 refine Z8 ((ZT (fun (x:Int × Int × (List Bool) × (List Zy)) s=>∃ (a2057:AV) (a2058:AV) (H2059:List HO),s=⟨[(1,.loc 1 0),(2,.loc 2 0),(3,iv (w64 (1+(w64 ((Int.tmod a0_.Bridges 6)))))),(4,iv (w64 (2+(w64 ((Int.tmod a0_.Stations 5)))))),(5,.loc 5 0),(9,iv x.1)],[(1,(Zz a0_)),(2,[iv 0,s_eB true [],Zh true []]),(5,[iv x.2.1,a2057,a2058])],H2059⟩∧HP H2059 [.arr a2057 1 true (List.map eB x.2.2.1),.arr a2058 4 true (List.map Zp x.2.2.2)]) (fun x:Int × Int × (List Bool) × (List Zy)=>Z2 N a0_ x.1 x.2.1 x.2.2.1 x.2.2.2) (fun (p:Int × (List Bool) × (List Zy)) e s=>e = .exit 6∧(∃ (a2564:AV) (a2565:AV) (H2566:List HO),s=⟨[(1,.loc 1 0),(2,.loc 2 0),(3,iv (w64 (1+(w64 ((Int.tmod a0_.Bridges 6)))))),(5,.loc 5 0)],[(1,(Zz a0_)),(2,[iv 0,s_eB true [],Zh true []]),(5,[iv p.1,a2564,a2565])],H2566⟩∧HP H2566 [.arr a2564 1 true (List.map eB p.2.1),.arr a2565 4 true (List.map Zp p.2.2)])) ?_ N _ o3080 _ ho3080 ⟨a2046,a2047,H2048,(by show _=_;rcases hfa2046 with ha2046e | ⟨_,_,ha2046e⟩<;>rcases hfa2047 with ha2047e | ⟨_,_,ha2047e⟩<;>subst ha2046e ha2047e<;>kernel_rfl),(HP.pick hH [0,1] rfl)⟩).mono ?_)
 ·clear h ho3080
  rintro ⟨i2060,i2061,l2062,l2063⟩ o s h hR
  obtain ⟨a2057,a2058,H2059,rfl,hH⟩:=hR
  replace hH:HP H2059 [.arr a2057 1 true (List.map eB l2062),.arr a2058 4 true (List.map Zp l2063)]:=hH
  have hfa2057:=Zu (HP.get hH 0 rfl)
  have hfa2058:=Zu (HP.get hH 1 rfl)
  replace h:Z2 N a0_ i2060 i2061 l2062 l2063=some o:=h
  unfold Z2 at h
  refine sq (sq ?_)
  refine rgS ⟨[(1,.loc 1 0),(2,.loc 2 0),(3,iv (w64 (1+(w64 ((Int.tmod a0_.Bridges 6)))))),(4,iv (w64 (2+(w64 ((Int.tmod a0_.Stations 5)))))),(5,.loc 5 0),(9,iv i2060),(83,bv (decide (i2060<(w64 (2+(w64 ((Int.tmod a0_.Stations 5))))))))],[(1,(Zz a0_)),(2,[iv 0,s_eB true [],Zh true []]),(5,[iv i2061,a2057,a2058])],H2059⟩ Zb.f (by rcases hfa2057 with ha2057e | ⟨_,_,ha2057e⟩<;>rcases hfa2058 with ha2058e | ⟨_,_,ha2058e⟩<;>subst ha2057e ha2058e<;>kernel_rfl) ?_
  refine tq (it h (fun hc2567 h => ?_) (fun hc2567 h => ?_))
  ·refine sk (tq ?_)
   refine kq ?_
   obtain ⟨j3071,hj3071,h⟩:=bs h
   refine Zcu [1,2,3,4,5,9] (fun s=>∃ (a3068:AV) (a3069:AV) (H3070:List HO),s=⟨[(1,.loc 1 0),(2,.loc 2 0),(3,iv (w64 (1+(w64 ((Int.tmod a0_.Bridges 6)))))),(4,iv (w64 (2+(w64 ((Int.tmod a0_.Stations 5)))))),(5,.loc 5 0),(9,iv i2060)],[(1,(Zz a0_)),(2,[iv 0,s_eB true [],Zh true []]),(5,[iv j3071.1,a3068,a3069])],H3070⟩∧HP H3070 [.arr a3068 1 true (List.map eB j3071.2.1),.arr a3069 4 true (List.map Zp j3071.2.2)]) ?_ ?_
   ·clear h
    have h:=hj3071
    refine bk (sq ?_)
    obtain ⟨r3072,hr3072,h⟩:=bs h
    refine rgS ⟨[(1,.loc 1 0),(2,.loc 2 0),(3,iv (w64 (1+(w64 ((Int.tmod a0_.Bridges 6)))))),(4,iv (w64 (2+(w64 ((Int.tmod a0_.Stations 5)))))),(5,.loc 5 0),(9,iv i2060),(93,bv (decide ((Int.tmod r3072 3) > 0)))],[(1,(Zz a0_)),(2,[iv 0,s_eB true [],Zh true []]),(5,[iv i2061,a2057,a2058])],H2059⟩ (Zb.v 5 (Zs (hc:=ZdC N a0_.Homes (w64 ((w64 (2 * i2060))+1)) r3072 hr3072)) Zb.f) (by rcases hfa2057 with ha2057e | ⟨_,_,ha2057e⟩<;>rcases hfa2058 with ha2058e | ⟨_,_,ha2058e⟩<;>subst ha2057e ha2058e<;>kernel_rfl) ?_
    refine tq (it h (fun hc3073 h => ?_) (fun hc3073 h => ?_))
    ·obtain ⟨r3074,hr3074,h⟩:=bs h
     obtain ⟨m3075,hm3075,h⟩:=bs h
     obtain ⟨r3076,hr3076,h⟩:=bs h
     have hl_a2057:=HP.get hH 0 rfl
     have hl_a2058:=HP.get hH 1 rfl
     obtain ⟨a3077,a3078,H3079,hvr3076,hpr3076⟩:=ZbR N a0_ (Zi.mk i2061 l2062 l2063) (w64 ((w64 (1+(w64 ((Int.tmod a0_.Bridges 6)))))+i2060)) m3075   a2057 a2058 H2059 (HP.now (HP.pick hH [0,1] rfl)) r3076 hr3076
     replace hH:HP H3079 [.arr a3077 1 true (List.map eB r3076.Station),.arr a3078 4 true (List.map Zp r3076.Links)]:=HP.callee (fp:=[.arr a2057 1 true (List.map eB l2062),.arr a2058 4 true (List.map Zp l2063)]) (rest:=[]) (HP.pick hH [0,1] rfl) hpr3076
     have hfa3077:=Zu (HP.get hH 0 rfl)
     have hfa3078:=Zu (HP.get hH 1 rfl)
     refine rqS ⟨[(1,.loc 1 0),(2,.loc 2 0),(3,iv (w64 (1+(w64 ((Int.tmod a0_.Bridges 6)))))),(4,iv (w64 (2+(w64 ((Int.tmod a0_.Stations 5)))))),(5,.loc 5 0),(9,iv i2060)],[(1,(Zz a0_)),(2,[iv 0,s_eB true [],Zh true []]),(5,[iv r3076.Nodes,a3077,a3078])],H3079⟩ (Zb.u (hm:=(by rcases hfa2057 with ha2057e | ⟨_,_,ha2057e⟩<;>rcases hfa2058 with ha2058e | ⟨_,_,ha2058e⟩<;>subst ha2057e ha2058e<;>kernel_rfl)) 10 (Zaw (by rcases hfa2057 with ha2057e | ⟨_,_,ha2057e⟩<;>rcases hfa2058 with ha2058e | ⟨_,_,ha2058e⟩<;>subst ha2057e ha2058e<;>kernel_rfl) (ZdC N a0_.Homes (w64 ((w64 (2 * i2060))+1)) r3074 hr3074)) (Zb.u (hm:=(by rcases hfa2057 with ha2057e | ⟨_,_,ha2057e⟩<;>rcases hfa2058 with ha2058e | ⟨_,_,ha2058e⟩<;>subst ha2057e ha2058e<;>kernel_rfl)) 1 (Zo (ys:=[iv r3074,iv (w64 (1+(w64 ((Int.tmod a0_.Bridges 6)))))]) (by rcases hfa2057 with ha2057e | ⟨_,_,ha2057e⟩<;>rcases hfa2058 with ha2058e | ⟨_,_,ha2058e⟩<;>subst ha2057e ha2058e<;>kernel_rfl) (Zdt hm3075)) (Zb.v (hm:=(by rcases hfa2057 with ha2057e | ⟨_,_,ha2057e⟩<;>rcases hfa2058 with ha2058e | ⟨_,_,ha2058e⟩<;>subst ha2057e ha2058e<;>kernel_rfl)) 0 (Zhh (H:=H2059) (ys:=[.agg (Zz a0_),.agg [iv i2061,a2057,a2058],iv (w64 ((w64 (1+(w64 ((Int.tmod a0_.Bridges 6)))))+i2060)),iv m3075]) (by rcases hfa2057 with ha2057e | ⟨_,_,ha2057e⟩<;>rcases hfa2058 with ha2058e | ⟨_,_,ha2058e⟩<;>subst ha2057e ha2058e<;>kernel_rfl) (by rcases hfa2057 with ha2057e | ⟨_,_,ha2057e⟩<;>rcases hfa2058 with ha2058e | ⟨_,_,ha2058e⟩<;>subst ha2057e ha2058e<;>kernel_rfl) [[],[false,true,true],[],[]] (ZaC (ZbS rfl) (ZaC (Zgf (Zbi (Zgg rfl) (Zbi (Zdc (Zdd hl_a2057)) (Zbi (Zdc (Zdd hl_a2058)) passC_nil')))) (ZaC (ZbS rfl) (ZaC (ZbS rfl) passL_nil')))) hvr3076) (Zb.f (h:=(by rcases hfa2057 with ha2057e | ⟨_,_,ha2057e⟩<;>rcases hfa2058 with ha2058e | ⟨_,_,ha2058e⟩<;>rcases hfa3077 with ha3077e | ⟨_,_,ha3077e⟩<;>rcases hfa3078 with ha3078e | ⟨_,_,ha3078e⟩<;>subst ha2057e ha2058e ha3077e ha3078e<;>kernel_rfl)))))) (by rcases hfa2057 with ha2057e | ⟨_,_,ha2057e⟩<;>rcases hfa2058 with ha2058e | ⟨_,_,ha2058e⟩<;>rcases hfa3077 with ha3077e | ⟨_,_,ha3077e⟩<;>rcases hfa3078 with ha3078e | ⟨_,_,ha3078e⟩<;>subst ha2057e ha2058e ha3077e ha3078e<;>kernel_rfl) ?_
     refine bn ?_
     obtain rfl:=Zc h
     exact ⟨rfl,⟨a3077,a3078,H3079,(by show _=_;rcases hfa3077 with ha3077e | ⟨_,_,ha3077e⟩<;>rcases hfa3078 with ha3078e | ⟨_,_,ha3078e⟩<;>subst ha3077e ha3078e<;>kernel_rfl),(HP.pick hH [0,1] rfl)⟩⟩
    refine sk (bn ?_)
    obtain rfl:=Zc h
    exact ⟨rfl,⟨a2057,a2058,H2059,(by show _=_;rcases hfa2057 with ha2057e | ⟨_,_,ha2057e⟩<;>rcases hfa2058 with ha2058e | ⟨_,_,ha2058e⟩<;>subst ha2057e ha2058e<;>kernel_rfl),(HP.pick hH [0,1] rfl)⟩⟩
   clear hj3071
   rintro s hR
   obtain ⟨a3068,a3069,H3070,rfl,hH⟩:=hR
   replace hH:HP H3070 [.arr a3068 1 true (List.map eB j3071.2.1),.arr a3069 4 true (List.map Zp j3071.2.2)]:=hH
   have hfa3068:=Zu (HP.get hH 0 rfl)
   have hfa3069:=Zu (HP.get hH 1 rfl)
   refine rgS ⟨[(1,.loc 1 0),(2,.loc 2 0),(3,iv (w64 (1+(w64 ((Int.tmod a0_.Bridges 6)))))),(4,iv (w64 (2+(w64 ((Int.tmod a0_.Stations 5)))))),(5,.loc 5 0),(9,iv (w64 (i2060+1)))],[(1,(Zz a0_)),(2,[iv 0,s_eB true [],Zh true []]),(5,[iv j3071.1,a3068,a3069])],H3070⟩ Zb.f (by rcases hfa3068 with ha3068e | ⟨_,_,ha3068e⟩<;>rcases hfa3069 with ha3069e | ⟨_,_,ha3069e⟩<;>subst ha3068e ha3069e<;>kernel_rfl) ?_
   obtain rfl:=Zc h
   exact ⟨_,rfl,⟨a3068,a3069,H3070,(by show _=_;rcases hfa3068 with ha3068e | ⟨_,_,ha3068e⟩<;>rcases hfa3069 with ha3069e | ⟨_,_,ha3069e⟩<;>subst ha3068e ha3069e<;>kernel_rfl),(HP.pick hH [0,1] rfl)⟩⟩
  refine kq (xq ?_)
  refine tx ?_
  obtain rfl:=Zc h
  exact ⟨_,rfl,rfl,⟨a2057,a2058,H2059,(by show _=_;rcases hfa2057 with ha2057e | ⟨_,_,ha2057e⟩<;>rcases hfa2058 with ha2058e | ⟨_,_,ha2058e⟩<;>subst ha2057e ha2058e<;>kernel_rfl),(HP.pick hH [0,1] rfl)⟩⟩
 rintro e s hq
 obtain ⟨rfl,hR⟩:=hq
 obtain ⟨a2564,a2565,H2566,rfl,hH⟩:=hR
 replace hH:HP H2566 [.arr a2564 1 true (List.map eB o3080.2.1),.arr a2565 4 true (List.map Zp o3080.2.2)]:=hH
 have hfa2564:=Zu (HP.get hH 0 rfl)
 have hfa2565:=Zu (HP.get hH 1 rfl)
 refine bx (tq ?_)
 refine sq (sq ?_)
 refine rgS ⟨[(1,.loc 1 0),(2,.loc 2 0),(3,iv (w64 (1+(w64 ((Int.tmod a0_.Bridges 6)))))),(5,.loc 5 0),(10,iv 0)],[(1,(Zz a0_)),(2,[iv 0,s_eB true [],Zh true []]),(5,[iv o3080.1,a2564,a2565])],H2566⟩ Zb.f (by rcases hfa2564 with ha2564e | ⟨_,_,ha2564e⟩<;>rcases hfa2565 with ha2565e | ⟨_,_,ha2565e⟩<;>subst ha2564e ha2565e<;>kernel_rfl) ?_
 refine tq (bk ?_)
 obtain ⟨o3602,ho3602,h⟩:=bs h
 refine Z8 ((ZT (fun (x:Int × Int × (List Bool) × (List Zy)) s=>∃ (a3081:AV) (a3082:AV) (H3083:List HO),s=⟨[(1,.loc 1 0),(2,.loc 2 0),(3,iv (w64 (1+(w64 ((Int.tmod a0_.Bridges 6)))))),(5,.loc 5 0),(10,iv x.1)],[(1,(Zz a0_)),(2,[iv 0,s_eB true [],Zh true []]),(5,[iv x.2.1,a3081,a3082])],H3083⟩∧HP H3083 [.arr a3081 1 true (List.map eB x.2.2.1),.arr a3082 4 true (List.map Zp x.2.2.2)]) (fun x:Int × Int × (List Bool) × (List Zy)=>Zat N a0_ x.1 x.2.1 x.2.2.1 x.2.2.2) (fun (p:Int × (List Bool) × (List Zy)) e s=>e = .exit 8∧(∃ (a3588:AV) (a3589:AV) (H3590:List HO),s=⟨[(2,.loc 2 0),(5,.loc 5 0)],[(2,[iv 0,s_eB true [],Zh true []]),(5,[iv p.1,a3588,a3589])],H3590⟩∧HP H3590 [.arr a3588 1 true (List.map eB p.2.1),.arr a3589 4 true (List.map Zp p.2.2)])) ?_ N _ o3602 _ ho3602 ⟨a2564,a2565,H2566,(by show _=_;rcases hfa2564 with ha2564e | ⟨_,_,ha2564e⟩<;>rcases hfa2565 with ha2565e | ⟨_,_,ha2565e⟩<;>subst ha2564e ha2565e<;>kernel_rfl),(HP.pick hH [0,1] rfl)⟩).mono ?_)
 ·clear h ho3602
  rintro ⟨i3084,i3085,l3086,l3087⟩ o s h hR
  obtain ⟨a3081,a3082,H3083,rfl,hH⟩:=hR
  replace hH:HP H3083 [.arr a3081 1 true (List.map eB l3086),.arr a3082 4 true (List.map Zp l3087)]:=hH
  have hfa3081:=Zu (HP.get hH 0 rfl)
  have hfa3082:=Zu (HP.get hH 1 rfl)
  replace h:Zat N a0_ i3084 i3085 l3086 l3087=some o:=h
  unfold Zat at h
  refine sq (sq ?_)
  refine rgX ⟨[(1,.loc 1 0),(2,.loc 2 0),(3,iv (w64 (1+(w64 ((Int.tmod a0_.Bridges 6)))))),(5,.loc 5 0),(10,iv i3084),(117,bv ((decide ((w64 (i3084+1))<((List.length a0_.Chords:Nat):Int)))&&(decide (i3084<12))))],[(1,(Zz a0_)),(2,[iv 0,s_eB true [],Zh true []]),(5,[iv i3085,a3081,a3082])],H3083⟩ ?_ ?_
  ·refine (EP.u 4 (Zo (ys:=[Zdz false a0_.Chords]) (h:=ZB (eI .u8))) ?_)
   rcases Bool.eq_false_or_eq_true (decide ((w64 (i3084+1))<((List.length a0_.Chords:Nat):Int))) with hc3591 | hc3592
   ·exact (EP.u 0 (Zj (c:=(decide ((w64 (i3084+1))<((List.length a0_.Chords:Nat):Int)))) (h:=hc3591)) (EP.f (by simp only [hc3591];rcases hfa3081 with ha3081e | ⟨_,_,ha3081e⟩<;>rcases hfa3082 with ha3082e | ⟨_,_,ha3082e⟩<;>subst ha3081e ha3082e<;>kernel_rfl)))
   exact (EP.u 0 (Zj (c:=(decide ((w64 (i3084+1))<((List.length a0_.Chords:Nat):Int)))) (h:=hc3592)) (EP.f (by simp only [hc3592];rcases hfa3081 with ha3081e | ⟨_,_,ha3081e⟩<;>rcases hfa3082 with ha3082e | ⟨_,_,ha3082e⟩<;>subst ha3081e ha3082e<;>kernel_rfl)))
  refine tq (it h (fun hc3593 h => ?_) (fun hc3593 h => ?_))
  ·refine sk (tq ?_)
   refine kq (sq ?_)
   refine bk ?_
   obtain ⟨e3594,he3594,h⟩:=bs h
   obtain ⟨m3595,hm3595,h⟩:=bs h
   obtain ⟨e3596,he3596,h⟩:=bs h
   obtain ⟨m3597,hm3597,h⟩:=bs h
   obtain ⟨r3598,hr3598,h⟩:=bs h
   have hl_a3081:=HP.get hH 0 rfl
   have hl_a3082:=HP.get hH 1 rfl
   obtain ⟨a3599,a3600,H3601,hvr3598,hpr3598⟩:=ZbR N a0_ (Zi.mk i3085 l3086 l3087) m3595 m3597   a3081 a3082 H3083 (HP.now (HP.pick hH [0,1] rfl)) r3598 hr3598
   replace hH:HP H3601 [.arr a3599 1 true (List.map eB r3598.Station),.arr a3600 4 true (List.map Zp r3598.Links)]:=HP.callee (fp:=[.arr a3081 1 true (List.map eB l3086),.arr a3082 4 true (List.map Zp l3087)]) (rest:=[]) (HP.pick hH [0,1] rfl) hpr3598
   have hfa3599:=Zu (HP.get hH 0 rfl)
   have hfa3600:=Zu (HP.get hH 1 rfl)
   refine rqS ⟨[(1,.loc 1 0),(2,.loc 2 0),(3,iv (w64 (1+(w64 ((Int.tmod a0_.Bridges 6)))))),(5,.loc 5 0),(10,iv i3084)],[(1,(Zz a0_)),(2,[iv 0,s_eB true [],Zh true []]),(5,[iv r3598.Nodes,a3599,a3600])],H3601⟩ (Zb.u (hm:=(by rcases hfa3081 with ha3081e | ⟨_,_,ha3081e⟩<;>rcases hfa3082 with ha3082e | ⟨_,_,ha3082e⟩<;>subst ha3081e ha3082e<;>kernel_rfl)) 5 (Zo (ys:=[Zdz false a0_.Chords,iv i3084]) (by rcases hfa3081 with ha3081e | ⟨_,_,ha3081e⟩<;>rcases hfa3082 with ha3082e | ⟨_,_,ha3082e⟩<;>subst ha3081e ha3082e<;>kernel_rfl) (Zg (eI .u8) he3594)) (Zb.u (hm:=(by rcases hfa3081 with ha3081e | ⟨_,_,ha3081e⟩<;>rcases hfa3082 with ha3082e | ⟨_,_,ha3082e⟩<;>subst ha3081e ha3082e<;>kernel_rfl)) 0 (Zw (Zq (sz:=1) (off:=0) (cs:=[.int .u8 e3594]) (r:=.p (.int .u8 e3594)) (eI .u8) he3594 (by rcases hfa3081 with ha3081e | ⟨_,_,ha3081e⟩<;>rcases hfa3082 with ha3082e | ⟨_,_,ha3082e⟩<;>subst ha3081e ha3082e<;>kernel_rfl) (by rcases hfa3081 with ha3081e | ⟨_,_,ha3081e⟩<;>rcases hfa3082 with ha3082e | ⟨_,_,ha3082e⟩<;>subst ha3081e ha3082e<;>kernel_rfl) (by rcases hfa3081 with ha3081e | ⟨_,_,ha3081e⟩<;>rcases hfa3082 with ha3082e | ⟨_,_,ha3082e⟩<;>subst ha3081e ha3082e<;>kernel_rfl)) (by rcases hfa3081 with ha3081e | ⟨_,_,ha3081e⟩<;>rcases hfa3082 with ha3082e | ⟨_,_,ha3082e⟩<;>subst ha3081e ha3082e<;>kernel_rfl)) (Zb.u (hm:=(by rcases hfa3081 with ha3081e | ⟨_,_,ha3081e⟩<;>rcases hfa3082 with ha3082e | ⟨_,_,ha3082e⟩<;>subst ha3081e ha3082e<;>kernel_rfl)) 2 (Zo (ys:=[iv (w64 (e3594)),iv (w64 (1+(w64 ((Int.tmod a0_.Bridges 6)))))]) (by rcases hfa3081 with ha3081e | ⟨_,_,ha3081e⟩<;>rcases hfa3082 with ha3082e | ⟨_,_,ha3082e⟩<;>subst ha3081e ha3082e<;>kernel_rfl) (Zdt hm3595)) (Zb.u (hm:=(by rcases hfa3081 with ha3081e | ⟨_,_,ha3081e⟩<;>rcases hfa3082 with ha3082e | ⟨_,_,ha3082e⟩<;>subst ha3081e ha3082e<;>kernel_rfl)) 4 (Zo (ys:=[Zdz false a0_.Chords,iv (w64 (i3084+1))]) (by rcases hfa3081 with ha3081e | ⟨_,_,ha3081e⟩<;>rcases hfa3082 with ha3082e | ⟨_,_,ha3082e⟩<;>subst ha3081e ha3082e<;>kernel_rfl) (Zg (eI .u8) he3596)) (Zb.u (hm:=(by rcases hfa3081 with ha3081e | ⟨_,_,ha3081e⟩<;>rcases hfa3082 with ha3082e | ⟨_,_,ha3082e⟩<;>subst ha3081e ha3082e<;>kernel_rfl)) 0 (Zw (Zq (sz:=1) (off:=0) (cs:=[.int .u8 e3596]) (r:=.p (.int .u8 e3596)) (eI .u8) he3596 (by rcases hfa3081 with ha3081e | ⟨_,_,ha3081e⟩<;>rcases hfa3082 with ha3082e | ⟨_,_,ha3082e⟩<;>subst ha3081e ha3082e<;>kernel_rfl) (by rcases hfa3081 with ha3081e | ⟨_,_,ha3081e⟩<;>rcases hfa3082 with ha3082e | ⟨_,_,ha3082e⟩<;>subst ha3081e ha3082e<;>kernel_rfl) (by rcases hfa3081 with ha3081e | ⟨_,_,ha3081e⟩<;>rcases hfa3082 with ha3082e | ⟨_,_,ha3082e⟩<;>subst ha3081e ha3082e<;>kernel_rfl)) (by rcases hfa3081 with ha3081e | ⟨_,_,ha3081e⟩<;>rcases hfa3082 with ha3082e | ⟨_,_,ha3082e⟩<;>subst ha3081e ha3082e<;>kernel_rfl)) (Zb.u (hm:=(by rcases hfa3081 with ha3081e | ⟨_,_,ha3081e⟩<;>rcases hfa3082 with ha3082e | ⟨_,_,ha3082e⟩<;>subst ha3081e ha3082e<;>kernel_rfl)) 2 (Zo (ys:=[iv (w64 (e3596)),iv (w64 (1+(w64 ((Int.tmod a0_.Bridges 6)))))]) (by rcases hfa3081 with ha3081e | ⟨_,_,ha3081e⟩<;>rcases hfa3082 with ha3082e | ⟨_,_,ha3082e⟩<;>subst ha3081e ha3082e<;>kernel_rfl) (Zdt hm3597)) (Zb.v (hm:=(by rcases hfa3081 with ha3081e | ⟨_,_,ha3081e⟩<;>rcases hfa3082 with ha3082e | ⟨_,_,ha3082e⟩<;>subst ha3081e ha3082e<;>kernel_rfl)) 0 (Zhh (H:=H3083) (ys:=[.agg (Zz a0_),.agg [iv i3085,a3081,a3082],iv m3595,iv m3597]) (by rcases hfa3081 with ha3081e | ⟨_,_,ha3081e⟩<;>rcases hfa3082 with ha3082e | ⟨_,_,ha3082e⟩<;>subst ha3081e ha3082e<;>kernel_rfl) (by rcases hfa3081 with ha3081e | ⟨_,_,ha3081e⟩<;>rcases hfa3082 with ha3082e | ⟨_,_,ha3082e⟩<;>subst ha3081e ha3082e<;>kernel_rfl) [[],[false,true,true],[],[]] (ZaC (ZbS rfl) (ZaC (Zgf (Zbi (Zgg rfl) (Zbi (Zdc (Zdd hl_a3081)) (Zbi (Zdc (Zdd hl_a3082)) passC_nil')))) (ZaC (ZbS rfl) (ZaC (ZbS rfl) passL_nil')))) hvr3598) (Zb.f (h:=(by rcases hfa3081 with ha3081e | ⟨_,_,ha3081e⟩<;>rcases hfa3082 with ha3082e | ⟨_,_,ha3082e⟩<;>rcases hfa3599 with ha3599e | ⟨_,_,ha3599e⟩<;>rcases hfa3600 with ha3600e | ⟨_,_,ha3600e⟩<;>subst ha3081e ha3082e ha3599e ha3600e<;>kernel_rfl)))))))))) (by rcases hfa3081 with ha3081e | ⟨_,_,ha3081e⟩<;>rcases hfa3082 with ha3082e | ⟨_,_,ha3082e⟩<;>rcases hfa3599 with ha3599e | ⟨_,_,ha3599e⟩<;>rcases hfa3600 with ha3600e | ⟨_,_,ha3600e⟩<;>subst ha3081e ha3082e ha3599e ha3600e<;>kernel_rfl) ?_
   refine bn (tq ?_)
   refine rgS ⟨[(1,.loc 1 0),(2,.loc 2 0),(3,iv (w64 (1+(w64 ((Int.tmod a0_.Bridges 6)))))),(5,.loc 5 0),(10,iv (w64 (i3084+2)))],[(1,(Zz a0_)),(2,[iv 0,s_eB true [],Zh true []]),(5,[iv r3598.Nodes,a3599,a3600])],H3601⟩ Zb.f (by rcases hfa3599 with ha3599e | ⟨_,_,ha3599e⟩<;>rcases hfa3600 with ha3600e | ⟨_,_,ha3600e⟩<;>subst ha3599e ha3600e<;>kernel_rfl) ?_
   obtain rfl:=Zc h
   exact ⟨_,rfl,⟨a3599,a3600,H3601,(by show _=_;rcases hfa3599 with ha3599e | ⟨_,_,ha3599e⟩<;>rcases hfa3600 with ha3600e | ⟨_,_,ha3600e⟩<;>subst ha3599e ha3600e<;>kernel_rfl),(HP.pick hH [0,1] rfl)⟩⟩
  refine kq (xq ?_)
  refine tx ?_
  obtain rfl:=Zc h
  exact ⟨_,rfl,rfl,⟨a3081,a3082,H3083,(by show _=_;rcases hfa3081 with ha3081e | ⟨_,_,ha3081e⟩<;>rcases hfa3082 with ha3082e | ⟨_,_,ha3082e⟩<;>subst ha3081e ha3082e<;>kernel_rfl),(HP.pick hH [0,1] rfl)⟩⟩
 rintro e s hq
 obtain ⟨rfl,hR⟩:=hq
 obtain ⟨a3588,a3589,H3590,rfl,hH⟩:=hR
 replace hH:HP H3590 [.arr a3588 1 true (List.map eB o3602.2.1),.arr a3589 4 true (List.map Zp o3602.2.2)]:=hH
 have hfa3588:=Zu (HP.get hH 0 rfl)
 have hfa3589:=Zu (HP.get hH 1 rfl)
 refine bx (tq ?_)
 refine sq (rgS ⟨[(2,.loc 2 0)],[(2,[iv o3602.1,a3588,a3589])],H3590⟩ (Zb.f (h:=(by rcases hfa3588 with ha3588e | ⟨_,_,ha3588e⟩<;>rcases hfa3589 with ha3589e | ⟨_,_,ha3589e⟩<;>subst ha3588e ha3589e<;>kernel_rfl))) (by rcases hfa3588 with ha3588e | ⟨_,_,ha3588e⟩<;>rcases hfa3589 with ha3589e | ⟨_,_,ha3589e⟩<;>subst ha3588e ha3589e<;>kernel_rfl) ?_)
 refine tq (rt ?_)
 obtain rfl:=Zc h
 exact ZdO (H:=H3590) (ys:=[.agg [iv o3602.1,a3588,a3589]]) (xs:=[.agg [iv o3602.1,.p (.sl 1 false (List.map eB o3602.2.1)),.p (.sl 4 false (List.map Zp o3602.2.2))]]) (by rcases hfa3588 with ha3588e | ⟨_,_,ha3588e⟩<;>rcases hfa3589 with ha3589e | ⟨_,_,ha3589e⟩<;>subst ha3588e ha3589e<;>kernel_rfl) (by rcases hfa3588 with ha3588e | ⟨_,_,ha3588e⟩<;>rcases hfa3589 with ha3589e | ⟨_,_,ha3589e⟩<;>subst ha3588e ha3589e<;>kernel_rfl) (ZaU (Zjj (Zbh rfl (Zbh (HP.pure (k:=0) (frz:=true) eB hH rfl).1 (Zbh (HP.pure (k:=1) (frz:=true) Zp hH rfl).1 Zjl)))) ZbM) (by kernel_rfl)
theorem Zhj (N:Nat) (a0_:Zi) (a1_:ZE) (a2_:Zm) (a3_:Int) (r:Int) (h:ZdP N a0_ a1_ a2_ a3_=some r):Zal Try.prog 34 [.agg (Za a0_),.agg (Zn a1_),.agg (Ze a2_),iv a3_] (iv r):=by
 unfold ZdP at h
 have hH:HP ([]:List HO) []:=trivial
 refine ZF chk34 rfl rfl (Zv _ _ _ ?_) rfl
 refine sq (rg Zb.f ?_)
 refine tq (sq ?_)
 refine sq ?_
 obtain ⟨r1,hr1,h⟩:=bs h
 refine rg (Zb.v 1 (Zs (hc:=Zka N a0_ r1 hr1)) Zb.f) (tq ?_)
 refine it h (fun hc2 h => ?_) (fun hc2 h => ?_)
 ·refine sq (rg Zb.f ?_)
  refine tq (rt ?_)
  refine tr ?_
  obtain rfl:=Zc h
  exact ZC (by kernel_rfl)
 refine sk (tq ?_)
 refine kq (sq ?_)
 refine sq ?_
 obtain ⟨r3,hr3,h⟩:=bs h
 refine rg (Zb.v 1 (Zs (hc:=Zj7 N a1_ r3 hr3)) Zb.f) (tq ?_)
 refine it h (fun hc4 h => ?_) (fun hc4 h => ?_)
 ·refine sq (rg Zb.f ?_)
  refine tq (rt ?_)
  refine tr ?_
  obtain rfl:=Zc h
  exact ZC (by kernel_rfl)
 refine sk (tq ?_)
 refine kq (sq ?_)
 refine sq ?_
 obtain ⟨r5,hr5,h⟩:=bs h
 refine rg (Zb.v 2 (Zs (hc:=ZgR N a0_ a2_ r5 hr5)) Zb.f) (tq ?_)
 refine it h (fun hc6 h => ?_) (fun hc6 h => ?_)
 ·refine sq (rg Zb.f ?_)
  refine tq (rt ?_)
  refine tr ?_
  obtain rfl:=Zc h
  exact ZC (by kernel_rfl)
 refine sk (tq ?_)
 refine kq (sq ?_)
 refine sq (rgX ⟨[(32,bv ((a2_.Class != 7)||((decide (a3_<0))||(decide (a3_ ≥ ((List.length a2_.Routes:Nat):Int))))))],[],[]⟩ ?_ ?_)
 ·rcases Bool.eq_false_or_eq_true (a2_.Class != 7) with hc7 | hc8
  ·exact (EP.u 2 (Zj (c:=(a2_.Class != 7)) (h:=hc7)) (EP.f (by simp only [hc7];kernel_rfl)))
  refine (EP.u 2 (Zj (c:=(a2_.Class != 7)) (h:=hc8)) ?_)
  rcases Bool.eq_false_or_eq_true (decide (a3_<0)) with hc9 | hc10
  ·exact (EP.u 2 (Zj (c:=(decide (a3_<0))) (h:=hc9)) (EP.f (by simp only [hc8,hc9];kernel_rfl)))
  exact (EP.u 2 (Zj (c:=(decide (a3_<0))) (h:=hc10)) (EP.u 5 (Zo (ys:=[Zl false a2_.Routes]) (h:=ZB (eSl 1 eI64))) (EP.f (by simp only [hc8,hc10];kernel_rfl))))
 refine tq (it h (fun hc11 h => ?_) (fun hc11 h => ?_))
 ·refine sq (rg Zb.f ?_)
  refine tq (rt ?_)
  refine tr ?_
  obtain rfl:=Zc h
  exact ZC (by kernel_rfl)
 refine sk (tq ?_)
 refine kq (sq ?_)
 refine rg Zb.f (tq ?_)
 refine rt ?_
 obtain rfl:=Zc h
 exact ZC (by kernel_rfl)
theorem Zgc (N:Nat) (a0_:ZaS) (a1_:Zi) (a2_:Int) (r:Zm × Bool) (h:Zb2 N a0_ a1_ a2_=some r):Zal Try.prog 37 [.agg (ZG a0_),.agg (Za a1_),iv a2_] (.tup [.agg [iv r.1.Id,iv r.1.Talker,iv r.1.Listener,iv r.1.Class,iv r.1.Size,iv r.1.Period,iv r.1.Bucket.Burst,iv r.1.Bucket.Rate,iv r.1.Deadline,Zl false r.1.Routes],bv r.2]):=by
 unfold Zb2 at h
 have hH:HP ([]:List HO) []:=trivial
 refine ZF chk37 rfl rfl (Zv _ _ _ ?_) rfl
 refine sq (rgS ⟨[(2,iv a2_),(3,.loc 3 0),(4,.loc 4 0),(6,.loc 6 0)],[(3,(ZG a0_)),(4,(Za a1_)),(6,[iv 0,iv 0,iv 0,iv 0,iv 0,iv 0,iv 0,iv 0,iv 0,Zl true []])],[]⟩ Zb.f (by kernel_rfl) ?_)
 refine tq (sq ?_)
 obtain ⟨m1,hm1,h⟩:=bs h
 refine rgS ⟨[(2,iv a2_),(3,.loc 3 0),(4,.loc 4 0),(6,.loc 6 0),(8,iv m1)],[(3,(ZG a0_)),(4,(Za a1_)),(6,[iv 0,iv 0,iv 0,iv 0,iv 0,iv 0,iv 0,iv 0,iv 0,Zl true []])],[]⟩ (Zb.u 5 (Zo (ys:=[iv (w64 (a0_.Node)),iv a1_.Nodes]) (h:=Zdt hm1)) Zb.f) (by kernel_rfl) ?_
 refine tq (sq ?_)
 refine sq (rgS ⟨[(2,iv a2_),(3,.loc 3 0),(4,.loc 4 0),(6,.loc 6 0),(8,iv m1),(9,iv 0)],[(3,(ZG a0_)),(4,(Za a1_)),(6,[iv 0,iv 0,iv 0,iv 0,iv 0,iv 0,iv 0,iv 0,iv 0,Zl true []])],[]⟩ Zb.f (by kernel_rfl) ?_)
 refine tq (bk ?_)
 obtain ⟨o510,ho510,h⟩:=bs h
 refine Z8 ((ZT (fun (x:Int × Int) s=>s=⟨[(2,iv a2_),(3,.loc 3 0),(4,.loc 4 0),(6,.loc 6 0),(8,iv x.1),(9,iv x.2)],[(3,(ZG a0_)),(4,(Za a1_)),(6,[iv 0,iv 0,iv 0,iv 0,iv 0,iv 0,iv 0,iv 0,iv 0,Zl true []])],[]⟩) (fun x:Int × Int=>ZaZ N a1_ x.1 x.2) (fun (p:Int) e s=>e = .exit 0∧(s=⟨[(2,iv a2_),(3,.loc 3 0),(4,.loc 4 0),(6,.loc 6 0),(8,iv p)],[(3,(ZG a0_)),(4,(Za a1_)),(6,[iv 0,iv 0,iv 0,iv 0,iv 0,iv 0,iv 0,iv 0,iv 0,Zl true []])],[]⟩)) ?_ N _ o510 _ ho510 (by show _=_;kernel_rfl)).mono ?_)
 ·clear h ho510
  rintro ⟨i2,i3⟩ o s h hR
  obtain rfl:=hR
  replace h:ZaZ N a1_ i2 i3=some o:=h
  unfold ZaZ at h
  refine sq (sq ?_)
  obtain ⟨j507,hj,h⟩:=bs h
  refine rgR (fun s=>s=⟨[(2,iv a2_),(3,.loc 3 0),(4,.loc 4 0),(6,.loc 6 0),(8,iv i2),(9,iv i3),(31,bv j507)],[(3,(ZG a0_)),(4,(Za a1_)),(6,[iv 0,iv 0,iv 0,iv 0,iv 0,iv 0,iv 0,iv 0,iv 0,Zl true []])],[]⟩) ?_ ?_
  ·clear h
   rcases Zt hj with ⟨hc504,hj⟩ | ⟨hc506,hj⟩
   ·refine (EP.u 3 (Zj (c:=(decide (i3<a1_.Nodes))) (h:=hc504)) ?_)
    obtain ⟨e505,he505,hj⟩:=bs hj
    obtain rfl:=Zc hj
    exact (EP.u 4 (Zo (ys:=[s_eB false a1_.Station,iv i2]) (h:=Zg eB he505)) (EP.u 0 (Zq (sz:=1) (off:=0) (cs:=[.bool e505]) (r:=bv e505) eB he505) (EP.f (by show _=_;kernel_rfl))))
   obtain rfl:=Zc hj
   exact (EP.u 3 (Zj (c:=(decide (i3<a1_.Nodes))) (h:=hc506)) (EP.f (by show _=_;kernel_rfl)))
  clear hj
  rintro s hR
  obtain rfl:=hR
  refine tq (it h (fun hc508 h => ?_) (fun hc508 h => ?_))
  ·refine sk (tq ?_)
   refine kq (sq ?_)
   refine bk ?_
   obtain ⟨m509,hm509,h⟩:=bs h
   refine rgS ⟨[(2,iv a2_),(3,.loc 3 0),(4,.loc 4 0),(6,.loc 6 0),(8,iv m509),(9,iv i3)],[(3,(ZG a0_)),(4,(Za a1_)),(6,[iv 0,iv 0,iv 0,iv 0,iv 0,iv 0,iv 0,iv 0,iv 0,Zl true []])],[]⟩ (Zb.u 4 (Zo (ys:=[iv (w64 (i2+1)),iv a1_.Nodes]) (h:=Zdt hm509)) Zb.f) (by kernel_rfl) ?_
   refine bn (tq ?_)
   refine rgS ⟨[(2,iv a2_),(3,.loc 3 0),(4,.loc 4 0),(6,.loc 6 0),(8,iv m509),(9,iv (w64 (i3+1)))],[(3,(ZG a0_)),(4,(Za a1_)),(6,[iv 0,iv 0,iv 0,iv 0,iv 0,iv 0,iv 0,iv 0,iv 0,Zl true []])],[]⟩ Zb.f (by kernel_rfl) ?_
   obtain rfl:=Zc h
   exact ⟨_,rfl,(by show _=_;kernel_rfl)⟩
  refine kq (xq ?_)
  refine tx ?_
  obtain rfl:=Zc h
  exact ⟨_,rfl,rfl,(by show _=_;kernel_rfl)⟩
 rintro e s hq
 obtain ⟨rfl,hR⟩:=hq
 obtain rfl:=hR
 refine bx (tq ?_)
 refine sq ?_
 obtain ⟨r511,hr511,h⟩:=bs h
 refine rgS ⟨[(2,iv a2_),(3,.loc 3 0),(4,.loc 4 0),(6,.loc 6 0),(8,iv o510),(10,Zlb 1 eI64 r511)],[(3,(ZG a0_)),(4,(Za a1_)),(6,[iv 0,iv 0,iv 0,iv 0,iv 0,iv 0,iv 0,iv 0,iv 0,Zl true []])],[]⟩ (Zb.v 5 (Zs (hc:=Zhk N a1_ (IntKind.u8.wrap (o510)) a0_.Way r511 hr511)) Zb.f) (by kernel_rfl) ?_
 refine tq (sq ?_)
 refine sq ?_
 rcases Zt h with ⟨hc512,h⟩ | ⟨hc512,h⟩
 ·rw [ZlZ hc512]
  show vc _ _ _ _ ⟨[(2,iv a2_),(3,.loc 3 0),(4,.loc 4 0),(6,.loc 6 0),(8,iv o510),(10,.nl .nilSl)],[(3,(ZG a0_)),(4,(Za a1_)),(6,[iv 0,iv 0,iv 0,iv 0,iv 0,iv 0,iv 0,iv 0,iv 0,Zl true []])],[]⟩
  refine rgS ⟨[(2,iv a2_),(3,.loc 3 0),(4,.loc 4 0),(6,.loc 6 0),(8,iv o510),(10,.nl .nilSl),(46,bv true)],[(3,(ZG a0_)),(4,(Za a1_)),(6,[iv 0,iv 0,iv 0,iv 0,iv 0,iv 0,iv 0,iv 0,iv 0,Zl true []])],[]⟩ Zb.f (by kernel_rfl) ?_
  refine tq (ZaP (by kernel_rfl) ?_)
  refine sq (rgS ⟨[(6,.loc 6 0),(7,bv false)],[(6,[iv 0,iv 0,iv 0,iv 0,iv 0,iv 0,iv 0,iv 0,iv 0,Zl true []])],[]⟩ Zb.f (by kernel_rfl) ?_)
  refine tq (rt ?_)
  refine tr ?_
  obtain rfl:=Zc h
  exact ZC (by kernel_rfl)
 rw [Zla hc512]
 show vc _ _ _ _ ⟨[(2,iv a2_),(3,.loc 3 0),(4,.loc 4 0),(6,.loc 6 0),(8,iv o510),(10,Zk false r511)],[(3,(ZG a0_)),(4,(Za a1_)),(6,[iv 0,iv 0,iv 0,iv 0,iv 0,iv 0,iv 0,iv 0,iv 0,Zl true []])],[]⟩
 refine rgS ⟨[(2,iv a2_),(3,.loc 3 0),(4,.loc 4 0),(6,.loc 6 0),(8,iv o510),(10,Zk false r511),(46,bv false)],[(3,(ZG a0_)),(4,(Za a1_)),(6,[iv 0,iv 0,iv 0,iv 0,iv 0,iv 0,iv 0,iv 0,iv 0,Zl true []])],[]⟩ (Zb.u 1 (Zo (ys:=[Zk false r511]) (h:=ZiS (neg:=false) hc512)) Zb.f) (by kernel_rfl) ?_
 refine tq (Zdv (by kernel_rfl) ?_)
 refine sk (tq ?_)
 refine kq (sq ?_)
 obtain ⟨e513,he513,h⟩:=bs h
 obtain ⟨r514,hr514,h⟩:=bs h
 obtain ⟨e515,he515,h⟩:=bs h
 obtain ⟨r516,hr516,h⟩:=bs h
 obtain ⟨a517,H518,ha517,hH518,hH⟩:=HP.lit 1 [r511] (eSl 1 eI64) hH
 replace hH:HP H518 [.arr a517 1 false (List.map (eSl 1 eI64) [r511])]:=hH
 have hfa517:=Zu (HP.get hH 0 rfl)
 refine rqS ⟨[(3,.loc 3 0),(4,.loc 4 0),(6,.loc 6 0),(8,iv o510),(10,Zk false r511),(11,.loc 11 0)],[(3,(ZG a0_)),(4,(Za a1_)),(6,[iv 0,iv 0,iv 0,iv 0,iv 0,iv 0,iv 0,iv 0,iv 0,Zl true []]),(11,[iv a2_,iv r514,iv r516,iv 0,iv (w64 (84+(w64 (a0_.Size)))),iv 0,iv 0,iv 0,iv 1099511627776,a517])],H518⟩ (Zb.u 3 (Zo (ys:=[Zk false r511,iv 0]) (h:=Zg eI64 he513)) (Zb.u 0 (Zw (Zq (sz:=1) (off:=0) (cs:=[.int .i64 e513]) (r:=iv e513) eI64 he513)) (Zb.u 0 (Zaw (hc:=Zcz N a1_ e513 r514 hr514)) (Zb.u 3 (Zo (ys:=[Zk false r511]) (h:=ZB eI64)) (Zb.u 1 (Zo (ys:=[Zk false r511,iv (w64 (((List.length r511:Nat):Int) - 1))]) (h:=Zg eI64 he515)) (Zb.u 0 (Zw (Zq (sz:=1) (off:=0) (cs:=[.int .i64 e515]) (r:=iv e515) eI64 he515)) (Zb.u 0 (Zaw (hc:=ZcQ N a1_ e515 r516 hr516)) (Zb.h 5 (ZiI (H:=[]) (ys:=[Zk false r511]) (rows:=(List.map (eSl 1 eI64) [r511])) (by kernel_rfl) (by kernel_rfl) (by kernel_rfl) ha517 hH518) (Zb.f (h:=(by rcases hfa517 with ha517e | ⟨_,_,ha517e⟩<;>subst ha517e<;>kernel_rfl))))))))))) (by rcases hfa517 with ha517e | ⟨_,_,ha517e⟩<;>subst ha517e<;>kernel_rfl) ?_
 refine tq ?_
 obtain ⟨j1019,hj1019,h⟩:=bs h
 refine Zcu [3,4,6,8,10,11] (fun s=>s=⟨[(3,.loc 3 0),(4,.loc 4 0),(6,.loc 6 0),(8,iv o510),(10,Zk false r511),(11,.loc 11 0)],[(3,(ZG a0_)),(4,(Za a1_)),(6,[iv 0,iv 0,iv 0,iv 0,iv 0,iv 0,iv 0,iv 0,iv 0,Zl true []]),(11,[iv a2_,iv r514,iv r516,iv j1019.1,iv (w64 (84+(w64 (a0_.Size)))),iv j1019.2.1,iv j1019.2.2.1,iv j1019.2.2.2,iv 1099511627776,a517])],H518⟩) ?_ ?_
 ·clear h
  have h:=hj1019
  refine sq (rgS ⟨[(3,.loc 3 0),(4,.loc 4 0),(6,.loc 6 0),(8,iv o510),(10,Zk false r511),(11,.loc 11 0),(70,bv a0_.Reserved)],[(3,(ZG a0_)),(4,(Za a1_)),(6,[iv 0,iv 0,iv 0,iv 0,iv 0,iv 0,iv 0,iv 0,iv 0,Zl true []]),(11,[iv a2_,iv r514,iv r516,iv 0,iv (w64 (84+(w64 (a0_.Size)))),iv 0,iv 0,iv 0,iv 1099511627776,a517])],H518⟩ Zb.f (by rcases hfa517 with ha517e | ⟨_,_,ha517e⟩<;>subst ha517e<;>kernel_rfl) ?_)
  refine tq (it h (fun hc1020 h => ?_) (fun hc1020 h => ?_))
  ·refine sq (rgS ⟨[(3,.loc 3 0),(4,.loc 4 0),(6,.loc 6 0),(8,iv o510),(10,Zk false r511),(11,.loc 11 0)],[(3,(ZG a0_)),(4,(Za a1_)),(6,[iv 0,iv 0,iv 0,iv 0,iv 0,iv 0,iv 0,iv 0,iv 0,Zl true []]),(11,[iv a2_,iv r514,iv r516,iv 6,iv (w64 (84+(w64 (a0_.Size)))),iv 0,iv 0,iv 0,iv 1099511627776,a517])],H518⟩ Zb.f (by rcases hfa517 with ha517e | ⟨_,_,ha517e⟩<;>subst ha517e<;>kernel_rfl) ?_)
   refine tq (rgS ⟨[(3,.loc 3 0),(4,.loc 4 0),(6,.loc 6 0),(8,iv o510),(10,Zk false r511),(11,.loc 11 0)],[(3,(ZG a0_)),(4,(Za a1_)),(6,[iv 0,iv 0,iv 0,iv 0,iv 0,iv 0,iv 0,iv 0,iv 0,Zl true []]),(11,[iv a2_,iv r514,iv r516,iv 6,iv (w64 (84+(w64 (a0_.Size)))),iv 0,iv (w64 ((w64 (84+(w64 (a0_.Size))))+(w64 (4 * (w64 (a0_.Burst)))))),iv (w64 (1+(w64 (a0_.Rate)))),iv 1099511627776,a517])],H518⟩ (Zb.f (h:=(by rcases hfa517 with ha517e | ⟨_,_,ha517e⟩<;>subst ha517e<;>kernel_rfl))) (by rcases hfa517 with ha517e | ⟨_,_,ha517e⟩<;>subst ha517e<;>kernel_rfl) ?_)
   obtain rfl:=Zc h
   exact ⟨rfl,(by show _=_;rcases hfa517 with ha517e | ⟨_,_,ha517e⟩<;>subst ha517e<;>kernel_rfl)⟩
  refine sq (rgS ⟨[(3,.loc 3 0),(4,.loc 4 0),(6,.loc 6 0),(8,iv o510),(10,Zk false r511),(11,.loc 11 0)],[(3,(ZG a0_)),(4,(Za a1_)),(6,[iv 0,iv 0,iv 0,iv 0,iv 0,iv 0,iv 0,iv 0,iv 0,Zl true []]),(11,[iv a2_,iv r514,iv r516,iv 7,iv (w64 (84+(w64 (a0_.Size)))),iv 0,iv 0,iv 0,iv 1099511627776,a517])],H518⟩ Zb.f (by rcases hfa517 with ha517e | ⟨_,_,ha517e⟩<;>subst ha517e<;>kernel_rfl) ?_)
  refine tq ?_
  obtain ⟨e1021,he1021,h⟩:=bs h
  refine rgS ⟨[(3,.loc 3 0),(4,.loc 4 0),(6,.loc 6 0),(8,iv o510),(10,Zk false r511),(11,.loc 11 0)],[(3,(ZG a0_)),(4,(Za a1_)),(6,[iv 0,iv 0,iv 0,iv 0,iv 0,iv 0,iv 0,iv 0,iv 0,Zl true []]),(11,[iv a2_,iv r514,iv r516,iv 7,iv (w64 (84+(w64 (a0_.Size)))),iv e1021,iv 0,iv 0,iv 1099511627776,a517])],H518⟩ (Zb.u 4 (Zo (ys:=[Zk true [4,6,8,12,16,24,48,10,5,240],.p (.int .u8 (Int.tmod a0_.Period 10))]) (h:=Zg eI64 he1021)) (Zb.u 0 (Zq (sz:=1) (off:=0) (cs:=[.int .i64 e1021]) (r:=iv e1021) eI64 he1021) Zb.f)) (by rcases hfa517 with ha517e | ⟨_,_,ha517e⟩<;>subst ha517e<;>kernel_rfl) ?_
  obtain rfl:=Zc h
  exact ⟨rfl,(by show _=_;rcases hfa517 with ha517e | ⟨_,_,ha517e⟩<;>subst ha517e<;>kernel_rfl)⟩
 clear hj1019
 rintro s hR
 obtain rfl:=hR
 refine sq (sq ?_)
 refine rgS ⟨[(3,.loc 3 0),(4,.loc 4 0),(6,.loc 6 0),(8,iv o510),(10,Zk false r511),(11,.loc 11 0),(12,iv 0)],[(3,(ZG a0_)),(4,(Za a1_)),(6,[iv 0,iv 0,iv 0,iv 0,iv 0,iv 0,iv 0,iv 0,iv 0,Zl true []]),(11,[iv a2_,iv r514,iv r516,iv j1019.1,iv (w64 (84+(w64 (a0_.Size)))),iv j1019.2.1,iv j1019.2.2.1,iv j1019.2.2.2,iv 1099511627776,a517])],H518⟩ Zb.f (by rcases hfa517 with ha517e | ⟨_,_,ha517e⟩<;>subst ha517e<;>kernel_rfl) ?_
 refine tq (bk ?_)
 obtain ⟨o2050,ho2050,h⟩:=bs h
 refine Z8 ((ZT (fun (x:Int × (List (List Int))) s=>∃ (a1022:AV) (H1023:List HO),s=⟨[(3,.loc 3 0),(4,.loc 4 0),(6,.loc 6 0),(8,iv o510),(10,Zk false r511),(11,.loc 11 0),(12,iv x.1)],[(3,(ZG a0_)),(4,(Za a1_)),(6,[iv 0,iv 0,iv 0,iv 0,iv 0,iv 0,iv 0,iv 0,iv 0,Zl true []]),(11,[iv a2_,iv r514,iv r516,iv j1019.1,iv (w64 (84+(w64 (a0_.Size)))),iv j1019.2.1,iv j1019.2.2.1,iv j1019.2.2.2,iv 1099511627776,a1022])],H1023⟩∧HP H1023 [.arr a1022 1 false (List.map (eSl 1 eI64) x.2)]) (fun x:Int × (List (List Int))=>ZaY N a0_ a1_ o510 r511 r516 x.1 x.2) (fun (p:(List (List Int))) e s=>e = .exit 2∧(∃ (a1526:AV) (H1527:List HO),s=⟨[(4,.loc 4 0),(6,.loc 6 0),(11,.loc 11 0)],[(4,(Za a1_)),(6,[iv 0,iv 0,iv 0,iv 0,iv 0,iv 0,iv 0,iv 0,iv 0,Zl true []]),(11,[iv a2_,iv r514,iv r516,iv j1019.1,iv (w64 (84+(w64 (a0_.Size)))),iv j1019.2.1,iv j1019.2.2.1,iv j1019.2.2.2,iv 1099511627776,a1526])],H1527⟩∧HP H1527 [.arr a1526 1 false (List.map (eSl 1 eI64) p)])) ?_ N _ o2050 _ ho2050 ⟨a517,H518,(by show _=_;rcases hfa517 with ha517e | ⟨_,_,ha517e⟩<;>subst ha517e<;>kernel_rfl),(HP.pick hH [0] rfl)⟩).mono ?_)
 ·clear h ho2050
  rintro ⟨i1024,l1025⟩ o s h hR
  obtain ⟨a1022,H1023,rfl,hH⟩:=hR
  replace hH:HP H1023 [.arr a1022 1 false (List.map (eSl 1 eI64) l1025)]:=hH
  have hfa1022:=Zu (HP.get hH 0 rfl)
  replace h:ZaY N a0_ a1_ o510 r511 r516 i1024 l1025=some o:=h
  unfold ZaY at h
  refine sq (sq ?_)
  obtain ⟨j1533,hj,h⟩:=bs h
  refine rgR (fun s=>s=⟨[(3,.loc 3 0),(4,.loc 4 0),(6,.loc 6 0),(8,iv o510),(10,Zk false r511),(11,.loc 11 0),(12,iv i1024),(104,bv j1533)],[(3,(ZG a0_)),(4,(Za a1_)),(6,[iv 0,iv 0,iv 0,iv 0,iv 0,iv 0,iv 0,iv 0,iv 0,Zl true []]),(11,[iv a2_,iv r514,iv r516,iv j1019.1,iv (w64 (84+(w64 (a0_.Size)))),iv j1019.2.1,iv j1019.2.2.1,iv j1019.2.2.2,iv 1099511627776,a1022])],H1023⟩) ?_ ?_
  ·clear h
   rcases Zt hj with ⟨hc1528,hj⟩ | ⟨hc1532,hj⟩
   ·refine (EP.u 1 (Zj (c:=(decide (i1024<24))) (h:=hc1528)) ?_)
    rcases Zt hj with ⟨hc1529,hj⟩ | ⟨hc1531,hj⟩
    ·refine (EP.u 2 (ZmZ (c:=a0_.Two) (by kernel_rfl) hc1529) ?_)
     have hln1530:=HP.len (k:=0) (a:=a1022) (sz:=1) (frz:=false) (l:=l1025) (eSl 1 eI64) hH rfl
     obtain rfl:=Zc hj
     exact (EP.u (hm:=(by rcases hfa1022 with ha1022e | ⟨_,_,ha1022e⟩<;>subst ha1022e<;>kernel_rfl)) 4 (Zo (ys:=[a1022]) (by rcases hfa1022 with ha1022e | ⟨_,_,ha1022e⟩<;>subst ha1022e<;>kernel_rfl) hln1530) (EP.f (by show _=_;rcases hfa1022 with ha1022e | ⟨_,_,ha1022e⟩<;>subst ha1022e<;>kernel_rfl) (h:=(by rcases hfa1022 with ha1022e | ⟨_,_,ha1022e⟩<;>subst ha1022e<;>kernel_rfl))))
    obtain rfl:=Zc hj
    exact (EP.u 2 (ZmZ (c:=a0_.Two) (by kernel_rfl) hc1531) (EP.f (by show _=_;rcases hfa1022 with ha1022e | ⟨_,_,ha1022e⟩<;>subst ha1022e<;>kernel_rfl)))
   obtain rfl:=Zc hj
   exact (EP.u 1 (Zj (c:=(decide (i1024<24))) (h:=hc1532)) (EP.f (by show _=_;rcases hfa1022 with ha1022e | ⟨_,_,ha1022e⟩<;>subst ha1022e<;>kernel_rfl)))
  clear hj
  rintro s hR
  obtain rfl:=hR
  refine tq (it h (fun hc1534 h => ?_) (fun hc1534 h => ?_))
  ·refine sk (tq ?_)
   refine kq ?_
   obtain ⟨j2037,hj2037,h⟩:=bs h
   refine Zcu [3,4,6,8,10,11,12] (fun s=>∃ (a2035:AV) (H2036:List HO),s=⟨[(3,.loc 3 0),(4,.loc 4 0),(6,.loc 6 0),(8,iv o510),(10,Zk false r511),(11,.loc 11 0),(12,iv i1024)],[(3,(ZG a0_)),(4,(Za a1_)),(6,[iv 0,iv 0,iv 0,iv 0,iv 0,iv 0,iv 0,iv 0,iv 0,Zl true []]),(11,[iv a2_,iv r514,iv r516,iv j1019.1,iv (w64 (84+(w64 (a0_.Size)))),iv j1019.2.1,iv j1019.2.2.1,iv j1019.2.2.2,iv 1099511627776,a2035])],H2036⟩∧HP H2036 [.arr a2035 1 false (List.map (eSl 1 eI64) j2037)]) ?_ ?_
   ·clear h
    have h:=hj2037
    refine bk (sq ?_)
    obtain ⟨r2038,hr2038,h⟩:=bs h
    refine rgS ⟨[(3,.loc 3 0),(4,.loc 4 0),(6,.loc 6 0),(8,iv o510),(10,Zk false r511),(11,.loc 11 0),(12,iv i1024),(13,Zlb 1 eI64 r2038)],[(3,(ZG a0_)),(4,(Za a1_)),(6,[iv 0,iv 0,iv 0,iv 0,iv 0,iv 0,iv 0,iv 0,iv 0,Zl true []]),(11,[iv a2_,iv r514,iv r516,iv j1019.1,iv (w64 (84+(w64 (a0_.Size)))),iv j1019.2.1,iv j1019.2.2.1,iv j1019.2.2.2,iv 1099511627776,a1022])],H1023⟩ (Zb.v 8 (Zs (hc:=Zhk N a1_ (IntKind.u8.wrap (o510)) (IntKind.u8.wrap (a0_.Way+(IntKind.u8.wrap (i1024)))) r2038 hr2038)) Zb.f) (by rcases hfa1022 with ha1022e | ⟨_,_,ha1022e⟩<;>subst ha1022e<;>kernel_rfl) ?_
    refine tq (sq ?_)
    rcases Zt h with ⟨hc2039,h⟩ | ⟨hc2039,h⟩
    ·rw [ZlZ hc2039]
     show vc _ _ _ _ ⟨[(3,.loc 3 0),(4,.loc 4 0),(6,.loc 6 0),(8,iv o510),(10,Zk false r511),(11,.loc 11 0),(12,iv i1024),(13,.nl .nilSl)],[(3,(ZG a0_)),(4,(Za a1_)),(6,[iv 0,iv 0,iv 0,iv 0,iv 0,iv 0,iv 0,iv 0,iv 0,Zl true []]),(11,[iv a2_,iv r514,iv r516,iv j1019.1,iv (w64 (84+(w64 (a0_.Size)))),iv j1019.2.1,iv j1019.2.2.1,iv j1019.2.2.2,iv 1099511627776,a1022])],H1023⟩
     refine rqS ⟨[(3,.loc 3 0),(4,.loc 4 0),(6,.loc 6 0),(8,iv o510),(10,Zk false r511),(11,.loc 11 0),(12,iv i1024),(13,.nl .nilSl),(136,bv false)],[(3,(ZG a0_)),(4,(Za a1_)),(6,[iv 0,iv 0,iv 0,iv 0,iv 0,iv 0,iv 0,iv 0,iv 0,Zl true []]),(11,[iv a2_,iv r514,iv r516,iv j1019.1,iv (w64 (84+(w64 (a0_.Size)))),iv j1019.2.1,iv j1019.2.2.1,iv j1019.2.2.2,iv 1099511627776,a1022])],H1023⟩ Zb.f (by rcases hfa1022 with ha1022e | ⟨_,_,ha1022e⟩<;>subst ha1022e<;>kernel_rfl) ?_
     refine tq (Zdv (by kernel_rfl) ?_)
     refine sk (bn ?_)
     obtain rfl:=Zc h
     exact ⟨rfl,⟨a1022,H1023,(by show _=_;rcases hfa1022 with ha1022e | ⟨_,_,ha1022e⟩<;>subst ha1022e<;>kernel_rfl),(HP.pick hH [0] rfl)⟩⟩
    rw [Zla hc2039]
    show vc _ _ _ _ ⟨[(3,.loc 3 0),(4,.loc 4 0),(6,.loc 6 0),(8,iv o510),(10,Zk false r511),(11,.loc 11 0),(12,iv i1024),(13,Zk false r2038)],[(3,(ZG a0_)),(4,(Za a1_)),(6,[iv 0,iv 0,iv 0,iv 0,iv 0,iv 0,iv 0,iv 0,iv 0,Zl true []]),(11,[iv a2_,iv r514,iv r516,iv j1019.1,iv (w64 (84+(w64 (a0_.Size)))),iv j1019.2.1,iv j1019.2.2.1,iv j1019.2.2.2,iv 1099511627776,a1022])],H1023⟩
    obtain ⟨j2045,hj,h⟩:=bs h
    refine rqR (fun s=>s=⟨[(3,.loc 3 0),(4,.loc 4 0),(6,.loc 6 0),(8,iv o510),(10,Zk false r511),(11,.loc 11 0),(12,iv i1024),(13,Zk false r2038),(136,bv j2045)],[(3,(ZG a0_)),(4,(Za a1_)),(6,[iv 0,iv 0,iv 0,iv 0,iv 0,iv 0,iv 0,iv 0,iv 0,Zl true []]),(11,[iv a2_,iv r514,iv r516,iv j1019.1,iv (w64 (84+(w64 (a0_.Size)))),iv j1019.2.1,iv j1019.2.2.1,iv j1019.2.2.2,iv 1099511627776,a1022])],H1023⟩) ?_ ?_
    ·clear h
     refine (EP.u 1 (Zo (ys:=[Zk false r2038]) (h:=ZiS (neg:=true) hc2039)) (EP.u 4 (Zo (ys:=[Zk false r2038]) (h:=ZB eI64)) ?_))
     obtain ⟨e2040,he2040,hj⟩:=bs hj
     refine (EP.u 1 (Zo (ys:=[Zk false r2038,iv (w64 (((List.length r2038:Nat):Int) - 1))]) (h:=Zg eI64 he2040)) (EP.u 0 (Zw (Zq (sz:=1) (off:=0) (cs:=[.int .i64 e2040]) (r:=iv e2040) eI64 he2040)) ?_))
     obtain ⟨r2041,hr2041,hj⟩:=bs hj
     refine (EP.u 0 (Zaw (hc:=ZcQ N a1_ e2040 r2041 hr2041)) ?_)
     rcases Zt hj with ⟨hc2042,hj⟩ | ⟨hc2044,hj⟩
     ·refine (EP.u (hm:=(by rcases hfa1022 with ha1022e | ⟨_,_,ha1022e⟩<;>subst ha1022e<;>kernel_rfl)) 2 (Zj (c:=(r2041==r516)) (by rcases hfa1022 with ha1022e | ⟨_,_,ha1022e⟩<;>subst ha1022e<;>kernel_rfl) hc2042) ?_)
      obtain ⟨r2043,hr2043,hj⟩:=bs hj
      obtain rfl:=Zc hj
      exact (EP.u (hm:=(by rcases hfa1022 with ha1022e | ⟨_,_,ha1022e⟩<;>subst ha1022e<;>kernel_rfl)) 5 (Zaw (by rcases hfa1022 with ha1022e | ⟨_,_,ha1022e⟩<;>subst ha1022e<;>kernel_rfl) (Zfg N a1_ r511 r2038 r2043 hr2043)) (EP.f (by show _=_;rcases hfa1022 with ha1022e | ⟨_,_,ha1022e⟩<;>subst ha1022e<;>kernel_rfl) (h:=(by rcases hfa1022 with ha1022e | ⟨_,_,ha1022e⟩<;>subst ha1022e<;>kernel_rfl))))
     obtain rfl:=Zc hj
     exact (EP.u (hm:=(by rcases hfa1022 with ha1022e | ⟨_,_,ha1022e⟩<;>subst ha1022e<;>kernel_rfl)) 2 (Zj (c:=(r2041==r516)) (by rcases hfa1022 with ha1022e | ⟨_,_,ha1022e⟩<;>subst ha1022e<;>kernel_rfl) hc2044) (EP.f (by show _=_;rcases hfa1022 with ha1022e | ⟨_,_,ha1022e⟩<;>subst ha1022e<;>kernel_rfl) (h:=(by rcases hfa1022 with ha1022e | ⟨_,_,ha1022e⟩<;>subst ha1022e<;>kernel_rfl))))
    clear hj
    rintro s hR
    obtain rfl:=hR
    refine tq (it h (fun hc2046 h => ?_) (fun hc2046 h => ?_))
    ·obtain ⟨l2049,hl2049,h⟩:=bs h
     obtain ⟨a2047,H2048,ha2047,hH⟩:=HP.app (k:=0) (a:=a1022) (sz:=1) (frz:=false) (eSl 1 eI64) hH rfl hl2049
     replace hH:HP H2048 [.arr a2047 1 false (List.map (eSl 1 eI64) l2049)]:=hH
     have hfa2047:=Zu (HP.get hH 0 rfl)
     refine rgS ⟨[(3,.loc 3 0),(4,.loc 4 0),(6,.loc 6 0),(8,iv o510),(10,Zk false r511),(11,.loc 11 0),(12,iv i1024)],[(3,(ZG a0_)),(4,(Za a1_)),(6,[iv 0,iv 0,iv 0,iv 0,iv 0,iv 0,iv 0,iv 0,iv 0,Zl true []]),(11,[iv a2_,iv r514,iv r516,iv j1019.1,iv (w64 (84+(w64 (a0_.Size)))),iv j1019.2.1,iv j1019.2.2.1,iv j1019.2.2.2,iv 1099511627776,a2047])],H2048⟩ (Zb.h (hm:=(by rcases hfa1022 with ha1022e | ⟨_,_,ha1022e⟩<;>subst ha1022e<;>kernel_rfl)) 4 (ZdH (H:=H1023) (a:=a1022) (b:=Zl true [r2038]) (by rcases hfa1022 with ha1022e | ⟨_,_,ha1022e⟩<;>subst ha1022e<;>kernel_rfl) (by rcases hfa1022 with ha1022e | ⟨_,_,ha1022e⟩<;>subst ha1022e<;>kernel_rfl) (by rcases hfa1022 with ha1022e | ⟨_,_,ha1022e⟩<;>subst ha1022e<;>kernel_rfl) (by rcases hfa1022 with ha1022e | ⟨_,_,ha1022e⟩<;>subst ha1022e<;>kernel_rfl) ha2047) (Zb.f (h:=(by rcases hfa1022 with ha1022e | ⟨_,_,ha1022e⟩<;>rcases hfa2047 with ha2047e | ⟨_,_,ha2047e⟩<;>subst ha1022e ha2047e<;>kernel_rfl)))) (by rcases hfa1022 with ha1022e | ⟨_,_,ha1022e⟩<;>rcases hfa2047 with ha2047e | ⟨_,_,ha2047e⟩<;>subst ha1022e ha2047e<;>kernel_rfl) ?_
     refine bn ?_
     obtain rfl:=Zc h
     exact ⟨rfl,⟨a2047,H2048,(by show _=_;rcases hfa2047 with ha2047e | ⟨_,_,ha2047e⟩<;>subst ha2047e<;>kernel_rfl),(HP.pick hH [0] rfl)⟩⟩
    refine sk (bn ?_)
    obtain rfl:=Zc h
    exact ⟨rfl,⟨a1022,H1023,(by show _=_;rcases hfa1022 with ha1022e | ⟨_,_,ha1022e⟩<;>subst ha1022e<;>kernel_rfl),(HP.pick hH [0] rfl)⟩⟩
   clear hj2037
   rintro s hR
   obtain ⟨a2035,H2036,rfl,hH⟩:=hR
   replace hH:HP H2036 [.arr a2035 1 false (List.map (eSl 1 eI64) j2037)]:=hH
   have hfa2035:=Zu (HP.get hH 0 rfl)
   refine rgS ⟨[(3,.loc 3 0),(4,.loc 4 0),(6,.loc 6 0),(8,iv o510),(10,Zk false r511),(11,.loc 11 0),(12,iv (w64 (i1024+1)))],[(3,(ZG a0_)),(4,(Za a1_)),(6,[iv 0,iv 0,iv 0,iv 0,iv 0,iv 0,iv 0,iv 0,iv 0,Zl true []]),(11,[iv a2_,iv r514,iv r516,iv j1019.1,iv (w64 (84+(w64 (a0_.Size)))),iv j1019.2.1,iv j1019.2.2.1,iv j1019.2.2.2,iv 1099511627776,a2035])],H2036⟩ Zb.f (by rcases hfa2035 with ha2035e | ⟨_,_,ha2035e⟩<;>subst ha2035e<;>kernel_rfl) ?_
   obtain rfl:=Zc h
   exact ⟨_,rfl,⟨a2035,H2036,(by show _=_;rcases hfa2035 with ha2035e | ⟨_,_,ha2035e⟩<;>subst ha2035e<;>kernel_rfl),(HP.pick hH [0] rfl)⟩⟩
  refine kq (xq ?_)
  refine tx ?_
  obtain rfl:=Zc h
  exact ⟨_,rfl,rfl,⟨a1022,H1023,(by show _=_;rcases hfa1022 with ha1022e | ⟨_,_,ha1022e⟩<;>subst ha1022e<;>kernel_rfl),(HP.pick hH [0] rfl)⟩⟩
 rintro e s hq
 obtain ⟨rfl,hR⟩:=hq
 obtain ⟨a1526,H1527,rfl,hH⟩:=hR
 replace hH:HP H1527 [.arr a1526 1 false (List.map (eSl 1 eI64) o2050)]:=hH
 have hfa1526:=Zu (HP.get hH 0 rfl)
 refine bx (tq ?_)
 refine sq ?_
 obtain ⟨H2051,hzH2051v,hzH2051q,hzH2051k,hH⟩:=HP.frzd (k:=0) (a:=a1526) (sz:=1) (frz:=false) (eSl 1 eI64) hH rfl
 replace hH:HP H2051 [.arr a1526 1 true (List.map (eSl 1 eI64) o2050)]:=hH
 have hzH2051:=Zpd hfa1526 hzH2051v
 have hq_a1526:=hzH2051q
 obtain ⟨r2052,hr2052,h⟩:=bs h
 refine rfS ⟨[(6,.loc 6 0),(7,bv r2052)],[(6,[iv a2_,iv r514,iv r516,iv j1019.1,iv (w64 (84+(w64 (a0_.Size)))),iv j1019.2.1,iv j1019.2.2.1,iv j1019.2.2.2,iv 1099511627776,a1526])],H2051⟩ (Zou (H:=H1527) (a:=.agg [iv a2_,iv r514,iv r516,iv j1019.1,iv (w64 (84+(w64 (a0_.Size)))),iv j1019.2.1,iv j1019.2.2.1,iv j1019.2.2.2,iv 1099511627776,a1526]) (by kernel_rfl) (by kernel_rfl) (Zne (Z4 rfl (Z4 rfl (Z4 rfl (Z4 rfl (Z4 rfl (Z4 rfl (Z4 rfl (Z4 rfl (Z4 rfl (Z4 hzH2051 ZiM))))))))))) Zpb) (Zb.u (hm:=(by rcases hfa1526 with ha1526e | ⟨_,_,ha1526e⟩<;>subst ha1526e<;>kernel_rfl)) 3 (ZoR (H:=H2051) (ys:=[.agg (Za a1_),.agg [iv a2_,iv r514,iv r516,iv j1019.1,iv (w64 (84+(w64 (a0_.Size)))),iv j1019.2.1,iv j1019.2.2.1,iv j1019.2.2.2,iv 1099511627776,a1526]]) (by rcases hfa1526 with ha1526e | ⟨_,_,ha1526e⟩<;>subst ha1526e<;>kernel_rfl) (by rcases hfa1526 with ha1526e | ⟨_,_,ha1526e⟩<;>subst ha1526e<;>kernel_rfl) (Zms (Znn (Zcp rfl (Zcp rfl (Zcp rfl Zno)))) (Zms (Znn (Zcp rfl (Zcp rfl (Zcp rfl (Zcp rfl (Zcp rfl (Zcp rfl (Zcp rfl (Zcp rfl (Zcp rfl (Zcp hq_a1526 Zno))))))))))) Zpk)) (ZgR N a1_ (Zm.mk a2_ r514 r516 j1019.1 (w64 (84+(w64 (a0_.Size)))) j1019.2.1 (Zbv.mk j1019.2.2.1 j1019.2.2.2) 1099511627776 o2050) r2052 hr2052)) (Zb.f (h:=(by rcases hfa1526 with ha1526e | ⟨_,_,ha1526e⟩<;>subst ha1526e<;>kernel_rfl)))) (by rcases hfa1526 with ha1526e | ⟨_,_,ha1526e⟩<;>subst ha1526e<;>kernel_rfl) ?_
 refine tq (rt ?_)
 obtain rfl:=Zc h
 exact ZdO (H:=H2051) (ys:=[.agg [iv a2_,iv r514,iv r516,iv j1019.1,iv (w64 (84+(w64 (a0_.Size)))),iv j1019.2.1,iv j1019.2.2.1,iv j1019.2.2.2,iv 1099511627776,a1526],bv r2052]) (xs:=[.agg [iv a2_,iv r514,iv r516,iv j1019.1,iv (w64 (84+(w64 (a0_.Size)))),iv j1019.2.1,iv j1019.2.2.1,iv j1019.2.2.2,iv 1099511627776,.p (.sl 1 false (List.map (eSl 1 eI64) o2050))],bv r2052]) (by rcases hfa1526 with ha1526e | ⟨_,_,ha1526e⟩<;>subst ha1526e<;>kernel_rfl) (by rcases hfa1526 with ha1526e | ⟨_,_,ha1526e⟩<;>subst ha1526e<;>kernel_rfl) (ZaU (Zjj (Zbh rfl (Zbh rfl (Zbh rfl (Zbh rfl (Zbh rfl (Zbh rfl (Zbh rfl (Zbh rfl (Zbh rfl (Zbh (HP.pure (k:=0) (frz:=true) (eSl 1 eI64) hH rfl).1 Zjl))))))))))) (ZaU rfl ZbM)) (by kernel_rfl)
theorem Zer (N:Nat) (a0_:Zi) (r:Int) (h:Zdn N a0_=some r):Zal Try.prog 38 [.agg (Za a0_)] (iv r):=by
 unfold Zdn at h
 have hH:HP ([]:List HO) []:=trivial
 refine ZF chk38 rfl rfl (Zv _ _ _ ?_) rfl
 refine sq (rg Zb.f ?_)
 refine tq (sq ?_)
 refine sq (rgX ⟨[(1,.loc 1 0),(23,bv ((decide (a0_.Nodes<2))||((decide (a0_.Nodes > 12))||(((List.length a0_.Station:Nat):Int) != a0_.Nodes))))],[(1,(Za a0_))],[]⟩ ?_ ?_)
 ·rcases Bool.eq_false_or_eq_true (decide (a0_.Nodes<2)) with hc1 | hc2
  ·exact (EP.u 2 (Zj (c:=(decide (a0_.Nodes<2))) (h:=hc1)) (EP.f (by simp only [hc1];kernel_rfl)))
  refine (EP.u 2 (Zj (c:=(decide (a0_.Nodes<2))) (h:=hc2)) ?_)
  rcases Bool.eq_false_or_eq_true (decide (a0_.Nodes > 12)) with hc3 | hc4
  ·exact (EP.u 3 (Zj (c:=(decide (a0_.Nodes > 12))) (h:=hc3)) (EP.f (by simp only [hc2,hc3];kernel_rfl)))
  exact (EP.u 3 (Zj (c:=(decide (a0_.Nodes > 12))) (h:=hc4)) (EP.u 4 (Zo (ys:=[s_eB false a0_.Station]) (h:=ZB eB)) (EP.f (by simp only [hc2,hc4];kernel_rfl))))
 refine tq (it h (fun hc5 h => ?_) (fun hc5 h => ?_))
 ·refine sq (rg Zb.f ?_)
  refine tq (rt ?_)
  refine tr ?_
  obtain rfl:=Zc h
  exact ZC (by kernel_rfl)
 refine sk (tq ?_)
 refine kq (sq ?_)
 refine sq ?_
 obtain ⟨j9,hj,h⟩:=bs h
 refine rgR (fun s=>s=⟨[(1,.loc 1 0),(32,bv j9)],[(1,(Za a0_))],[]⟩) ?_ ?_
 ·clear h
  refine (EP.u 2 (Zo (ys:=[Zh false a0_.Links]) (h:=ZB Zp)) ?_)
  rcases Zt hj with ⟨hc6,hj⟩ | ⟨hc7,hj⟩
  ·obtain rfl:=Zc hj
   exact (EP.u 0 (Zj (c:=(decide (((List.length a0_.Links:Nat):Int) > 24))) (h:=hc6)) (EP.f (by show _=_;kernel_rfl)))
  refine (EP.u 0 (Zj (c:=(decide (((List.length a0_.Links:Nat):Int) > 24))) (h:=hc7)) ?_)
  obtain ⟨r8,hr8,hj⟩:=bs hj
  obtain rfl:=Zc hj
  exact (EP.v 2 (Zs (hc:=ZkT N a0_ r8 hr8)) (EP.f (by show _=_;kernel_rfl)))
 clear hj
 rintro s hR
 obtain rfl:=hR
 refine tq (it h (fun hc10 h => ?_) (fun hc10 h => ?_))
 ·refine sq (rg Zb.f ?_)
  refine tq (rt ?_)
  refine tr ?_
  obtain rfl:=Zc h
  exact ZC (by kernel_rfl)
 refine sk (tq ?_)
 refine kq (sq ?_)
 obtain ⟨l13,hl13,h⟩:=bs h
 obtain ⟨a11,H12,ha11,hH12,ha11b,hH⟩:=HP.make eI64 hH hl13
 replace hH:HP H12 [.arr a11 1 false (List.map eI64 l13)]:=hH
 have hfa11:=Zu (HP.get hH 0 rfl)
 refine rgS ⟨[(1,.loc 1 0),(3,a11)],[(1,(Za a0_))],H12⟩ (Zb.h 2 (Zi6 (H:=[]) (zero:=[.int .i64 0]) (bytes:=8) (by kernel_rfl) (by kernel_rfl) (by kernel_rfl) ha11 hH12 ha11b) Zb.f) (by rcases hfa11 with ha11e | ⟨_,_,ha11e⟩<;>subst ha11e<;>kernel_rfl) ?_
 refine tq (sq ?_)
 refine sq (rgS ⟨[(1,.loc 1 0),(3,a11),(37,Zh false a0_.Links),(38,iv ((List.length a0_.Links:Nat):Int)),(39,iv 0)],[(1,(Za a0_))],H12⟩ (Zb.u 2 (Zo (ys:=[Zh false a0_.Links]) (h:=ZB Zp)) Zb.f) (by rcases hfa11 with ha11e | ⟨_,_,ha11e⟩<;>subst ha11e<;>kernel_rfl) ?_)
 refine tq (bk ?_)
 obtain ⟨o536,ho536,h⟩:=bs h
 refine Z8 ((ZT (fun (x:Int × (List Int)) s=>∃ (a14:AV) (H15:List HO),s=⟨[(1,.loc 1 0),(3,a14),(37,Zh false a0_.Links),(38,iv ((List.length a0_.Links:Nat):Int)),(39,iv x.1)],[(1,(Za a0_))],H15⟩∧HP H15 [.arr a14 1 false (List.map eI64 x.2)]) (fun x:Int × (List Int)=>Zbl N a0_ x.1 x.2) (fun (p:(List Int)) e s=>e = .exit 0∧(∃ (a518:AV) (H519:List HO),s=⟨[(1,.loc 1 0),(3,a518)],[(1,(Za a0_))],H519⟩∧HP H519 [.arr a518 1 false (List.map eI64 p)])) ?_ N _ o536 _ ho536 ⟨a11,H12,(by show _=_;rcases hfa11 with ha11e | ⟨_,_,ha11e⟩<;>subst ha11e<;>kernel_rfl),(HP.pick hH [0] rfl)⟩).mono ?_)
 ·clear h ho536
  rintro ⟨i16,l17⟩ o s h hR
  obtain ⟨a14,H15,rfl,hH⟩:=hR
  replace hH:HP H15 [.arr a14 1 false (List.map eI64 l17)]:=hH
  have hfa14:=Zu (HP.get hH 0 rfl)
  replace h:Zbl N a0_ i16 l17=some o:=h
  unfold Zbl at h
  refine sq (rgS ⟨[(1,.loc 1 0),(3,a14),(37,Zh false a0_.Links),(38,iv ((List.length a0_.Links:Nat):Int)),(39,iv i16),(40,bv (decide (i16<((List.length a0_.Links:Nat):Int))))],[(1,(Za a0_))],H15⟩ Zb.f (by rcases hfa14 with ha14e | ⟨_,_,ha14e⟩<;>subst ha14e<;>kernel_rfl) ?_)
  refine tq (sq ?_)
  refine it h (fun hc520 h => ?_) (fun hc520 h => ?_)
  ·refine sk (tq ?_)
   refine kq (sq ?_)
   refine bk (sq ?_)
   obtain ⟨e521,he521,h⟩:=bs h
   refine rgS ⟨[(1,.loc 1 0),(3,a14),(5,.loc 5 0),(37,Zh false a0_.Links),(38,iv ((List.length a0_.Links:Nat):Int)),(39,iv i16)],[(1,(Za a0_)),(5,(ZR e521))],H15⟩ (Zb.u 0 (Zo (ys:=[Zh false a0_.Links,iv i16]) (h:=Zg Zp he521)) (Zb.u 0 (Zq (sz:=4) (off:=0) (cs:=[.int .i64 e521.A,.int .i64 e521.B,.int .i64 e521.Per,.int .i64 e521.Delay]) (r:=.agg (ZR e521)) Zp he521) (Zb.f (h:=(by rcases hfa14 with ha14e | ⟨_,_,ha14e⟩<;>subst ha14e<;>kernel_rfl))))) (by rcases hfa14 with ha14e | ⟨_,_,ha14e⟩<;>subst ha14e<;>kernel_rfl) ?_
   refine tq (sq ?_)
   obtain ⟨e522,he522,h⟩:=bs h
   obtain ⟨id523,ver524,_,hid523f,hid523,hid523a,hid523v⟩:=HP.elem (k:=0) (a:=a14) (sz:=1) (frz:=false) eI64 hH rfl he522
   obtain ⟨e525,he525,h⟩:=bs h
   obtain ⟨id526,ver527,_,hid526f,hid526,hid526a,hid526v⟩:=HP.elem (k:=0) (a:=a14) (sz:=1) (frz:=false) eI64 hH rfl he525
   obtain ⟨H528,hH528,hH⟩:=HP.setRow (k:=0) (off:=0) (cs:=[iv (w64 (e522+1))]) (ps:=[.int .i64 (w64 (e522+1))]) (e':=(w64 (e522+1))) eI64 hH rfl hid526a hid526 (hid526f rfl) he525 (by kernel_rfl) (by kernel_rfl)
   replace hH:HP H528 [.arr a14 1 false (List.map eI64 (List.set l17 (Int.toNat e521.A) (w64 (e522+1))))]:=hH
   refine rgS ⟨[(1,.loc 1 0),(3,a14),(5,.loc 5 0),(37,Zh false a0_.Links),(38,iv ((List.length a0_.Links:Nat):Int)),(39,iv i16)],[(1,(Za a0_)),(5,(ZR e521))],H528⟩ (Zb.u 3 (Zo (ys:=[a14,iv e521.A]) (by rcases hfa14 with ha14e | ⟨_,_,ha14e⟩<;>subst ha14e<;>kernel_rfl) (hid523v .i64)) (Zb.u 0 (ZbD (H:=H15) (off:=0) (cs:=[.int .i64 e522]) (r:=iv e522) eI64 he522 hid523) (Zb.u 1 (Zo (ys:=[a14,iv e521.A]) (by rcases hfa14 with ha14e | ⟨_,_,ha14e⟩<;>subst ha14e<;>kernel_rfl) (hid526v .i64)) (Zb.o 0 (ZaD (H:=H15) (v:=iv (w64 (e522+1))) (hw:=hH528)) Zb.f)))) (by rcases hfa14 with ha14e | ⟨_,_,ha14e⟩<;>subst ha14e<;>kernel_rfl) ?_
   refine tq ?_
   obtain ⟨e529,he529,h⟩:=bs h
   obtain ⟨id530,ver531,_,hid530f,hid530,hid530a,hid530v⟩:=HP.elem (k:=0) (a:=a14) (sz:=1) (frz:=false) eI64 hH rfl he529
   obtain ⟨e532,he532,h⟩:=bs h
   obtain ⟨id533,ver534,_,hid533f,hid533,hid533a,hid533v⟩:=HP.elem (k:=0) (a:=a14) (sz:=1) (frz:=false) eI64 hH rfl he532
   obtain ⟨H535,hH535,hH⟩:=HP.setRow (k:=0) (off:=0) (cs:=[iv (w64 (e529+1))]) (ps:=[.int .i64 (w64 (e529+1))]) (e':=(w64 (e529+1))) eI64 hH rfl hid533a hid533 (hid533f rfl) he532 (by kernel_rfl) (by kernel_rfl)
   replace hH:HP H535 [.arr a14 1 false (List.map eI64 (List.set (List.set l17 (Int.toNat e521.A) (w64 (e522+1))) (Int.toNat e521.B) (w64 (e529+1))))]:=hH
   refine rgS ⟨[(1,.loc 1 0),(3,a14),(37,Zh false a0_.Links),(38,iv ((List.length a0_.Links:Nat):Int)),(39,iv i16)],[(1,(Za a0_))],H535⟩ (Zb.u 3 (Zo (ys:=[a14,iv e521.B]) (by rcases hfa14 with ha14e | ⟨_,_,ha14e⟩<;>subst ha14e<;>kernel_rfl) (hid530v .i64)) (Zb.u 0 (ZbD (H:=H528) (off:=0) (cs:=[.int .i64 e529]) (r:=iv e529) eI64 he529 hid530) (Zb.u 1 (Zo (ys:=[a14,iv e521.B]) (by rcases hfa14 with ha14e | ⟨_,_,ha14e⟩<;>subst ha14e<;>kernel_rfl) (hid533v .i64)) (Zb.o 0 (ZaD (H:=H528) (v:=iv (w64 (e529+1))) (hw:=hH535)) Zb.f)))) (by rcases hfa14 with ha14e | ⟨_,_,ha14e⟩<;>subst ha14e<;>kernel_rfl) ?_
   refine bn (tq ?_)
   refine rgS ⟨[(1,.loc 1 0),(3,a14),(37,Zh false a0_.Links),(38,iv ((List.length a0_.Links:Nat):Int)),(39,iv (w64 (i16+1)))],[(1,(Za a0_))],H535⟩ Zb.f (by rcases hfa14 with ha14e | ⟨_,_,ha14e⟩<;>subst ha14e<;>kernel_rfl) ?_
   obtain rfl:=Zc h
   exact ⟨_,rfl,⟨a14,H535,(by show _=_;rcases hfa14 with ha14e | ⟨_,_,ha14e⟩<;>subst ha14e<;>kernel_rfl),(HP.pick hH [0] rfl)⟩⟩
  refine kq (xq ?_)
  refine tx ?_
  obtain rfl:=Zc h
  exact ⟨_,rfl,rfl,⟨a14,H15,(by show _=_;rcases hfa14 with ha14e | ⟨_,_,ha14e⟩<;>subst ha14e<;>kernel_rfl),(HP.pick hH [0] rfl)⟩⟩
 rintro e s hq
 obtain ⟨rfl,hR⟩:=hq
 obtain ⟨a518,H519,rfl,hH⟩:=hR
 replace hH:HP H519 [.arr a518 1 false (List.map eI64 o536)]:=hH
 have hfa518:=Zu (HP.get hH 0 rfl)
 refine bx (tq ?_)
 refine sq (sq ?_)
 refine rgS ⟨[(1,.loc 1 0),(3,a518),(59,s_eB false a0_.Station),(60,iv ((List.length a0_.Station:Nat):Int)),(61,iv 0)],[(1,(Za a0_))],H519⟩ (Zb.u 2 (Zo (ys:=[s_eB false a0_.Station]) (h:=ZB eB)) Zb.f) (by rcases hfa518 with ha518e | ⟨_,_,ha518e⟩<;>subst ha518e<;>kernel_rfl) ?_
 refine tq (bk ?_)
 obtain ⟨o1052,ho1052,h⟩:=bs h
 refine Z8 ((ZT (fun (x:Int) s=>s=⟨[(1,.loc 1 0),(3,a518),(59,s_eB false a0_.Station),(60,iv ((List.length a0_.Station:Nat):Int)),(61,iv x)],[(1,(Za a0_))],H519⟩) (fun x:Int=>Zcw N a0_ o536 x) (fun (p:(Unit) ⊕ (Int)) e s=>match p with | (.inl p)=>e = .exit 2∧(s=⟨[(1,.loc 1 0)],[(1,(Za a0_))],H519⟩) | (.inr p)=>e = .ret∧∃ xs,resL s i38.res=some xs∧Zbr xs=iv p) ?_ N _ o1052 _ ho1052 (by show _=_;rcases hfa518 with ha518e | ⟨_,_,ha518e⟩<;>subst ha518e<;>kernel_rfl)).mono ?_)
 ·clear h ho1052
  rintro i537 o s h hR
  obtain rfl:=hR
  replace h:Zcw N a0_ o536 i537=some o:=h
  unfold Zcw at h
  refine sq (rgS ⟨[(1,.loc 1 0),(3,a518),(59,s_eB false a0_.Station),(60,iv ((List.length a0_.Station:Nat):Int)),(61,iv i537),(62,bv (decide (i537<((List.length a0_.Station:Nat):Int))))],[(1,(Za a0_))],H519⟩ Zb.f (by rcases hfa518 with ha518e | ⟨_,_,ha518e⟩<;>subst ha518e<;>kernel_rfl) ?_)
  refine tq (sq ?_)
  refine it h (fun hc1038 h => ?_) (fun hc1038 h => ?_)
  ·refine sk (tq ?_)
   refine kq (sq ?_)
   refine bk (sq ?_)
   obtain ⟨e1039,he1039,h⟩:=bs h
   refine rgS ⟨[(1,.loc 1 0),(3,a518),(6,iv i537),(7,bv e1039),(59,s_eB false a0_.Station),(60,iv ((List.length a0_.Station:Nat):Int)),(61,iv i537)],[(1,(Za a0_))],H519⟩ (Zb.u 1 (Zo (ys:=[s_eB false a0_.Station,iv i537]) (h:=Zg eB he1039)) (Zb.u 0 (Zq (sz:=1) (off:=0) (cs:=[.bool e1039]) (r:=bv e1039) eB he1039) Zb.f)) (by rcases hfa518 with ha518e | ⟨_,_,ha518e⟩<;>subst ha518e<;>kernel_rfl) ?_
   refine tq (sq ?_)
   obtain ⟨j1050,hj,h⟩:=bs h
   refine rgR (fun s=>s=⟨[(1,.loc 1 0),(3,a518),(59,s_eB false a0_.Station),(60,iv ((List.length a0_.Station:Nat):Int)),(61,iv i537),(80,bv j1050)],[(1,(Za a0_))],H519⟩) ?_ ?_
   ·clear h
    rcases Zt hj with ⟨hc1040,hj⟩ | ⟨hc1049,hj⟩
    ·refine (EP.u 0 (Zj (c:=e1039) (h:=hc1040)) ?_)
     obtain ⟨e1041,he1041,hj⟩:=bs hj
     obtain ⟨id1042,ver1043,_,hid1042f,hid1042,hid1042a,hid1042v⟩:=HP.elem (k:=0) (a:=a518) (sz:=1) (frz:=false) eI64 hH rfl he1041
     refine (EP.u 3 (Zo (ys:=[a518,iv i537]) (by rcases hfa518 with ha518e | ⟨_,_,ha518e⟩<;>subst ha518e<;>kernel_rfl) (hid1042v .i64)) (EP.u 0 (ZbD (H:=H519) (off:=0) (cs:=[.int .i64 e1041]) (r:=iv e1041) eI64 he1041 hid1042) ?_))
     rcases Zt hj with ⟨hc1044,hj⟩ | ⟨hc1045,hj⟩
     ·obtain rfl:=Zc hj
      exact (EP.u 0 (Zj (c:=(decide (e1041<1))) (h:=hc1044)) (EP.f (by show _=_;rcases hfa518 with ha518e | ⟨_,_,ha518e⟩<;>subst ha518e<;>kernel_rfl)))
     refine (EP.u 0 (Zj (c:=(decide (e1041<1))) (h:=hc1045)) ?_)
     obtain ⟨e1046,he1046,hj⟩:=bs hj
     obtain ⟨id1047,ver1048,_,hid1047f,hid1047,hid1047a,hid1047v⟩:=HP.elem (k:=0) (a:=a518) (sz:=1) (frz:=false) eI64 hH rfl he1046
     obtain rfl:=Zc hj
     exact (EP.u 3 (Zo (ys:=[a518,iv i537]) (by rcases hfa518 with ha518e | ⟨_,_,ha518e⟩<;>subst ha518e<;>kernel_rfl) (hid1047v .i64)) (EP.u 0 (ZbD (H:=H519) (off:=0) (cs:=[.int .i64 e1046]) (r:=iv e1046) eI64 he1046 hid1047) (EP.f (by show _=_;rcases hfa518 with ha518e | ⟨_,_,ha518e⟩<;>subst ha518e<;>kernel_rfl))))
    obtain rfl:=Zc hj
    exact (EP.u 0 (Zj (c:=e1039) (h:=hc1049)) (EP.f (by show _=_;rcases hfa518 with ha518e | ⟨_,_,ha518e⟩<;>subst ha518e<;>kernel_rfl)))
   clear hj
   rintro s hR
   obtain rfl:=hR
   refine tq (it h (fun hc1051 h => ?_) (fun hc1051 h => ?_))
   ·refine sq (rgS ⟨[(2,iv 260)],[],H519⟩ Zb.f (by kernel_rfl) ?_)
    replace hH:HP H519 []:=HP.pick hH [] rfl
    refine tq (rt ?_)
    refine br (tr ?_)
    obtain rfl:=Zc h
    exact ⟨_,rfl,rfl,ZC (by kernel_rfl)⟩
   refine sk (bn ?_)
   refine tq (kq ?_)
   refine rgS ⟨[(1,.loc 1 0),(3,a518),(59,s_eB false a0_.Station),(60,iv ((List.length a0_.Station:Nat):Int)),(61,iv (w64 (i537+1)))],[(1,(Za a0_))],H519⟩ Zb.f (by rcases hfa518 with ha518e | ⟨_,_,ha518e⟩<;>subst ha518e<;>kernel_rfl) ?_
   obtain rfl:=Zc h
   exact ⟨_,rfl,(by show _=_;rcases hfa518 with ha518e | ⟨_,_,ha518e⟩<;>subst ha518e<;>kernel_rfl)⟩
  refine kq ?_
  replace hH:HP H519 []:=HP.pick hH [] rfl
  refine xq (tx ?_)
  obtain rfl:=Zc h
  exact ⟨_,rfl,rfl,(by show _=_;kernel_rfl)⟩
 rintro e s hq
 rcases o1052 with p1053 | p1057
 ·dsimp only at h hq
  obtain ⟨rfl,hR⟩:=hq
  obtain rfl:=hR
  refine bx (tq ?_)
  refine sq (sq ?_)
  obtain ⟨r1054,hr1054,h⟩:=bs h
  obtain ⟨r1055,hr1055,h⟩:=bs h
  refine rg (Zb.v 2 (Zs (hc:=ZkV N a0_ 0 (ZbN.mk false false false false false false false false false false false false false false false false false false false false false false false false) r1054 hr1054)) (Zb.v 0 (Zs (hc:=Zei N r1054 false r1055 hr1055)) Zb.f)) (tq ?_)
  refine it h (fun hc1056 h => ?_) (fun hc1056 h => ?_)
  ·refine sq (rg Zb.f ?_)
   refine tq (rt ?_)
   refine tr ?_
   obtain rfl:=Zc h
   exact ZC (by kernel_rfl)
  refine sk (tq ?_)
  refine kq (sq ?_)
  refine rg Zb.f (tq ?_)
  refine rt ?_
  obtain rfl:=Zc h
  exact ZC (by kernel_rfl)
 dsimp only at h hq
 obtain ⟨rfl,hq⟩:=hq
 refine br (tr ?_)
 obtain rfl:=Zc h
 exact hq
theorem ZiC (N:Nat) (a0_:ZX) (c0_:(List Int)) (c1_:(List Int)) (k0_:Nat) (k1_:Nat) (H:List HO) (hH:HP H [.cel k0_ [Zk false c0_],.cel k1_ [Zk false c1_]]) (r:Bool × Int) (h:ZcY N a0_ c0_ c1_=some r):ZbG Try.prog 85 [.agg (Za a0_.Topo),.ptr k0_ 0,.ptr k1_ 0] H (.tup [bv r.1,iv r.2]) H:=by
 unfold ZcY at h
 refine ZbB chk85 rfl rfl rfl (Zv _ _ _ ?_)
 refine sq (rg Zb.f ?_)
 refine tq (sq ?_)
 refine sq ?_
 have hlc1:=HP.get hH 0 rfl
 obtain ⟨r2,hr2,h⟩:=bs h
 refine rg (Zb.u 1 (ZA (H:=H) (id:=k0_) (off:=0) (cs:=[Zk false c0_]) (c:=[Zk false c0_]) (r:=Zk false c0_) (hl:=hlc1)) (Zb.v 0 (Zs (hc:=ZeI N a0_ c0_ r2 hr2)) Zb.f)) (tq ?_)
 refine it h (fun hc3 h => ?_) (fun hc3 h => ?_)
 ·refine sq (rg Zb.f ?_)
  replace hH:HP H []:=HP.pick hH [] rfl
  refine tq (rt ?_)
  refine tr ?_
  obtain rfl:=Zc h
  exact Za1 (by kernel_rfl) (by kernel_rfl)
 refine sk (tq ?_)
 refine kq (sq ?_)
 obtain ⟨j17,hj,h⟩:=bs h
 refine rgR (fun s=>s=⟨[(4,bv j17),(5,iv 0)],[],H⟩) ?_ ?_
 ·clear h
  have hlc4:=HP.get hH 1 rfl
  refine (EP.u 0 (ZA (H:=H) (id:=k1_) (off:=0) (cs:=[Zk false c1_]) (c:=[Zk false c1_]) (r:=Zk false c1_) (hl:=hlc4)) ?_)
  have hlc5:=HP.get hH 0 rfl
  refine (EP.u 0 (ZA (H:=H) (id:=k0_) (off:=0) (cs:=[Zk false c0_]) (c:=[Zk false c0_]) (r:=Zk false c0_) (hl:=hlc5)) ?_)
  obtain ⟨r6,hr6,hj⟩:=bs hj
  refine (EP.v 0 (Zs (hc:=Zjb N c1_ c0_ r6 hr6)) ?_)
  rcases Zt hj with ⟨hc7,hj⟩ | ⟨hc16,hj⟩
  ·refine (EP.u 0 (Zj (c:=(!r6)) (h:=hc7)) ?_)
   have hlc8:=HP.get hH 1 rfl
   refine (EP.u 2 (ZA (H:=H) (id:=k1_) (off:=0) (cs:=[Zk false c1_]) (c:=[Zk false c1_]) (r:=Zk false c1_) (hl:=hlc8)) ?_)
   have hlc9:=HP.get hH 0 rfl
   refine (EP.u 0 (ZA (H:=H) (id:=k0_) (off:=0) (cs:=[Zk false c0_]) (c:=[Zk false c0_]) (r:=Zk false c0_) (hl:=hlc9)) ?_)
   obtain ⟨r10,hr10,hj⟩:=bs hj
   refine (EP.v 0 (Zs (hc:=ZeJ N a0_ c1_ c0_ r10 hr10)) ?_)
   rcases Zt hj with ⟨hc11,hj⟩ | ⟨hc15,hj⟩
   ·refine (EP.u 0 (Zj (c:=(!r10)) (h:=hc11)) ?_)
    have hlc12:=HP.get hH 0 rfl
    refine (EP.u 3 (ZA (H:=H) (id:=k0_) (off:=0) (cs:=[Zk false c0_]) (c:=[Zk false c0_]) (r:=Zk false c0_) (hl:=hlc12)) ?_)
    have hlc13:=HP.get hH 1 rfl
    refine (EP.u 0 (ZA (H:=H) (id:=k1_) (off:=0) (cs:=[Zk false c1_]) (c:=[Zk false c1_]) (r:=Zk false c1_) (hl:=hlc13)) ?_)
    obtain ⟨r14,hr14,hj⟩:=bs hj
    obtain rfl:=Zc hj
    exact (EP.v 0 (Zs (hc:=ZeJ N a0_ c0_ c1_ r14 hr14)) (EP.f (by show _=_;kernel_rfl)))
   obtain rfl:=Zc hj
   exact (EP.u 0 (Zj (c:=(!r10)) (h:=hc15)) (EP.f (by show _=_;kernel_rfl)))
  obtain rfl:=Zc hj
  exact (EP.u 0 (Zj (c:=(!r6)) (h:=hc16)) (EP.f (by show _=_;kernel_rfl)))
 clear hj
 rintro s hR
 obtain rfl:=hR
 refine tq (rt ?_)
 obtain rfl:=Zc h
 exact Za1 (by kernel_rfl) (by kernel_rfl)
theorem ZgQ (N:Nat) (a0_:Zi) (a1_:(List Int)) (r:Int) (h:ZcO N a0_ a1_=some r):Zal Try.prog 92 [.agg (Za a0_),Zk false a1_] (iv r):=by
 unfold ZcO at h
 have hH:HP ([]:List HO) []:=trivial
 refine ZF chk92 rfl rfl (Zv _ _ _ ?_) rfl
 refine sq (rg Zb.f ?_)
 refine tq (sq ?_)
 refine sq ?_
 obtain ⟨r1,hr1,h⟩:=bs h
 refine rg (Zb.v 1 (Zs (hc:=Zer N a0_ r1 hr1)) Zb.f) (tq ?_)
 refine sq (rg Zb.f ?_)
 refine tq (it h (fun hc2 h => ?_) (fun hc2 h => ?_))
 ·refine sq (rg Zb.f ?_)
  refine tq (rt ?_)
  refine tr ?_
  obtain rfl:=Zc h
  exact ZC (by kernel_rfl)
 refine sk (tq ?_)
 refine kq (sq ?_)
 refine sq ?_
 obtain ⟨r3,hr3,h⟩:=bs h
 refine rg (Zb.v 3 (Zs (hc:=ZeI N (ZX.mk a0_) a1_ r3 hr3)) Zb.f) (tq ?_)
 refine it h (fun hc4 h => ?_) (fun hc4 h => ?_)
 ·refine sq (rg Zb.f ?_)
  refine tq (rt ?_)
  refine tr ?_
  obtain rfl:=Zc h
  exact ZC (by kernel_rfl)
 refine sk (tq ?_)
 refine kq (sq ?_)
 refine rg Zb.f (tq ?_)
 refine rt ?_
 obtain rfl:=Zc h
 exact ZC (by kernel_rfl)
theorem ZhV (N:Nat) (a0_:Zi) (a1_:(List Int)) (a2_:ZX→Option ((List Int) × Int)) (a2_f:Nat) (a2_p a2_c:List AV) (ha2_n:(noLocL a2_p&&noLocL a2_c)=true) (its:List Zan) (ha2_:∀ (H:List HO) (x0:ZX) (r:(List Int) × Int),HP H its→a2_ x0=some r→ZfN Try.prog (.fn a2_f a2_p a2_c) [.agg [iv x0.Topo.Nodes,s_eB false x0.Topo.Station,Zh false x0.Topo.Links]] H (.tup [Zk false r.1,iv r.2]) H) (H:List HO) (hH:HP H (its)) (r:(List Int) × Int) (h:ZcE N a0_ a1_ a2_=some r):ZbG Try.prog 96 [.agg (Za a0_),Zk false a1_,.fn a2_f a2_p a2_c] H (.tup [Zk false r.1,iv r.2]) H:=by
 unfold ZcE at h
 refine ZbB chk96 rfl (by simpa [noLocL,ZY.noLocL,ZY] using ha2_n) rfl (Zv _ _ _ ?_)
 refine sq (rg Zb.f ?_)
 refine tq (sq ?_)
 refine rg Zb.f (tq ?_)
 refine sq (sq ?_)
 obtain ⟨r1,hr1,h⟩:=bs h
 refine rg (Zb.v 2 (Zs (hc:=ZgQ N a0_ a1_ r1 hr1)) Zb.f) (tq ?_)
 refine sq (rg Zb.f ?_)
 refine tq (it h (fun hc2 h => ?_) (fun hc2 h => ?_))
 ·refine sq (rg Zb.f ?_)
  refine tq (rt ?_)
  refine tr ?_
  obtain rfl:=Zc h
  exact Za1 (by kernel_rfl) (by kernel_rfl)
 refine sk (tq ?_)
 refine kq (sq ?_)
 obtain ⟨r3,hr3,h⟩:=bs h
 have hvr3:=ha2_ _ (ZX.mk a0_) _ hH hr3
 refine rg (Zb.v 3 (ZcI (H:=H) (ys:=[.agg (Za a0_)]) (hc:=hvr3)) Zb.f) (tq ?_)
 refine rt ?_
 obtain rfl:=Zc h
 exact Za1 (by kernel_rfl) (by kernel_rfl)
theorem ZaO (N:Nat) (a0_:Zi) (a1_:ZE) (a2_:Zm) (a3_:Int) (r:(List ZJ) × Int) (h:ZaX N a0_ a1_ a2_ a3_=some r):Zal Try.prog 12 [.agg (Za a0_),.agg (Zn a1_),.agg (Ze a2_),iv a3_] (.tup [Z1 false r.1,iv r.2]):=by
 unfold ZaX at h
 have hH:HP ([]:List HO) []:=trivial
 refine ZF chk12 rfl rfl (Zv _ _ _ ?_) rfl
 refine sq (rg Zb.f ?_)
 refine tq (sq ?_)
 obtain ⟨r1,hr1,h⟩:=bs h
 refine rg (Zb.v 4 (Zs (hc:=Zhj N a0_ a1_ a2_ a3_ r1 hr1)) Zb.f) (tq ?_)
 refine sq (sq ?_)
 refine rg Zb.f (tq ?_)
 refine it h (fun hc2 h => ?_) (fun hc2 h => ?_)
 ·refine sq (rg Zb.f ?_)
  refine tq (rt ?_)
  refine tr ?_
  obtain rfl:=Zc h
  exact ZC (by kernel_rfl)
 refine sk (tq ?_)
 refine kq (sq ?_)
 obtain ⟨e3,he3,h⟩:=bs h
 obtain ⟨r4,hr4,h⟩:=bs h
 refine rq (Zb.u 6 (Zo (ys:=[Zl false a2_.Routes,iv a3_]) (h:=Zg (eSl 1 eI64) he3)) (Zb.u 0 (Zw (Zq (sz:=1) (off:=0) (cs:=[.sl 1 false (List.map eI64 e3)]) (r:=Zk false e3) (eSl 1 eI64) he3)) (Zb.v 0 (Zs (hc:=Zif N a0_ a1_ a2_ e3 r4 hr4)) Zb.f))) (tq ?_)
 refine rt ?_
 obtain rfl:=Zc h
 exact ZC (by kernel_rfl)
theorem ZaN (N:Nat) (a0_:Zi) (a1_:ZE) (a2_:Zm) (a3_:Int) (r:Int × Int) (h:ZaW N a0_ a1_ a2_ a3_=some r):Zal Try.prog 14 [.agg (Za a0_),.agg (Zn a1_),.agg (Ze a2_),iv a3_] (.tup [iv r.1,iv r.2]):=by
 unfold ZaW at h
 have hH:HP ([]:List HO) []:=trivial
 refine ZF chk14 rfl rfl (Zv _ _ _ ?_) rfl
 refine sq (rg Zb.f ?_)
 refine tq (sq ?_)
 obtain ⟨r1,hr1,h⟩:=bs h
 refine rg (Zb.v 4 (Zs (hc:=Zhj N a0_ a1_ a2_ a3_ r1 hr1)) Zb.f) (tq ?_)
 refine sq (sq ?_)
 refine rg Zb.f (tq ?_)
 refine it h (fun hc2 h => ?_) (fun hc2 h => ?_)
 ·refine sq (rg Zb.f ?_)
  refine tq (rt ?_)
  refine tr ?_
  obtain rfl:=Zc h
  exact ZC (by kernel_rfl)
 refine sk (tq ?_)
 refine kq (sq ?_)
 obtain ⟨e3,he3,h⟩:=bs h
 obtain ⟨r4,hr4,h⟩:=bs h
 refine rq (Zb.u 6 (Zo (ys:=[Zl false a2_.Routes,iv a3_]) (h:=Zg (eSl 1 eI64) he3)) (Zb.u 0 (Zw (Zq (sz:=1) (off:=0) (cs:=[.sl 1 false (List.map eI64 e3)]) (r:=Zk false e3) (eSl 1 eI64) he3)) (Zb.v 0 (Zs (hc:=ZlM N a0_ a1_ a2_ e3 r4 hr4)) Zb.f))) (tq ?_)
 refine rt ?_
 obtain rfl:=Zc h
 exact ZC (by kernel_rfl)
theorem ZiE (N:Nat) (a0_:Zi) (a1_:(List ZaS)) (r:(List Zm)) (h:Zc0 N a0_ a1_=some r):Zal Try.prog 17 [.agg (Za a0_),ZaE false a1_] (Zd false r):=by
 unfold Zc0 at h
 have hH:HP ([]:List HO) []:=trivial
 refine ZF chk17 rfl rfl (Zv _ _ _ ?_) rfl
 refine sq (rg Zb.f ?_)
 refine tq (sq ?_)
 refine rg Zb.f (tq ?_)
 refine sq (sq ?_)
 refine rg Zb.f (tq ?_)
 refine bk ?_
 obtain ⟨o1022,ho1022,h⟩:=bs h
 refine Z8 ((ZT (fun (x:Int × (List Zm)) s=>∃ (a1:AV) (H2:List HO),s=⟨[(1,ZaE false a1_),(2,.loc 2 0),(5,a1),(6,iv x.1)],[(2,(Za a0_))],H2⟩∧HP H2 [.arr a1 10 false (List.map Zf x.2)]) (fun x:Int × (List Zm)=>ZbV N a0_ a1_ x.1 x.2) (fun (p:(List Zm)) e s=>e = .exit 0∧(∃ (a505:AV) (H506:List HO),s=⟨[(5,a505)],[],H506⟩∧HP H506 [.arr a505 10 false (List.map Zf p)])) ?_ N _ o1022 _ ho1022 ⟨(.p (.sl 10 true [])),[],(by show _=_;kernel_rfl),(HP.pick (HP.nilArr hH 10 false) [0] rfl)⟩).mono ?_)
 ·clear h ho1022
  rintro ⟨i3,l4⟩ o s h hR
  obtain ⟨a1,H2,rfl,hH⟩:=hR
  replace hH:HP H2 [.arr a1 10 false (List.map Zf l4)]:=hH
  have hfa1:=Zu (HP.get hH 0 rfl)
  replace h:ZbV N a0_ a1_ i3 l4=some o:=h
  unfold ZbV at h
  refine sq (sq ?_)
  obtain ⟨j510,hj,h⟩:=bs h
  refine rgR (fun s=>s=⟨[(1,ZaE false a1_),(2,.loc 2 0),(5,a1),(6,iv i3),(17,bv j510)],[(2,(Za a0_))],H2⟩) ?_ ?_
  ·clear h
   refine (EP.u 2 (Zo (ys:=[ZaE false a1_]) (h:=ZB Zc5)) ?_)
   rcases Zt hj with ⟨hc507,hj⟩ | ⟨hc509,hj⟩
   ·refine (EP.u 0 (Zj (c:=(decide (i3<((List.length a1_:Nat):Int)))) (h:=hc507)) ?_)
    have hln508:=HP.len (k:=0) (a:=a1) (sz:=10) (frz:=false) (l:=l4) Zf hH rfl
    obtain rfl:=Zc hj
    exact (EP.u 2 (Zo (ys:=[a1]) (by rcases hfa1 with ha1e | ⟨_,_,ha1e⟩<;>subst ha1e<;>kernel_rfl) hln508) (EP.f (by show _=_;rcases hfa1 with ha1e | ⟨_,_,ha1e⟩<;>subst ha1e<;>kernel_rfl)))
   obtain rfl:=Zc hj
   exact (EP.u 0 (Zj (c:=(decide (i3<((List.length a1_:Nat):Int)))) (h:=hc509)) (EP.f (by show _=_;rcases hfa1 with ha1e | ⟨_,_,ha1e⟩<;>subst ha1e<;>kernel_rfl)))
  clear hj
  rintro s hR
  obtain rfl:=hR
  refine tq (it h (fun hc511 h => ?_) (fun hc511 h => ?_))
  ·refine sk (tq ?_)
   refine kq ?_
   obtain ⟨j1014,hj1014,h⟩:=bs h
   refine Zcu [1,2,5,6] (fun s=>∃ (a1012:AV) (H1013:List HO),s=⟨[(1,ZaE false a1_),(2,.loc 2 0),(5,a1012),(6,iv i3)],[(2,(Za a0_))],H1013⟩∧HP H1013 [.arr a1012 10 false (List.map Zf j1014)]) ?_ ?_
   ·clear h
    have h:=hj1014
    refine bk (sq ?_)
    obtain ⟨e1015,he1015,h⟩:=bs h
    have hln1016:=HP.len (k:=0) (a:=a1) (sz:=10) (frz:=false) (l:=l4) Zf hH rfl
    obtain ⟨r1017,hr1017,h⟩:=bs h
    refine rqS (hs:=(by rcases hfa1 with ha1e | ⟨_,_,ha1e⟩<;>subst ha1e<;>kernel_rfl)) ⟨[(1,ZaE false a1_),(2,.loc 2 0),(5,a1),(6,iv i3),(7,.loc 7 0),(8,bv r1017.2)],[(2,(Za a0_)),(7,(Ze r1017.1))],H2⟩ (Zb.u 2 (Zo (ys:=[ZaE false a1_,iv i3]) (h:=Zg Zc5 he1015)) (Zb.u 0 (Zw (Zq (sz:=8) (off:=0) (cs:=[.bool e1015.Reserved,.bool e1015.Two,.int .u8 e1015.Node,.int .u8 e1015.Way,.int .u8 e1015.Size,.int .u8 e1015.Period,.int .u8 e1015.Burst,.int .u16 e1015.Rate]) (r:=.agg (ZG e1015)) Zc5 he1015)) (Zb.u 2 (Zo (ys:=[a1]) (by rcases hfa1 with ha1e | ⟨_,_,ha1e⟩<;>subst ha1e<;>kernel_rfl) hln1016) (Zb.u 1 (Zaw (hc:=Zgc N e1015 a0_ (w64 (((List.length l4:Nat):Int)+1)) r1017 hr1017)) (Zb.f (h:=(by rcases hfa1 with ha1e | ⟨_,_,ha1e⟩<;>subst ha1e<;>kernel_rfl))))))) (by rcases hfa1 with ha1e | ⟨_,_,ha1e⟩<;>subst ha1e<;>kernel_rfl) ?_
    refine tq (sq ?_)
    refine rgS ⟨[(1,ZaE false a1_),(2,.loc 2 0),(5,a1),(6,iv i3),(7,.loc 7 0),(32,bv r1017.2)],[(2,(Za a0_)),(7,(Ze r1017.1))],H2⟩ Zb.f (by rcases hfa1 with ha1e | ⟨_,_,ha1e⟩<;>subst ha1e<;>kernel_rfl) ?_
    refine tq (it h (fun hc1018 h => ?_) (fun hc1018 h => ?_))
    ·obtain ⟨l1021,hl1021,h⟩:=bs h
     obtain ⟨a1019,H1020,ha1019,hH⟩:=HP.app (k:=0) (a:=a1) (sz:=10) (frz:=false) Zf hH rfl hl1021
     replace hH:HP H1020 [.arr a1019 10 false (List.map Zf l1021)]:=hH
     have hfa1019:=Zu (HP.get hH 0 rfl)
     refine rgS ⟨[(1,ZaE false a1_),(2,.loc 2 0),(5,a1019),(6,iv i3)],[(2,(Za a0_))],H1020⟩ (Zb.h 3 (ZdH (H:=H2) (a:=a1) (b:=Zd true [r1017.1]) (by rcases hfa1 with ha1e | ⟨_,_,ha1e⟩<;>subst ha1e<;>kernel_rfl) (by rcases hfa1 with ha1e | ⟨_,_,ha1e⟩<;>subst ha1e<;>kernel_rfl) (by rcases hfa1 with ha1e | ⟨_,_,ha1e⟩<;>subst ha1e<;>kernel_rfl) (by rcases hfa1 with ha1e | ⟨_,_,ha1e⟩<;>subst ha1e<;>kernel_rfl) ha1019) Zb.f) (by rcases hfa1 with ha1e | ⟨_,_,ha1e⟩<;>rcases hfa1019 with ha1019e | ⟨_,_,ha1019e⟩<;>subst ha1e ha1019e<;>kernel_rfl) ?_
     refine bn ?_
     obtain rfl:=Zc h
     exact ⟨rfl,⟨a1019,H1020,(by show _=_;rcases hfa1019 with ha1019e | ⟨_,_,ha1019e⟩<;>subst ha1019e<;>kernel_rfl),(HP.pick hH [0] rfl)⟩⟩
    refine sk (bn ?_)
    obtain rfl:=Zc h
    exact ⟨rfl,⟨a1,H2,(by show _=_;rcases hfa1 with ha1e | ⟨_,_,ha1e⟩<;>subst ha1e<;>kernel_rfl),(HP.pick hH [0] rfl)⟩⟩
   clear hj1014
   rintro s hR
   obtain ⟨a1012,H1013,rfl,hH⟩:=hR
   replace hH:HP H1013 [.arr a1012 10 false (List.map Zf j1014)]:=hH
   have hfa1012:=Zu (HP.get hH 0 rfl)
   refine rgS ⟨[(1,ZaE false a1_),(2,.loc 2 0),(5,a1012),(6,iv (w64 (i3+1)))],[(2,(Za a0_))],H1013⟩ Zb.f (by rcases hfa1012 with ha1012e | ⟨_,_,ha1012e⟩<;>subst ha1012e<;>kernel_rfl) ?_
   obtain rfl:=Zc h
   exact ⟨_,rfl,⟨a1012,H1013,(by show _=_;rcases hfa1012 with ha1012e | ⟨_,_,ha1012e⟩<;>subst ha1012e<;>kernel_rfl),(HP.pick hH [0] rfl)⟩⟩
  refine kq (xq ?_)
  refine tx ?_
  obtain rfl:=Zc h
  exact ⟨_,rfl,rfl,⟨a1,H2,(by show _=_;rcases hfa1 with ha1e | ⟨_,_,ha1e⟩<;>subst ha1e<;>kernel_rfl),(HP.pick hH [0] rfl)⟩⟩
 rintro e s hq
 obtain ⟨rfl,hR⟩:=hq
 obtain ⟨a505,H506,rfl,hH⟩:=hR
 replace hH:HP H506 [.arr a505 10 false (List.map Zf o1022)]:=hH
 have hfa505:=Zu (HP.get hH 0 rfl)
 refine bx (tq ?_)
 refine sq (rgS ⟨[(4,a505)],[],H506⟩ Zb.f (by rcases hfa505 with ha505e | ⟨_,_,ha505e⟩<;>subst ha505e<;>kernel_rfl) ?_)
 refine tq (rt ?_)
 obtain rfl:=Zc h
 exact ZdO (H:=H506) (ys:=[a505]) (xs:=[.p (.sl 10 false (List.map Zf o1022))]) (by rcases hfa505 with ha505e | ⟨_,_,ha505e⟩<;>subst ha505e<;>kernel_rfl) (by rcases hfa505 with ha505e | ⟨_,_,ha505e⟩<;>subst ha505e<;>kernel_rfl) (ZaU (HP.pure (k:=0) (frz:=false) Zf hH rfl).2 ZbM) (by kernel_rfl)
theorem ZhU (N:Nat) (a0_:Zi) (a1_:(List Int)) (a2_:ZX→Option (Bool × Int)) (a2_f:Nat) (a2_p a2_c:List AV) (ha2_n:(noLocL a2_p&&noLocL a2_c)=true) (its:List Zan) (ha2_:∀ (H:List HO) (x0:ZX) (r:Bool × Int),HP H its→a2_ x0=some r→ZfN Try.prog (.fn a2_f a2_p a2_c) [.agg [iv x0.Topo.Nodes,s_eB false x0.Topo.Station,Zh false x0.Topo.Links]] H (.tup [bv r.1,iv r.2]) H) (H:List HO) (hH:HP H (its)) (r:Bool × Int) (h:ZcD N a0_ a1_ a2_=some r):ZbG Try.prog 84 [.agg (Za a0_),Zk false a1_,.fn a2_f a2_p a2_c] H (.tup [bv r.1,iv r.2]) H:=by
 unfold ZcD at h
 refine ZbB chk84 rfl (by simpa [noLocL,ZY.noLocL,ZY] using ha2_n) rfl (Zv _ _ _ ?_)
 refine sq (rg Zb.f ?_)
 refine tq (sq ?_)
 refine rg Zb.f (tq ?_)
 refine sq (sq ?_)
 obtain ⟨r1,hr1,h⟩:=bs h
 refine rg (Zb.v 2 (Zs (hc:=ZgQ N a0_ a1_ r1 hr1)) Zb.f) (tq ?_)
 refine sq (rg Zb.f ?_)
 refine tq (it h (fun hc2 h => ?_) (fun hc2 h => ?_))
 ·refine sq (rg Zb.f ?_)
  refine tq (rt ?_)
  refine tr ?_
  obtain rfl:=Zc h
  exact Za1 (by kernel_rfl) (by kernel_rfl)
 refine sk (tq ?_)
 refine kq (sq ?_)
 obtain ⟨r3,hr3,h⟩:=bs h
 have hvr3:=ha2_ _ (ZX.mk a0_) _ hH hr3
 refine rg (Zb.v 3 (ZcI (H:=H) (ys:=[.agg (Za a0_)]) (hc:=hvr3)) Zb.f) (tq ?_)
 refine rt ?_
 obtain rfl:=Zc h
 exact Za1 (by kernel_rfl) (by kernel_rfl)
theorem Zj0 (N:Nat) (a0_:Zi) (a1_:(List Int)) (r:(List Int) × Int) (h:ZcN N a0_ a1_=some r):Zal Try.prog 91 [.agg (Za a0_),Zk false a1_] (.tup [Zk false r.1,iv r.2]):=by
 unfold ZcN at h
 have hH:HP ([]:List HO) []:=trivial
 refine ZF chk91 rfl rfl (Zv _ _ _ ?_) rfl
 refine sq ?_
 obtain ⟨id1,H2,hid1,hH2,hH⟩:=HP.newCell hH [Zk false a1_]
 replace hH:HP H2 [.cel id1 [Zk false a1_]]:=hH
 refine rg (Zb.h 1 (Zdi (H:=[]) (v:=Zk false a1_) (hid:=hid1) (hH:=hH2)) Zb.f) (tq ?_)
 refine sq ?_
 have hlc3:=HP.get hH 0 rfl
 obtain ⟨r4,hr4,h⟩:=bs h
 have hvr4:=(ZhV N a0_ a1_ (fun x0=>ZdA N x0 a1_)   97 [] [.ptr id1 0] (by kernel_rfl) [.cel id1 [Zk false a1_]] (fun H x0 r hH h=>ZfN.of (by kernel_rfl) (ZiB N  x0 a1_ id1 H hH r h)) H2 (HP.now (HP.pick hH [0] rfl)) r4 hr4)
 refine rg (Zb.u 1 (ZA (H:=H2) (id:=id1) (off:=0) (cs:=[Zk false a1_]) (c:=[Zk false a1_]) (r:=Zk false a1_) (hl:=hlc3)) (Zb.v 1 (Zgu (H:=H2) (ys:=[.agg (Za a0_),Zk false a1_,.fn 97 [] [.ptr id1 0]]) (by kernel_rfl) (by kernel_rfl) (by kernel_rfl) hvr4) Zb.f)) ?_
 replace hH:HP H2 []:=HP.pick hH [] rfl
 refine tq (rt ?_)
 obtain rfl:=Zc h
 exact ZC (by kernel_rfl)
end Go.Sh

