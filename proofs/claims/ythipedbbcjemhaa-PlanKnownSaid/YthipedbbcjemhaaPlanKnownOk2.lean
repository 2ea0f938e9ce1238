/- Part of the proof. -/
import Derived.Test.YthipedbbcjemhaaPlanKnownOk1
namespace Go.Sh
open Go Go.Eng Go.Proofs
set_option maxRecDepth 100000
set_option maxHeartbeats 4000000
attribute [local irreducible] vc ev ZcK opsD opsF ZeM upd updH updO
theorem Zgo (N:Nat)(a0_:(List ZP))(r:Int×Int)(h:ZdL N a0_=some r):PCall Try.prog 48 [Z7 false a0_] (.tup [iv r.1,iv r.2]):=by
 unfold ZdL at h
 have hH:HP ([]:List HO) []:=trivial
 refine ZE Zw2 rfl rfl (Zq _ _ _ ?_) rfl
 refine sq (rg Za.f (tq (sq (sq ?_))))
 obtain ⟨r1,hr1,h⟩:=bs h
 refine rg (Za.v 1 (Zp (hc:=Ze4 N a0_ r1 hr1)) Za.f) (tq (sq (rg Za.f (tq (it h (fun hc2 h=>?_) (fun hc2 h=>?_))))))
 ·refine sq (rg Za.f (tq (rt (tr ?_))))
  obtain rfl:=Zb h
  exact Zu kr
 refine sk (tq (kq (sq ?_)))
 obtain ⟨l5,hl5,h⟩:=bs h
 obtain ⟨a3,H4,ha3,hH4,ha3b,hH⟩:=HP.make eI64 hH hl5
 replace hH:HP _ [.arr a3 1 false (List.map eI64 l5)]:=hH
 have hfa3:=ZaB (HP.get hH 0 rfl)
 refine rgS ⟨[(0,Z7 false a0_),(5,a3)],[],H4⟩ (Za.u 1 (Zo (ys:=[Z7 false a0_]) (h:=Zv Zab)) (Za.h 0 (ZfG (H:=[]) (zero:=[.int .i64 0]) (bytes:=8) kr kr kr ha3 hH4 ha3b) Za.f)) (by cases hfa3<;>kernel_rfl) (tq (sq (sq (rgS ⟨[(5,a3),(17,Z7 false a0_),(18,iv ((List.length a0_:Nat):Int)),(19,iv 0)],[],H4⟩ (Za.u 1 (Zo (ys:=[Z7 false a0_]) (h:=Zv Zab)) Za.f) (by cases hfa3<;>kernel_rfl) (tq (bk ?_))))))
 obtain ⟨a4,ab,h⟩:=bs h
 refine Z9 ((ZV (fun (x:Int×(List Int)) s=>∃ (a6:AV) (H7:List HO),s=⟨[(5,a6),(17,Z7 false a0_),(18,iv ((List.length a0_:Nat):Int)),(19,iv x.1)],[],H7⟩∧HP H7 [.arr a6 1 false (List.map eI64 x.2)]) (fun x:Int×(List Int)=>ZbA N a0_ x.1 x.2) (fun (p:(List Int)) e s=>e=.exit 0∧(∃ (a1:AV) (aa:List HO),s=⟨[(5,a1)],[],aa⟩∧HP aa [.arr a1 1 false (List.map eI64 p)])) ?_ N _ a4 _ ab ⟨a3,H4,(by show _=_;cases hfa3<;>kernel_rfl),(HP.pick hH [0] rfl)⟩).mono ?_)
 ·clear h ab
  rintro ⟨i8,l9⟩ o s h hR
  obtain ⟨a6,H7,rfl,hH⟩:=hR
  replace hH:HP _ [.arr a6 1 false (List.map eI64 l9)]:=hH
  have hfa6:=ZaB (HP.get hH 0 rfl)
  replace h:ZbA N a0_ i8 l9=some o:=h
  unfold ZbA at h
  refine sq (rgS ⟨[(5,a6),(17,Z7 false a0_),(18,iv ((List.length a0_:Nat):Int)),(19,iv i8),(20,bv (decide (i8<((List.length a0_:Nat):Int))))],[],H7⟩ Za.f (by cases hfa6<;>kernel_rfl) (tq (sq (it h (fun ak h=>?_) (fun ak h=>?_)))))
  ·refine sk (tq (kq (sq (bk (sq ?_)))))
   obtain ⟨a0,ad,h⟩:=bs h
   refine rgS ⟨[(5,a6),(6,iv i8),(7,.loc 7 0),(17,Z7 false a0_),(18,iv ((List.length a0_:Nat):Int)),(19,iv i8)],[(7,(ZaE a0))],H7⟩ (Za.u 1 (Zo (ys:=[Z7 false a0_,iv i8]) (h:=Zn Zab ad)) (Za.u 0 (ZD (sz:=3) (off:=0) (cs:=[.int .i64 a0.Period,.int .i64 a0.From,.int .i64 a0.Long]) (r:=.agg (ZaE a0)) Zab ad) (Za.f (h:=(by cases hfa6<;>kernel_rfl))))) (by cases hfa6<;>kernel_rfl) (tq ?_)
   obtain ⟨aq,ac,h⟩:=bs h
   obtain ⟨ap,am,_,a8,ae,a9,a7⟩:=HP.elem (k:=0) (a:=a6) (sz:=1) (frz:=false) eI64 hH rfl ac
   obtain ⟨af,al,hH⟩:=HP.setRow (k:=0) (off:=0) (cs:=[iv a0.Period]) (ps:=[.int .i64 a0.Period]) (e':=a0.Period) eI64 hH rfl a9 ae (a8 rfl) ac kr kr
   replace hH:HP _ [.arr a6 1 false (List.map eI64 (List.set l9 (Int.toNat i8) a0.Period))]:=hH
   refine rgS ⟨[(5,a6),(17,Z7 false a0_),(18,iv ((List.length a0_:Nat):Int)),(19,iv i8)],[],af⟩ (Za.u 4 (Zo (ys:=[a6,iv i8]) (by cases hfa6<;>kernel_rfl) (a7 .i64)) (Za.o 0 (Zaa (H:=H7) (v:=iv a0.Period) (hw:=al)) Za.f)) (by cases hfa6<;>kernel_rfl) (bn (tq (rgS ⟨[(5,a6),(17,Z7 false a0_),(18,iv ((List.length a0_:Nat):Int)),(19,iv (w64 (i8+1)))],[],af⟩ Za.f (by cases hfa6<;>kernel_rfl) ?_)))
   obtain rfl:=Zb h
   exact ⟨_,rfl,⟨a6,af,(by show _=_;cases hfa6<;>kernel_rfl),(HP.pick hH [0] rfl)⟩⟩
  refine kq (xq (tx ?_))
  obtain rfl:=Zb h
  exact ⟨_,rfl,rfl,⟨a6,H7,(by show _=_;cases hfa6<;>kernel_rfl),(HP.pick hH [0] rfl)⟩⟩
 rintro e s hq
 obtain ⟨rfl,hR⟩:=hq
 obtain ⟨a1,aa,rfl,hH⟩:=hR
 replace hH:HP _ [.arr a1 1 false (List.map eI64 a4)]:=hH
 have a2:=ZaB (HP.get hH 0 rfl)
 refine bx (tq (sq ?_))
 obtain ⟨ag,ai,h⟩:=bs h
 obtain ⟨ao,an,a5,hH⟩:=HP.frz (k:=0) (a:=a1) (sz:=1) (frz:=false) eI64 hH rfl
 replace hH:HP _ [.arr a1 1 true (List.map eI64 a4)]:=hH
 refine rgS ⟨[(8,iv ag)],[],ao⟩ (Za.v 1 (Zgs (H:=aa) (ys:=[iv 960,a1]) (by cases a2<;>kernel_rfl) (by cases a2<;>kernel_rfl) (Zer rfl (Zer a5 Zgw)) (ZgR N 960 a4 ag ai)) Za.f) kr ?_
 replace hH:HP _ []:=HP.pick hH [] rfl
 refine tq (sq (sq (rg Za.f (tq (it h (fun aj h=>?_) (fun aj h=>?_))))))
 ·refine sq (rg Za.f (tq (rt (tr ?_))))
  obtain rfl:=Zb h
  exact Zu kr
 refine sk (tq (kq (sq (rg Za.f (tq (rt ?_))))))
 obtain rfl:=Zb h
 exact Zu kr
theorem Zgn (N:Nat)(a0_:ZP)(a1_:ZP)(r:Bool)(h:ZdK N a0_ a1_=some r):PCall Try.prog 57 [.agg (ZaE a0_),.agg (ZaE a1_)] (bv r):=by
 unfold ZdK at h
 have hH:HP ([]:List HO) []:=trivial
 refine ZE ZwT rfl rfl (Zq _ _ _ ?_) rfl
 refine sq (rg Za.f (tq (sq (sq (rg Za.f (tq (it h (fun hc1 h=>?_) (fun hc1 h=>?_))))))))
 ·refine sq (rg Za.f (tq (rt (tr ?_))))
  obtain rfl:=Zb h
  exact Zu kr
 refine sk (tq (kq (sq ?_)))
 obtain ⟨r2,hr2,h⟩:=bs h
 refine rg (Za.v 2 (Zp (hc:=ZgQ N a0_ a1_ r2 hr2)) Za.f) (tq (sq ?_))
 obtain ⟨r3,hr3,h⟩:=bs h
 refine rg (Za.v 6 (Zp (hc:=Zht N (w64 (a1_.From-a0_.From)) r2.2.2 r3 hr3)) Za.f) (tq (sq (rgX ⟨[(4,bv ((decide (r2.1≤r3))&&(decide (r3≤r2.2.1))))],[],[]⟩ ?_ ?_)))
 ·rcases Bool.eq_false_or_eq_true (decide (r2.1≤r3)) with hc4|hc5
  ·exact (EP.u 2 (Zh (c:=(decide (r2.1≤r3))) (h:=hc4)) (EP.f (by simp only [hc4];kernel_rfl)))
  exact (EP.u 2 (Zh (c:=(decide (r2.1≤r3))) (h:=hc5)) (EP.f (by simp only [hc5];kernel_rfl)))
 refine tq (rt ?_)
 obtain rfl:=Zb h
 exact Zu kr
theorem ZhT (N:Nat)(a0_:Zs)(r:Bool)(h:Zfw N a0_=some r):PCall Try.prog 62 [.agg (Zc a0_)] (bv r):=by
 unfold Zfw at h
 have hH:HP ([]:List HO) []:=trivial
 refine ZE ZwQ rfl rfl (Zq _ _ _ ?_) rfl
 refine sq ?_
 obtain ⟨id1,H2,hid1,hH2,hH⟩:=HP.newCell hH (Zc a0_)
 replace hH:HP _ [.cel id1 (Zc a0_)]:=hH
 refine rg (Za.h 0 (ZaL (H:=[]) (v:=.agg (Zc a0_)) (hid:=hid1) (hH:=hH2)) Za.f) (tq (sq (rg Za.f (tq (sq (sq ?_))))))
 have hlc3:=HP.get hH 0 rfl
 refine rg (Za.u 1 (Zm (H:=H2) (id:=id1) (off:=2) (cs:=(Zc a0_)) (c:=[Zk false a0_.Links]) (r:=Zk false a0_.Links) (hl:=hlc3)) (Za.u 0 (Zo (ys:=[Zk false a0_.Links]) (h:=Zv ZL)) Za.f)) (tq (bk ?_))
 obtain ⟨a5,a0,h⟩:=bs h
 refine Z9 ((ZV (fun (x:Int) s=>s=⟨[(3,.loc 3 0),(14,iv ((List.length a0_.Links:Nat):Int)),(15,iv x)],[(3,[.fn 82 [] [.ptr id1 0],.fn 84 [] [.ptr id1 0],.fn 85 [] [.ptr id1 0],.fn 86 [] [.ptr id1 0]])],H2⟩) (fun x:Int=>Zcv N a0_ x) (fun (p:(Unit)⊕(Bool)) e s=>match p with|(.inl p)=>e=.exit 0∧(s=⟨[],[],H2⟩)|(.inr p)=>e=.ret∧∃ xs,resL s i62.res=some xs∧ZaA xs=bv p) ?_ N _ a5 _ a0 kr).mono ?_)
 ·clear h a0
  rintro i4 o s h hR
  obtain rfl:=hR
  replace h:Zcv N a0_ i4=some o:=h
  unfold Zcv at h
  refine sq (rg Za.f (tq (sq (it h (fun ae h=>?_) (fun ae h=>?_)))))
  ·refine sk (tq (kq (sq (bk (sq (rg Za.f (tq (sq (rg Za.f (tq (bk (Zio 18 (Za7 (sq (rg Za.f (tq (sq (Zcj kr (sk (tq (kq (sq (bk (sq (rg Za.f (tq (sq ?_)))))))))))))))))))))))))))
   obtain ⟨aj,a9,h⟩:=bs h
   have a4:=(ZgH N i4 a0_ id1 H2 (HP.now (HP.pick hH [0] rfl)) aj a9)
   refine rg (Za.v 2 (Zaj (H:=H2) (fv:=.fn 82 [] [.ptr id1 0]) (ys:=[iv i4]) (hc:=Zb2.of kr a4)) Za.f) (tq (it h (fun ad h=>?_) (fun ad h=>?_)))
   ·refine sq (rg Za.f ?_)
    replace hH:HP _ []:=HP.pick hH [] rfl
    refine tq (rt (br (tr (tr (br (br (tr ?_)))))))
    obtain rfl:=Zb h
    exact ⟨_,rfl,rfl,Zu kr⟩
   refine sk (bn (tq (kq (rg Za.f (tq (Za7 (sq (rg Za.f (tq (sq (Zcj kr (sk (tq (kq (sq (bk (sq (rg Za.f (tq (sq ?_))))))))))))))))))))
   obtain ⟨ai,a8,h⟩:=bs h
   have a3:=(ZgG N i4 a0_ id1 H2 (HP.now (HP.pick hH [0] rfl)) ai a8)
   refine rg (Za.v 2 (Zaj (H:=H2) (fv:=.fn 84 [] [.ptr id1 0]) (ys:=[iv i4]) (hc:=Zb2.of kr a3)) Za.f) (tq (it h (fun ac h=>?_) (fun ac h=>?_)))
   ·refine sq (rg Za.f ?_)
    replace hH:HP _ []:=HP.pick hH [] rfl
    refine tq (rt (br (tr (tr (br (br (tr ?_)))))))
    obtain rfl:=Zb h
    exact ⟨_,rfl,rfl,Zu kr⟩
   refine sk (bn (tq (kq (rg Za.f (tq (Za7 (sq (rg Za.f (tq (sq (Zcj kr (sk (tq (kq (sq (bk (sq (rg Za.f (tq (sq ?_))))))))))))))))))))
   obtain ⟨ag,a7,h⟩:=bs h
   have a2:=(ZgF N i4 a0_ id1 H2 (HP.now (HP.pick hH [0] rfl)) ag a7)
   refine rg (Za.v 2 (Zaj (H:=H2) (fv:=.fn 85 [] [.ptr id1 0]) (ys:=[iv i4]) (hc:=Zb2.of kr a2)) Za.f) (tq (it h (fun ab h=>?_) (fun ab h=>?_)))
   ·refine sq (rg Za.f ?_)
    replace hH:HP _ []:=HP.pick hH [] rfl
    refine tq (rt (br (tr (tr (br (br (tr ?_)))))))
    obtain rfl:=Zb h
    exact ⟨_,rfl,rfl,Zu kr⟩
   refine sk (bn (tq (kq (rg Za.f (tq (Za7 (sq (rg Za.f (tq (sq (Zcj kr (sk (tq (kq (sq (bk (sq (rg Za.f (tq (sq ?_))))))))))))))))))))
   obtain ⟨af,a6,h⟩:=bs h
   have a1:=(ZgE N i4 a0_ id1 H2 (HP.now (HP.pick hH [0] rfl)) af a6)
   refine rg (Za.v 2 (Zaj (H:=H2) (fv:=.fn 86 [] [.ptr id1 0]) (ys:=[iv i4]) (hc:=Zb2.of kr a1)) Za.f) (tq (it h (fun aa h=>?_) (fun aa h=>?_)))
   ·refine sq (rg Za.f ?_)
    replace hH:HP _ []:=HP.pick hH [] rfl
    refine tq (rt (br (tr (tr (br (br (tr ?_)))))))
    obtain rfl:=Zb h
    exact ⟨_,rfl,rfl,Zu kr⟩
   refine sk (bn (tq (kq (rg Za.f (tq (Za7 (sq (rg Za.f (tq (sq (Zjs kr (kq (xq (tx (tx (bx (bn (tq (rg Za.f ?_)))))))))))))))))))
   obtain rfl:=Zb h
   exact ⟨_,rfl,kr⟩
  refine kq ?_
  replace hH:HP _ []:=HP.pick hH [] rfl
  refine xq (tx ?_)
  obtain rfl:=Zb h
  exact ⟨_,rfl,rfl,kr⟩
 rintro e s hq
 rcases a5 with al|ak
 ·dsimp only at h hq
  obtain ⟨rfl,hR⟩:=hq
  obtain rfl:=hR
  replace hH:HP _ []:=HP.pick hH [] rfl
  refine bx (tq (sq (rg Za.f (tq (rt ?_)))))
  obtain rfl:=Zb h
  exact Zu kr
 dsimp only at h hq
 obtain ⟨rfl,hq⟩:=hq
 refine br (tr ?_)
 obtain rfl:=Zb h
 exact hq
theorem ZfB (N:Nat)(c0_:Zt)(k0_:Nat)(H:List HO)(hH:HP H [.cel k0_ (Zf c0_)])(r:Bool)(h:Zdf N c0_=some r):Zao Try.prog 70 [.ptr k0_ 0] H (bv r) H:=by
 unfold Zdf at h
 refine Zaz ZwI rfl rfl rfl (Zq _ _ _ (sq (rg Za.f (tq (sq (sq ?_))))))
 have hlc1:=HP.get hH 0 rfl
 refine rg (Za.u 1 (Zm (H:=H) (id:=k0_) (off:=3) (cs:=(Zf c0_)) (c:=[iv c0_.Class]) (r:=iv c0_.Class) (hl:=hlc1)) Za.f) (tq (bk (sq (rg Za.f (tq (it h (fun hc2 h=>?_) (fun hc2 h=>?_)))))))
 ·refine sq ?_
  obtain ⟨j8,hj,h⟩:=bs h
  refine rgR (fun s=>s=⟨[(1,bv j8)],[],H⟩) ?_ ?_
  ·clear h
   have hlc3:=HP.get hH 0 rfl
   refine (EP.u 1 (Zm (H:=H) (id:=k0_) (off:=5) (cs:=(Zf c0_)) (c:=[iv c0_.Period]) (r:=iv c0_.Period) (hl:=hlc3)) ?_)
   obtain ⟨r4,hr4,hj⟩:=bs hj
   rcases Zz hj with ⟨hc5,hj⟩|⟨hc7,hj⟩
   ·refine (EP.h 0 (Zac kr (ZT N c0_.Period 1 240 r4 hr4) hc5) ?_)
    have hlc6:=HP.get hH 0 rfl
    obtain rfl:=Zb hj
    exact (EP.u 2 (Zm (H:=H) (id:=k0_) (off:=6) (cs:=(Zf c0_)) (c:=(Zcg c0_.Bucket)) (r:=.agg (Zcg c0_.Bucket)) (hl:=hlc6)) (EP.f kr))
   obtain rfl:=Zb hj
   exact (EP.h 0 (Zac kr (ZT N c0_.Period 1 240 r4 hr4) hc7) (EP.f kr))
  clear hj
  rintro s hR
  obtain rfl:=hR
  refine tq (rt (br (tr ?_)))
  obtain rfl:=Zb h
  exact Zai kr kr
 refine sq (rg Za.f (tq (it h (fun hc9 h=>?_) (fun hc9 h=>?_))))
 ·refine sq ?_
  obtain ⟨aa,hj,h⟩:=bs h
  refine rgR (fun s=>s=⟨[(1,bv aa)],[],H⟩) ?_ ?_
  ·clear h
   have a3:=HP.get hH 0 rfl
   refine (EP.u 1 (Zm (H:=H) (id:=k0_) (off:=5) (cs:=(Zf c0_)) (c:=[iv c0_.Period]) (r:=iv c0_.Period) (hl:=a3)) ?_)
   rcases Zz hj with ⟨a9,hj⟩|⟨a6,hj⟩
   ·refine (EP.u 0 (Zh (c:=(c0_.Period==0)) (h:=a9)) ?_)
    have a2:=HP.get hH 0 rfl
    refine (EP.u 2 (Zm (H:=H) (id:=k0_) (off:=6) (cs:=(Zf c0_)) (c:=(Zcg c0_.Bucket)) (r:=.agg (Zcg c0_.Bucket)) (hl:=a2)) ?_)
    obtain ⟨a4,a5,hj⟩:=bs hj
    refine (EP.v 0 (Zp (hc:=Zhi N c0_.Bucket a4 a5)) ?_)
    rcases Zz hj with ⟨a8,hj⟩|⟨a7,hj⟩
    ·refine (EP.u 0 (Zh (c:=(a4==0)) (h:=a8)) ?_)
     have a1:=HP.get hH 0 rfl
     refine (EP.u 4 (Zm (H:=H) (id:=k0_) (off:=6) (cs:=(Zf c0_)) (c:=[iv c0_.Bucket.Burst]) (r:=iv c0_.Bucket.Burst) (hl:=a1)) ?_)
     have a0:=HP.get hH 0 rfl
     obtain rfl:=Zb hj
     exact (EP.u 1 (Zm (H:=H) (id:=k0_) (off:=4) (cs:=(Zf c0_)) (c:=[iv c0_.Size]) (r:=iv c0_.Size) (hl:=a0)) (EP.f kr))
    obtain rfl:=Zb hj
    exact (EP.u 0 (Zh (c:=(a4==0)) (h:=a7)) (EP.f kr))
   obtain rfl:=Zb hj
   exact (EP.u 0 (Zh (c:=(c0_.Period==0)) (h:=a6)) (EP.f kr))
  clear hj
  rintro s hR
  obtain rfl:=hR
  refine tq (rt (br (tr ?_)))
  obtain rfl:=Zb h
  exact Zai kr kr
 refine sk (bn (tq (kq ?_)))
 replace hH:HP _ []:=HP.pick hH [] rfl
 refine sq (rg Za.f (tq (rt ?_)))
 obtain rfl:=Zb h
 exact Zai kr kr
theorem ZcQ (N:Nat)(a0_:ZK)(a1_:(List Int))(a2_:(List Int))(r:Bool)(h:Zbz N a0_ a1_ a2_=some r):PCall Try.prog 94 [.agg (Zc a0_.Topo),Zi false a1_,Zi false a2_] (bv r):=by
 unfold Zbz at h
 have hH:HP ([]:List HO) []:=trivial
 refine ZE Zwk rfl rfl (Zq _ _ _ ?_) rfl
 refine sq (rg Za.f (tq (sq ?_)))
 obtain ⟨r1,hr1,h⟩:=bs h
 refine rg (Za.v 2 (Zp (hc:=ZbE N a0_ a1_ r1 hr1)) Za.f) (tq (sq (rg (Za.u 1 (Zo (ys:=[Zi false r1]) (h:=Zv eI64)) Za.f) (tq (sq ?_)))))
 obtain ⟨r2,hr2,h⟩:=bs h
 refine rg (Za.v 2 (Zp (hc:=ZbE N a0_ a2_ r2 hr2)) Za.f) (tq (sq (sq ?_)))
 obtain ⟨l3,hl3,h⟩:=bs h
 refine rg (Za.u 3 (Zo (ys:=[Zi false r1,iv 1,iv (w64 (((List.length r1:Nat):Int)-1)),iv (w64 (((List.length r1:Nat):Int)-1))]) (h:=Zim eI64 hl3)) (Za.u 0 (Zo (ys:=[Zi true l3]) (h:=Zv eI64)) Za.f)) (tq (bk ?_))
 obtain ⟨a3,a0,h⟩:=bs h
 refine Z9 ((ZV (fun (x:Int) s=>s=⟨[(9,Zi false r2),(24,Zi true l3),(25,iv ((List.length l3:Nat):Int)),(26,iv x)],[],[]⟩) (fun x:Int=>ZaW N r2 l3 x) (fun (p:(Unit)⊕(Bool)) e s=>match p with|(.inl p)=>e=.exit 0∧(s=⟨[],[],[]⟩)|(.inr p)=>e=.ret∧∃ xs,resL s i94.res=some xs∧ZaA xs=bv p) ?_ N _ a3 _ a0 kr).mono ?_)
 ·clear h a0
  rintro i4 o s h hR
  obtain rfl:=hR
  replace h:ZaW N r2 l3 i4=some o:=h
  unfold ZaW at h
  refine sq (rg Za.f (tq (sq (it h (fun a6 h=>?_) (fun a6 h=>?_)))))
  ·refine sk (tq (kq (sq (bk (sq ?_)))))
   obtain ⟨a2,a1,h⟩:=bs h
   refine rg (Za.u 0 (Zo (ys:=[Zi true l3,iv i4]) (h:=Zn eI64 a1)) (Za.u 0 (ZD (sz:=1) (off:=0) (cs:=[.int .i64 a2]) (r:=iv a2) eI64 a1) Za.f)) (tq (sq ?_))
   obtain ⟨a7,a4,h⟩:=bs h
   refine rg (Za.v 2 (Zp (hc:=ZcO N r2 a2 a7 a4)) Za.f) (tq (it h (fun a5 h=>?_) (fun a5 h=>?_)))
   ·refine sq (rg Za.f (tq (rt (br (tr ?_)))))
    obtain rfl:=Zb h
    exact ⟨_,rfl,rfl,Zu kr⟩
   refine sk (bn (tq (kq (rg Za.f ?_))))
   obtain rfl:=Zb h
   exact ⟨_,rfl,kr⟩
  refine kq (xq (tx ?_))
  obtain rfl:=Zb h
  exact ⟨_,rfl,rfl,kr⟩
 rintro e s hq
 rcases a3 with a9|a8
 ·dsimp only at h hq
  obtain ⟨rfl,hR⟩:=hq
  obtain rfl:=hR
  refine bx (tq (sq (rg Za.f (tq (rt ?_)))))
  obtain rfl:=Zb h
  exact Zu kr
 dsimp only at h hq
 obtain ⟨rfl,hq⟩:=hq
 refine br (tr ?_)
 obtain rfl:=Zb h
 exact hq
theorem ZdO (N:Nat)(a0_:(List Int))(r:Int×Int)(h:Zdw N a0_=some r):PCall Try.prog 37 [Zi false a0_] (.tup [iv r.1,iv r.2]):=by
 unfold Zdw at h
 have hH:HP ([]:List HO) []:=trivial
 refine ZE Zxa rfl rfl (Zq _ _ _ ?_) rfl
 refine sq (rg Za.f (tq (sq ?_)))
 obtain ⟨l3,hl3,h⟩:=bs h
 obtain ⟨a1,H2,ha1,hH2,ha1b,hH⟩:=HP.make Zab hH hl3
 replace hH:HP _ [.arr a1 3 false (List.map Zab l3)]:=hH
 have hfa1:=ZaB (HP.get hH 0 rfl)
 refine rgS ⟨[(0,Zi false a0_),(4,a1)],[],H2⟩ (Za.u 1 (Zo (ys:=[Zi false a0_]) (h:=Zv eI64)) (Za.h 0 (ZfG (H:=[]) (zero:=[.int .i64 0,.int .i64 0,.int .i64 0]) (bytes:=24) kr kr kr ha1 hH2 ha1b) Za.f)) (by cases hfa1<;>kernel_rfl) (tq (sq (sq (rgS ⟨[(4,a1),(10,Zi false a0_),(11,iv ((List.length a0_:Nat):Int)),(12,iv 0)],[],H2⟩ (Za.u 1 (Zo (ys:=[Zi false a0_]) (h:=Zv eI64)) Za.f) (by cases hfa1<;>kernel_rfl) (tq (bk ?_))))))
 obtain ⟨a5,ab,h⟩:=bs h
 refine Z9 ((ZV (fun (x:Int×(List ZP)) s=>∃ (a4:AV) (H5:List HO),s=⟨[(4,a4),(10,Zi false a0_),(11,iv ((List.length a0_:Nat):Int)),(12,iv x.1)],[],H5⟩∧HP H5 [.arr a4 3 false (List.map Zab x.2)]) (fun x:Int×(List ZP)=>ZcF N a0_ x.1 x.2) (fun (p:(List ZP)) e s=>e=.exit 0∧(∃ (a2:AV) (aa:List HO),s=⟨[(4,a2)],[],aa⟩∧HP aa [.arr a2 3 false (List.map Zab p)])) ?_ N _ a5 _ ab ⟨a1,H2,(by show _=_;cases hfa1<;>kernel_rfl),(HP.pick hH [0] rfl)⟩).mono ?_)
 ·clear h ab
  rintro ⟨i6,l7⟩ o s h hR
  obtain ⟨a4,H5,rfl,hH⟩:=hR
  replace hH:HP _ [.arr a4 3 false (List.map Zab l7)]:=hH
  have hfa4:=ZaB (HP.get hH 0 rfl)
  replace h:ZcF N a0_ i6 l7=some o:=h
  unfold ZcF at h
  refine sq (rgS ⟨[(4,a4),(10,Zi false a0_),(11,iv ((List.length a0_:Nat):Int)),(12,iv i6),(13,bv (decide (i6<((List.length a0_:Nat):Int))))],[],H5⟩ Za.f (by cases hfa4<;>kernel_rfl) (tq (sq (it h (fun aj h=>?_) (fun aj h=>?_)))))
  ·refine sk (tq (kq (sq (bk (sq ?_)))))
   obtain ⟨a0,ad,h⟩:=bs h
   refine rgS ⟨[(4,a4),(5,iv i6),(6,iv a0),(10,Zi false a0_),(11,iv ((List.length a0_:Nat):Int)),(12,iv i6)],[],H5⟩ (Za.u 1 (Zo (ys:=[Zi false a0_,iv i6]) (h:=Zn eI64 ad)) (Za.u 0 (ZD (sz:=1) (off:=0) (cs:=[.int .i64 a0]) (r:=iv a0) eI64 ad) Za.f)) (by cases hfa4<;>kernel_rfl) (tq ?_)
   obtain ⟨ap,ac,h⟩:=bs h
   obtain ⟨ao,al,_,a8,af,a9,a7⟩:=HP.elem (k:=0) (a:=a4) (sz:=3) (frz:=false) Zab hH rfl ac
   obtain ⟨ag,ak,hH⟩:=HP.setRow (k:=0) (off:=0) (cs:=[iv a0,iv 0,iv 1]) (ps:=[.int .i64 a0,.int .i64 0,.int .i64 1]) (e':=(ZP.mk a0 0 1)) Zab hH rfl a9 af (a8 rfl) ac kr kr
   replace hH:HP _ [.arr a4 3 false (List.map Zab (List.set l7 (Int.toNat i6) (ZP.mk a0 0 1)))]:=hH
   refine rgS ⟨[(4,a4),(10,Zi false a0_),(11,iv ((List.length a0_:Nat):Int)),(12,iv i6)],[],ag⟩ (Za.u 4 (Zo (ys:=[a4,iv i6]) (by cases hfa4<;>kernel_rfl) (a7 .i64)) (Za.o 0 (Zaa (H:=H5) (v:=.agg [iv a0,iv 0,iv 1]) (hw:=ak)) Za.f)) (by cases hfa4<;>kernel_rfl) (bn (tq (rgS ⟨[(4,a4),(10,Zi false a0_),(11,iv ((List.length a0_:Nat):Int)),(12,iv (w64 (i6+1)))],[],ag⟩ Za.f (by cases hfa4<;>kernel_rfl) ?_)))
   obtain rfl:=Zb h
   exact ⟨_,rfl,⟨a4,ag,(by show _=_;cases hfa4<;>kernel_rfl),(HP.pick hH [0] rfl)⟩⟩
  refine kq (xq (tx ?_))
  obtain rfl:=Zb h
  exact ⟨_,rfl,rfl,⟨a4,H5,(by show _=_;cases hfa4<;>kernel_rfl),(HP.pick hH [0] rfl)⟩⟩
 rintro e s hq
 obtain ⟨rfl,hR⟩:=hq
 obtain ⟨a2,aa,rfl,hH⟩:=hR
 replace hH:HP _ [.arr a2 3 false (List.map Zab a5)]:=hH
 have a3:=ZaB (HP.get hH 0 rfl)
 refine bx (tq (sq ?_))
 obtain ⟨ae,ai,h⟩:=bs h
 obtain ⟨an,am,a6,hH⟩:=HP.frz (k:=0) (a:=a2) (sz:=3) (frz:=false) Zab hH rfl
 replace hH:HP _ [.arr a2 3 true (List.map Zab a5)]:=hH
 refine rgS ⟨[(2,iv ae.1),(3,iv ae.2)],[],an⟩ (Za.v 1 (Zgs (H:=aa) (ys:=[a2]) (by cases a3<;>kernel_rfl) (by cases a3<;>kernel_rfl) (Zer a6 Zgw) (Zgo N a5 ae ai)) Za.f) kr ?_
 replace hH:HP _ []:=HP.pick hH [] rfl
 refine tq (rt ?_)
 obtain rfl:=Zb h
 exact Zu kr
theorem Ze6 (N:Nat)(a0_:Z6)(p0_:Nat)(bc0_0_:AV)(bc0_1_:AV)(H:List HO)(hH:HP H [.cel p0_ [bc0_0_,bc0_1_,bv a0_.late],.arr bc0_0_ 1 true (List.map eI64 a0_.Problem.Periods),.arr bc0_1_ 4 true (List.map Zj a0_.Problem.Uses)])(r:Int)(h:Zcp N a0_=some r):∃ (H':List HO),Zao Try.prog 44 [.ptr p0_ 0] H (iv r) H'∧Fp H H' [.cel p0_ [bc0_0_,bc0_1_,bv a0_.late],.arr bc0_0_ 1 true (List.map eI64 a0_.Problem.Periods),.arr bc0_1_ 4 true (List.map Zj a0_.Problem.Uses)] [.cel p0_ [bc0_0_,bc0_1_,bv a0_.late],.arr bc0_0_ 1 true (List.map eI64 a0_.Problem.Periods),.arr bc0_1_ 4 true (List.map Zj a0_.Problem.Uses)]:=by
 suffices hs:∃ r' H',Zao Try.prog 44 [.ptr p0_ 0] H r' H'∧r'=iv r∧Fp H H' [.cel p0_ [bc0_0_,bc0_1_,bv a0_.late],.arr bc0_0_ 1 true (List.map eI64 a0_.Problem.Periods),.arr bc0_1_ 4 true (List.map Zj a0_.Problem.Uses)] [.cel p0_ [bc0_0_,bc0_1_,bv a0_.late],.arr bc0_0_ 1 true (List.map eI64 a0_.Problem.Periods),.arr bc0_1_ 4 true (List.map Zj a0_.Problem.Uses)] by
  obtain ⟨_,H',h1,he,h2⟩:=hs
  exact ⟨H',he ▸ h1,h2⟩
 unfold Zcp at h
 replace hH:=Fp.refl hH
 have hfbc0_0_:=ZaB (Fp.get hH 1 rfl)
 have hfbc0_1_:=ZaB (Fp.get hH 2 rfl)
 refine Zhl Zw5 [] (fun r' H'=>r'=iv r∧Fp H H' [.cel p0_ [bc0_0_,bc0_1_,bv a0_.late],.arr bc0_0_ 1 true (List.map eI64 a0_.Problem.Periods),.arr bc0_1_ 4 true (List.map Zj a0_.Problem.Uses)] [.cel p0_ [bc0_0_,bc0_1_,bv a0_.late],.arr bc0_0_ 1 true (List.map eI64 a0_.Problem.Periods),.arr bc0_1_ 4 true (List.map Zj a0_.Problem.Uses)]) (fun r' H' q=>by obtain ⟨e,hp⟩:=q;subst e;rfl) rfl rfl (sq (rg Za.f (tq (sq ?_))))
 have hlc1:=Fp.get hH 0 rfl
 obtain ⟨r2,hr2,h⟩:=bs h
 obtain ⟨H3,hzH3,hzH3v,hH⟩:=Fp.frz (k:=1) (a:=bc0_0_) (sz:=1) (frz:=true) eI64 hH rfl
 replace hH:Fp _ _ _ [.cel p0_ [bc0_0_,bc0_1_,bv a0_.late],.arr bc0_0_ 1 true (List.map eI64 a0_.Problem.Periods),.arr bc0_1_ 4 true (List.map Zj a0_.Problem.Uses)]:=hH
 refine rg (Za.u 4 (Zm (H:=H) (id:=p0_) (off:=0) (cs:=[bc0_0_,bc0_1_,bv a0_.late]) (c:=[bc0_0_]) (r:=bc0_0_) (by cases hfbc0_0_<;>kernel_rfl) (by cases hfbc0_0_<;>kernel_rfl) hlc1 (by cases hfbc0_0_<;>kernel_rfl) (by cases hfbc0_0_<;>kernel_rfl) (by cases hfbc0_0_<;>kernel_rfl)) (Za.v 0 (Zgs (H:=H) (ys:=[bc0_0_]) (by cases hfbc0_0_<;>kernel_rfl) (by cases hfbc0_0_<;>kernel_rfl) (Zer hzH3v Zgw) (ZdO N a0_.Problem.Periods r2 hr2)) Za.f)) (tq (sq (sq (rg Za.f (tq (it h (fun hc3 h=>?_) (fun hc3 h=>?_)))))))
 ·refine sq (rg Za.f (tq (rt (tr ?_))))
  obtain rfl:=Zb h
  exact ⟨[iv r2.2],kr,kr,Fp.pk hH [0,1,2] rfl⟩
 refine sk (tq (kq (sq ?_)))
 obtain ⟨idm,H2,hidm,hH2,hH⟩:=Fp.mapNew (sz:=4) Zj hH
 replace hH:Fp H H2 [.cel p0_ [bc0_0_,bc0_1_,bv a0_.late],.arr bc0_0_ 1 true (List.map eI64 a0_.Problem.Periods),.arr bc0_1_ 4 true (List.map Zj a0_.Problem.Uses)] ([.cel p0_ [bc0_0_,bc0_1_,bv a0_.late],.arr bc0_0_ 1 true (List.map eI64 a0_.Problem.Periods),.arr bc0_1_ 4 true (List.map Zj a0_.Problem.Uses)]++mapT idm 4 Zj ([]:List (Int×List Zx)) []):=Fp.pick hH [1,2,3,0] rfl
 refine rg (Za.h 0 (st_mkMap' (H:=H3) 0 kr hidm hH2) Za.f) (tq (sq (sq ?_)))
 have hlc4:=Fp.get hH 0 rfl
 have hln6:=Fp.len (k:=2) (a:=bc0_1_) (sz:=4) (frz:=true) (l:=a0_.Problem.Uses) Zj hH rfl
 refine rgS ⟨[(0,.ptr p0_ 0),(3,iv r2.1),(5,.map idm),(32,bc0_1_),(33,iv ((List.length a0_.Problem.Uses:Nat):Int)),(34,iv 0)],[],H2⟩ (Za.u 4 (Zm (H:=H2) (id:=p0_) (off:=1) (cs:=[bc0_0_,bc0_1_,bv a0_.late]) (c:=[bc0_1_]) (r:=bc0_1_) (by cases hfbc0_1_<;>kernel_rfl) (by cases hfbc0_1_<;>kernel_rfl) hlc4 (by cases hfbc0_1_<;>kernel_rfl) (by cases hfbc0_1_<;>kernel_rfl) (by cases hfbc0_1_<;>kernel_rfl)) (Za.u 0 (Zo (ys:=[bc0_1_]) (by cases hfbc0_1_<;>kernel_rfl) hln6) Za.f)) (by cases hfbc0_1_<;>kernel_rfl) (tq (bk ?_))
 obtain ⟨a0,aA,h⟩:=bs h
 refine Z9 ((ZV (fun (x:Int×(List (Int×(List Zx)))) s=>∃ (as_:List AV) (H5:List HO),s=⟨[(0,.ptr p0_ 0),(3,iv r2.1),(5,.map idm),(32,bc0_1_),(33,iv ((List.length a0_.Problem.Uses:Nat):Int)),(34,iv x.1)],[],H5⟩∧as_.length=x.2.length∧Fp H H5 [.cel p0_ [bc0_0_,bc0_1_,bv a0_.late],.arr bc0_0_ 1 true (List.map eI64 a0_.Problem.Periods),.arr bc0_1_ 4 true (List.map Zj a0_.Problem.Uses)] ([.cel p0_ [bc0_0_,bc0_1_,bv a0_.late],.arr bc0_0_ 1 true (List.map eI64 a0_.Problem.Periods),.arr bc0_1_ 4 true (List.map Zj a0_.Problem.Uses)]++mapT idm 4 Zj x.2 as_)) (fun x:Int×(List (Int×(List Zx)))=>Za0 N a0_ x.1 x.2) (fun (p:(List (Int×(List Zx)))) e s=>e=.exit 0∧∃ (as_:List AV) (H5:List HO),s=⟨[(0,.ptr p0_ 0),(3,iv r2.1),(5,.map idm)],[],H5⟩∧as_.length=p.length∧Fp H H5 [.cel p0_ [bc0_0_,bc0_1_,bv a0_.late],.arr bc0_0_ 1 true (List.map eI64 a0_.Problem.Periods),.arr bc0_1_ 4 true (List.map Zj a0_.Problem.Uses)] ([.cel p0_ [bc0_0_,bc0_1_,bv a0_.late],.arr bc0_0_ 1 true (List.map eI64 a0_.Problem.Periods),.arr bc0_1_ 4 true (List.map Zj a0_.Problem.Uses)]++mapT idm 4 Zj p as_)) ?_ N _ a0 _ aA ⟨[],H2,(by show _=_;cases hfbc0_1_<;>kernel_rfl),rfl,hH⟩).mono ?_)
 ·clear h aA hln6 hH hlc4 hlc1
  rintro ⟨i5,m5⟩ o s h ⟨as_,H5,rfl,hl5,hH⟩
  replace h:Za0 N a0_ i5 m5=some o:=h
  unfold Za0 at h
  refine sq (rgS ⟨[(0,.ptr p0_ 0),(3,iv r2.1),(5,.map idm),(32,bc0_1_),(33,iv ((List.length a0_.Problem.Uses:Nat):Int)),(34,iv i5),(35,bv (decide (i5<((List.length a0_.Problem.Uses:Nat):Int))))],[],H5⟩ Za.f (by cases hfbc0_1_<;>kernel_rfl) (tq (sq (it h (fun aZ h=>?_) (fun aZ h=>?_)))))
  ·refine sk (tq (kq (sq (bk (sq ?_)))))
   obtain ⟨a3,aB,h⟩:=bs h
   obtain ⟨bp,bd,_,bb,aE,bc,ar⟩:=Fp.elem (k:=2) (a:=bc0_1_) (sz:=4) (frz:=true) Zj hH rfl aB
   refine rgS ⟨[(0,.ptr p0_ 0),(3,iv r2.1),(5,.map idm),(7,.loc 7 0),(32,bc0_1_),(33,iv ((List.length a0_.Problem.Uses:Nat):Int)),(34,iv i5)],[(7,(ZM a3))],H5⟩ (Za.u 0 (Zo (ys:=[bc0_1_,iv i5]) (by cases hfbc0_1_<;>kernel_rfl) (ar .i64)) (Za.u 0 (ZbK (H:=H5) (off:=0) (cs:=[.int .i64 a3.Stream,.int .i64 a3.Port,.int .i64 a3.From,.int .i64 a3.Long]) (r:=.agg (ZM a3)) Zj aB aE) (Za.f (h:=(by cases hfbc0_1_<;>kernel_rfl))))) (by cases hfbc0_1_<;>kernel_rfl) (tq ?_)
   obtain ⟨bt,aQ,h⟩:=bs h
   obtain ⟨hid5,hno5,a1,H6,as2,H7,ha1,hid6,hok1,hl6,hH7,hH⟩:=Fp.mapApp Zj hH hl5 aQ
   refine rqS ⟨[(0,.ptr p0_ 0),(3,iv r2.1),(5,.map idm),(32,bc0_1_),(33,iv ((List.length a0_.Problem.Uses:Nat):Int)),(34,iv i5)],[],H7⟩ (Za.u 6 (ZkR (H:=H5) (id:=idm) (es:=zipE m5 as_) (x:=a3.Port) (r:=mval 4 m5 as_ a3.Port) kr kr hid5 rfl hno5) (Za.h 2 (Zhz (H:=H5) (a:=mval 4 m5 as_ a3.Port) (b:=.p (.sl 4 true [Zj a3])) (new:=[Zj a3]) kr kr kr kr ha1) (Za.o 0 (ZkQ (H:=H6) (id:=idm) (es:=zipE m5 as_) (x:=a3.Port) (y:=a1) kr kr hid6 hok1 hH7) (Za.f (h:=(by cases hfbc0_1_<;>kernel_rfl)))))) (by cases hfbc0_1_<;>kernel_rfl) (bn (tq (rgS ⟨[(0,.ptr p0_ 0),(3,iv r2.1),(5,.map idm),(32,bc0_1_),(33,iv ((List.length a0_.Problem.Uses:Nat):Int)),(34,iv (w64 (i5+1)))],[],H7⟩ Za.f (by cases hfbc0_1_<;>kernel_rfl) ?_)))
   obtain rfl:=Zb h
   exact ⟨_,rfl,as2,H7,(by show _=_;cases hfbc0_1_<;>kernel_rfl),hl6,hH⟩
  refine kq (xq (tx ?_))
  obtain rfl:=Zb h
  exact ⟨_,rfl,rfl,as_,H5,kr,hl5,hH⟩
 clear hH hln6 hlc4 hlc1
 rintro e s hq
 obtain ⟨rfl,as_,H5,rfl,hl5,hH⟩:=hq
 refine bx (tq (sq ?_))
 obtain ⟨bq,aM,h⟩:=bs h
 obtain ⟨hb1,hb2⟩:=Zlc aM
 have hid5:H5[idm]?=some (.lp mapL [] (.mp 0 (zipE a0 as_))):=Fp.get hH 3 rfl
 have hidlt:idm<H5.length:=(List.getElem?_eq_some_iff.1 hid5).1
 refine Zlw (Zkw (s0:=⟨[(0,.ptr p0_ 0),(3,iv r2.1),(5,.map idm),(49,.map idm)],[],H5⟩) (id:=idm) (kn:=0) (L:=mapL) (fr:=[]) (es:=zipE a0 as_) (Zih (Zba N a0_ r2) a0) (sF:=[(2,iv 7)]) (bF:=[]) (Zln kr kr) kr hid5 rfl kr kr (by decide) ?_ ?_)
 ·clear h
  intro i_ p_ hp_ bs_ ck_ sn_ y_ hy_
  obtain ⟨q_,hq_,hpk_,hzt_⟩:=Zlb (enc:=Zj) (sz:=4) hl5 i_ p_ hp_
  have hHI:=Zn8 (kn:=0) (es:=zipE a0 as_) (bs:=bs_) (clock:=ck_) (seen:=sn_++[y_]) hH
  replace hH:=HP.three (i:=0) (j:=1) (k:=i_+3) hHI rfl rfl (by simpa using hzt_) (by omega) (by omega) (by omega)
  have hfae_:=Zh6 (HP.get hH 2 rfl)
  obtain ⟨hoka_,_⟩:=ZjB (HP.get hH 2 rfl)
  obtain ⟨c_,hc_⟩:=hb1 i_ q_ hq_
  have hbad:Zih (Zba N a0_ r2) a0 i_=c_:=by
   unfold Zih
   rw [hq_]
   simp only [hc_]
   cases c_<;>rfl
  rw [hbad]
  unfold Zba at hc_
  have hjm:=Zlt (kn:=0) (L:=mapL) (fr:=[]) (es:=zipE a0 as_) (bs:=bs_) (clock:=ck_) (seen:=sn_++[y_]) hidlt
  have hjt:=Zn7 (H:=H5) (id:=idm) (kn:=0) (L:=mapL) (fr:=[]) (es:=zipE a0 as_) (bs:=bs_) (clock:=ck_) (seen:=sn_++[y_])
  refine Zlx ⟨[(0,.ptr p0_ 0),(3,iv r2.1),(50,.map (List.length H5))],[],(hIt H5 idm mapL [] 0 (zipE a0 as_) bs_ ck_ (sn_++[y_]))⟩ kr (sq (rgS ⟨[(0,.ptr p0_ 0),(3,iv r2.1),(9,p_.2),(50,.map (List.length H5))],[],(hIt H5 idm mapL [] 0 (zipE a0 as_) bs_ ck_ (sn_++[y_]))⟩ (Za.u 0 (Zkj (H:=(hIt H5 idm mapL [] 0 (zipE a0 as_) bs_ ck_ (sn_++[y_]))) (id:=idm) (j:=List.length H5) (kn:=0) (L:=mapL) (fr:=[]) (es:=zipE a0 as_) (bs:=bs_) (clock:=ck_) (seen:=sn_) (x:=y_) (i:=i_) (p:=p_) kr kr hp_ hy_ hoka_ hjm hjt) Za.f) kr (tq (sq ?_))))
  obtain ⟨pk_,ae_⟩:=p_
  replace hfae_:ae_=.p (.sl 4 true [])∨∃ id ver,ae_=.osl 4 id ver 0 (q_.2.map Zj).length:=hfae_
  refine rgS ⟨[(0,.ptr p0_ 0),(3,iv r2.1),(9,ae_),(10,iv 0),(50,.map (List.length H5))],[],(hIt H5 idm mapL [] 0 (zipE a0 as_) bs_ ck_ (sn_++[y_]))⟩ Za.f (by rcases hfae_ with hae_e|⟨_,_,hae_e⟩<;>rw [hae_e]<;>kernel_rfl) (tq (sq (sq ?_)))
  have aD:=HP.len (k:=2) (a:=ae_) (sz:=4) (frz:=false) (l:=q_.2) Zj hH rfl
  refine rgS ⟨[(0,.ptr p0_ 0),(3,iv r2.1),(10,iv 0),(50,.map (List.length H5)),(55,ae_),(56,iv ((List.length q_.2:Nat):Int)),(57,iv 0)],[],(hIt H5 idm mapL [] 0 (zipE a0 as_) bs_ ck_ (sn_++[y_]))⟩ (Za.u 1 (Zo (ys:=[ae_]) (by rcases hfae_ with hae_e|⟨_,_,hae_e⟩<;>rw [hae_e]<;>kernel_rfl) aD) Za.f) (by rcases hfae_ with hae_e|⟨_,_,hae_e⟩<;>rw [hae_e]<;>kernel_rfl) (tq (bk ?_))
  obtain ⟨a7,aa,hc_⟩:=bs hc_
  refine Z9 ((ZV (fun (x:Int×Int) s=>s=⟨[(0,.ptr p0_ 0),(3,iv r2.1),(10,iv x.1),(50,.map (List.length H5)),(55,ae_),(56,iv ((List.length q_.2:Nat):Int)),(57,iv x.2)],[],(hIt H5 idm mapL [] 0 (zipE a0 as_) bs_ ck_ (sn_++[y_]))⟩) (fun x:Int×Int=>ZaZ N a0_ r2 q_.2 x.1 x.2) (fun (p:Int) e s=>e=.exit 4∧(s=⟨[(0,.ptr p0_ 0),(3,iv r2.1),(10,iv p),(50,.map (List.length H5))],[],(hIt H5 idm mapL [] 0 (zipE a0 as_) bs_ ck_ (sn_++[y_]))⟩)) ?_ N _ a7 _ aa (by show _=_;rcases hfae_ with hae_e|⟨_,_,hae_e⟩<;>rw [hae_e]<;>kernel_rfl)).mono ?_)
  ·clear hc_ aa
   rintro ⟨a8,a6⟩ o s h hR
   obtain rfl:=hR
   replace h:ZaZ N a0_ r2 q_.2 a8 a6=some o:=h
   unfold ZaZ at h
   refine sq (rgS ⟨[(0,.ptr p0_ 0),(3,iv r2.1),(10,iv a8),(50,.map (List.length H5)),(55,ae_),(56,iv ((List.length q_.2:Nat):Int)),(57,iv a6),(58,bv (decide (a6<((List.length q_.2:Nat):Int))))],[],(hIt H5 idm mapL [] 0 (zipE a0 as_) bs_ ck_ (sn_++[y_]))⟩ Za.f (by rcases hfae_ with hae_e|⟨_,_,hae_e⟩<;>rw [hae_e]<;>kernel_rfl) (tq (sq (it h (fun aL h=>?_) (fun aL h=>?_)))))
   ·refine sk (tq (kq (sq (bk (sq ?_)))))
    obtain ⟨a5,aj,h⟩:=bs h
    obtain ⟨bj,ba,_,aX,ax,aY,ae⟩:=HP.elem (k:=2) (a:=ae_) (sz:=4) (frz:=false) Zj hH rfl aj
    refine rgS ⟨[(0,.ptr p0_ 0),(3,iv r2.1),(10,iv a8),(12,.loc 12 0),(50,.map (List.length H5)),(55,ae_),(56,iv ((List.length q_.2:Nat):Int)),(57,iv a6)],[(12,(ZM a5))],(hIt H5 idm mapL [] 0 (zipE a0 as_) bs_ ck_ (sn_++[y_]))⟩ (Za.u 0 (Zo (ys:=[ae_,iv a6]) (by rcases hfae_ with hae_e|⟨_,_,hae_e⟩<;>rw [hae_e]<;>kernel_rfl) (ae .i64)) (Za.u 0 (ZbK (H:=(hIt H5 idm mapL [] 0 (zipE a0 as_) bs_ ck_ (sn_++[y_]))) (off:=0) (cs:=[.int .i64 a5.Stream,.int .i64 a5.Port,.int .i64 a5.From,.int .i64 a5.Long]) (r:=.agg (ZM a5)) Zj aj ax) (Za.f (h:=(by rcases hfae_ with hae_e|⟨_,_,hae_e⟩<;>rw [hae_e]<;>kernel_rfl))))) (by rcases hfae_ with hae_e|⟨_,_,hae_e⟩<;>rw [hae_e]<;>kernel_rfl) (tq ?_)
    have aq:=HP.get hH 0 rfl
    obtain ⟨al,ai,h⟩:=bs h
    obtain ⟨bi,b2,_,aV,aw,aW,ad⟩:=HP.elem (k:=1) (a:=bc0_0_) (sz:=1) (frz:=true) eI64 hH rfl ai
    obtain ⟨ay,aC,h⟩:=bs h
    refine rqS ⟨[(0,.ptr p0_ 0),(3,iv r2.1),(10,iv (w64 (a8+ay))),(50,.map (List.length H5)),(55,ae_),(56,iv ((List.length q_.2:Nat):Int)),(57,iv a6)],[],(hIt H5 idm mapL [] 0 (zipE a0 as_) bs_ ck_ (sn_++[y_]))⟩ (Za.u 6 (Z3 (Zm (H:=(hIt H5 idm mapL [] 0 (zipE a0 as_) bs_ ck_ (sn_++[y_]))) (id:=p0_) (off:=0) (cs:=[bc0_0_,bc0_1_,bv a0_.late]) (c:=[bc0_0_]) (r:=bc0_0_) (by cases hfbc0_0_<;>kernel_rfl) (by cases hfbc0_0_<;>kernel_rfl) aq (by cases hfbc0_0_<;>kernel_rfl) (by cases hfbc0_0_<;>kernel_rfl) (by cases hfbc0_0_<;>kernel_rfl)) (by cases hfbc0_0_<;>kernel_rfl)) (Za.u 2 (Zo (ys:=[bc0_0_,iv a5.Stream]) (by cases hfbc0_0_<;>kernel_rfl) (ad .i64)) (Za.u 0 (Z3 (ZbK (H:=(hIt H5 idm mapL [] 0 (zipE a0 as_) bs_ ck_ (sn_++[y_]))) (off:=0) (cs:=[.int .i64 al]) (r:=iv al) eI64 ai aw)) (Za.u 0 (Zo (ys:=[iv r2.1,iv al]) (h:=Zfe aC)) Za.f)))) (by cases hfbc0_0_<;>rcases hfae_ with hae_e|⟨_,_,hae_e⟩<;>rw [hae_e]<;>kernel_rfl) (bn (tq (rgS ⟨[(0,.ptr p0_ 0),(3,iv r2.1),(10,iv (w64 (a8+ay))),(50,.map (List.length H5)),(55,ae_),(56,iv ((List.length q_.2:Nat):Int)),(57,iv (w64 (a6+1)))],[],(hIt H5 idm mapL [] 0 (zipE a0 as_) bs_ ck_ (sn_++[y_]))⟩ Za.f (by rcases hfae_ with hae_e|⟨_,_,hae_e⟩<;>rw [hae_e]<;>kernel_rfl) ?_)))
    obtain rfl:=Zb h
    exact ⟨_,rfl,(by show _=_;rcases hfae_ with hae_e|⟨_,_,hae_e⟩<;>rw [hae_e]<;>kernel_rfl)⟩
   refine kq (xq (tx ?_))
   obtain rfl:=Zb h
   exact ⟨_,rfl,rfl,kr⟩
  rintro e s hq
  obtain ⟨rfl,hR⟩:=hq
  obtain rfl:=hR
  refine bx (tq (sq (rg Za.f ?_)))
  have h:(if (decide (a7>63))=true then some true else some false)=some c_:=by
   rw [← hc_]
   cases decide (a7>63)<;>rfl
  refine tq (it h (fun aK h=>?_) (fun aK h=>?_))
  ·obtain rfl:=Zb h
   refine sq (rg Za.f (tq (rt (br ?_))))
   rw [if_pos rfl]
   exact ⟨rfl,kr⟩
  obtain rfl:=Zb h
  refine sk (bn ?_)
  rw [if_neg (by simp)]
  exact ⟨rfl,kr⟩
 replace hH:=Fp.push hH (.lp itL [] .itd)
 rw [Zjq hl5,hb2]
 rcases Zz h with ⟨hcb,h⟩|⟨hcb,h⟩
 ·rw [if_pos hcb]
  refine tr ?_
  obtain rfl:=Zb h
  exact ⟨[iv 7],kr,kr,Fp.pk hH [0,1,2] rfl⟩
 rw [if_neg (by rw [hcb];simp)]
 refine tq ?_
 replace hH:Fp _ _ _ [.cel p0_ [bc0_0_,bc0_1_,bv a0_.late],.arr bc0_0_ 1 true (List.map eI64 a0_.Problem.Periods),.arr bc0_1_ 4 true (List.map Zj a0_.Problem.Uses)]:=Fp.pick hH [0,1,2] rfl
 refine Zlx ⟨[(0,.ptr p0_ 0)],[],(hEnd H5)⟩ kr (sq (sq ?_))
 have ap:=Fp.get hH 0 rfl
 have am:=Fp.len (k:=2) (a:=bc0_1_) (sz:=4) (frz:=true) (l:=a0_.Problem.Uses) Zj hH rfl
 refine rgS ⟨[(0,.ptr p0_ 0),(81,bc0_1_),(82,iv ((List.length a0_.Problem.Uses:Nat):Int)),(83,iv 0)],[],(hEnd H5)⟩ (Za.u 4 (Zm (H:=(hEnd H5)) (id:=p0_) (off:=1) (cs:=[bc0_0_,bc0_1_,bv a0_.late]) (c:=[bc0_1_]) (r:=bc0_1_) (by cases hfbc0_1_<;>kernel_rfl) (by cases hfbc0_1_<;>kernel_rfl) ap (by cases hfbc0_1_<;>kernel_rfl) (by cases hfbc0_1_<;>kernel_rfl) (by cases hfbc0_1_<;>kernel_rfl)) (Za.u 0 (Zo (ys:=[bc0_1_]) (by cases hfbc0_1_<;>kernel_rfl) am) Za.f)) (by cases hfbc0_1_<;>kernel_rfl) (tq (bk ?_))
 obtain ⟨az,a9,h⟩:=bs h
 refine Z9 ((ZV (fun (x:Int) s=>s=⟨[(0,.ptr p0_ 0),(81,bc0_1_),(82,iv ((List.length a0_.Problem.Uses:Nat):Int)),(83,iv x)],[],(hEnd H5)⟩) (fun x:Int=>ZaY N a0_ x) (fun (p:(Unit)⊕(Int)) e s=>match p with|(.inl p)=>e=.exit 6∧(s=⟨[(0,.ptr p0_ 0)],[],(hEnd H5)⟩)|(.inr p)=>e=.ret∧∃ xs,rawL (wS [] s) i44.res=some xs∧ZaA xs=iv p∧Fp H (weakH [] s.H) [.cel p0_ [bc0_0_,bc0_1_,bv a0_.late],.arr bc0_0_ 1 true (List.map eI64 a0_.Problem.Periods),.arr bc0_1_ 4 true (List.map Zj a0_.Problem.Uses)] [.cel p0_ [bc0_0_,bc0_1_,bv a0_.late],.arr bc0_0_ 1 true (List.map eI64 a0_.Problem.Periods),.arr bc0_1_ 4 true (List.map Zj a0_.Problem.Uses)]) ?_ N _ az _ a9 (by show _=_;cases hfbc0_1_<;>kernel_rfl)).mono ?_)
 ·clear h a9
  rintro a4 o s h hR
  obtain rfl:=hR
  replace h:ZaY N a0_ a4=some o:=h
  unfold ZaY at h
  refine sq (rgS ⟨[(0,.ptr p0_ 0),(81,bc0_1_),(82,iv ((List.length a0_.Problem.Uses:Nat):Int)),(83,iv a4),(84,bv (decide (a4<((List.length a0_.Problem.Uses:Nat):Int))))],[],(hEnd H5)⟩ Za.f (by cases hfbc0_1_<;>kernel_rfl) (tq (sq (it h (fun aJ h=>?_) (fun aJ h=>?_)))))
  ·refine sk (tq (kq (sq (bk (sq ?_)))))
   obtain ⟨a2,ag,h⟩:=bs h
   obtain ⟨bf,b1,_,aT,av,aU,ac⟩:=Fp.elem (k:=2) (a:=bc0_1_) (sz:=4) (frz:=true) Zj hH rfl ag
   refine rgS ⟨[(0,.ptr p0_ 0),(14,.loc 14 0),(81,bc0_1_),(82,iv ((List.length a0_.Problem.Uses:Nat):Int)),(83,iv a4)],[(14,(ZM a2))],(hEnd H5)⟩ (Za.u 0 (Zo (ys:=[bc0_1_,iv a4]) (by cases hfbc0_1_<;>kernel_rfl) (ac .i64)) (Za.u 0 (ZbK (H:=(hEnd H5)) (off:=0) (cs:=[.int .i64 a2.Stream,.int .i64 a2.Port,.int .i64 a2.From,.int .i64 a2.Long]) (r:=.agg (ZM a2)) Zj ag av) (Za.f (h:=(by cases hfbc0_1_<;>kernel_rfl))))) (by cases hfbc0_1_<;>kernel_rfl) (tq (sq ?_))
   have ao:=Fp.get hH 0 rfl
   obtain ⟨ak,af,h⟩:=bs h
   obtain ⟨be,b0,_,aR,au,aS,ab⟩:=Fp.elem (k:=1) (a:=bc0_0_) (sz:=1) (frz:=true) eI64 hH rfl af
   refine rqS ⟨[(0,.ptr p0_ 0),(81,bc0_1_),(82,iv ((List.length a0_.Problem.Uses:Nat):Int)),(83,iv a4),(98,bv (decide (a2.Long>ak)))],[],(hEnd H5)⟩ (Za.u 6 (Z3 (Zm (H:=(hEnd H5)) (id:=p0_) (off:=0) (cs:=[bc0_0_,bc0_1_,bv a0_.late]) (c:=[bc0_0_]) (r:=bc0_0_) (by cases hfbc0_0_<;>cases hfbc0_1_<;>kernel_rfl) (by cases hfbc0_0_<;>cases hfbc0_1_<;>kernel_rfl) ao (by cases hfbc0_0_<;>cases hfbc0_1_<;>kernel_rfl) (by cases hfbc0_0_<;>cases hfbc0_1_<;>kernel_rfl) (by cases hfbc0_0_<;>cases hfbc0_1_<;>kernel_rfl)) (by cases hfbc0_0_<;>cases hfbc0_1_<;>kernel_rfl)) (Za.u 2 (Zo (ys:=[bc0_0_,iv a2.Stream]) (by cases hfbc0_0_<;>kernel_rfl) (ab .i64)) (Za.u 0 (Z3 (ZbK (H:=(hEnd H5)) (off:=0) (cs:=[.int .i64 ak]) (r:=iv ak) eI64 af au)) Za.f))) (by cases hfbc0_0_<;>cases hfbc0_1_<;>kernel_rfl) (tq (it h (fun aI h=>?_) (fun aI h=>?_)))
   ·refine sq (rgS ⟨[(2,iv 341)],[],(hEnd H5)⟩ Za.f kr (tq (rt (br (tr ?_)))))
    obtain rfl:=Zb h
    exact ⟨_,rfl,rfl,⟨[iv 341],kr,kr,Fp.pk hH [0,1,2] rfl⟩⟩
   refine sk (bn (tq (kq (rgS ⟨[(0,.ptr p0_ 0),(81,bc0_1_),(82,iv ((List.length a0_.Problem.Uses:Nat):Int)),(83,iv (w64 (a4+1)))],[],(hEnd H5)⟩ Za.f (by cases hfbc0_1_<;>kernel_rfl) ?_))))
   obtain rfl:=Zb h
   exact ⟨_,rfl,(by show _=_;cases hfbc0_1_<;>kernel_rfl)⟩
  refine kq (xq (tx ?_))
  obtain rfl:=Zb h
  exact ⟨_,rfl,rfl,kr⟩
 rintro e s hq
 rcases az with bm|bl
 ·dsimp only at h hq
  obtain ⟨rfl,hR⟩:=hq
  obtain rfl:=hR
  refine bx (tq (sq (sq ?_)))
  have an:=Fp.get hH 0 rfl
  refine rg (Za.u 3 (Zm (H:=(hEnd H5)) (id:=p0_) (off:=2) (cs:=[bc0_0_,bc0_1_,bv a0_.late]) (c:=[bv a0_.late]) (r:=bv a0_.late) (hl:=an)) Za.f) (tq (it h (fun aG h=>?_) (fun aG h=>?_)))
  ·refine sq (rg Za.f (tq (rt (tr ?_))))
   obtain rfl:=Zb h
   exact ⟨[iv 342],kr,kr,Fp.pk hH [0,1,2] rfl⟩
  refine sk (tq (kq (sq (rg Za.f (tq (rt ?_))))))
  obtain rfl:=Zb h
  exact ⟨[iv 0],kr,kr,Fp.pk hH [0,1,2] rfl⟩
 dsimp only at h hq
 obtain ⟨rfl,hq⟩:=hq
 refine br (tr ?_)
 obtain rfl:=Zb h
 exact hq
theorem Zgp (N:Nat)(a0_:ZP)(a1_:ZP)(r:Bool×Int)(h:ZdM N a0_ a1_=some r):PCall Try.prog 46 [.agg (ZaE a0_),.agg (ZaE a1_)] (.tup [bv r.1,iv r.2]):=by
 unfold ZdM at h
 have hH:HP ([]:List HO) []:=trivial
 refine ZE Zw3 rfl rfl (Zq _ _ _ ?_) rfl
 refine sq (rg Za.f (tq (sq (sq ?_))))
 obtain ⟨r1,hr1,h⟩:=bs h
 refine rg (Za.v 1 (Zp (hc:=Zcn N a0_ r1 hr1)) Za.f) (tq (sq (rg Za.f (tq (it h (fun hc2 h=>?_) (fun hc2 h=>?_))))))
 ·refine sq (rg Za.f (tq (rt (tr ?_))))
  obtain rfl:=Zb h
  exact Zu kr
 refine sk (tq (kq (sq (sq ?_))))
 obtain ⟨r3,hr3,h⟩:=bs h
 refine rg (Za.v 1 (Zp (hc:=Zcn N a1_ r3 hr3)) Za.f) (tq (sq (rg Za.f (tq (it h (fun hc4 h=>?_) (fun hc4 h=>?_))))))
 ·refine sq (rg Za.f (tq (rt (tr ?_))))
  obtain rfl:=Zb h
  exact Zu kr
 refine sk (tq (kq (sq ?_)))
 obtain ⟨r5,hr5,h⟩:=bs h
 refine rg (Za.v 2 (Zp (hc:=Zgn N a0_ a1_ r5 hr5)) Za.f) (tq (rt ?_))
 obtain rfl:=Zb h
 exact Zu kr
theorem ZdC (N:Nat)(a0_:Zs)(r:Int)(h:Zdn N a0_=some r):PCall Try.prog 49 [.agg (Zc a0_)] (iv r):=by
 unfold Zdn at h
 have hH:HP ([]:List HO) []:=trivial
 refine ZE Zw1 rfl rfl (Zq _ _ _ ?_) rfl
 refine sq (rg Za.f (tq (sq (sq (rgX ⟨[(1,.loc 1 0),(23,bv ((decide (a0_.Nodes<2))||((decide (a0_.Nodes>12))||(((List.length a0_.Station:Nat):Int)!=a0_.Nodes))))],[(1,(Zc a0_))],[]⟩ ?_ ?_)))))
 ·rcases Bool.eq_false_or_eq_true (decide (a0_.Nodes<2)) with hc1|hc2
  ·exact (EP.u 2 (Zh (c:=(decide (a0_.Nodes<2))) (h:=hc1)) (EP.f (by simp only [hc1];kernel_rfl)))
  refine (EP.u 2 (Zh (c:=(decide (a0_.Nodes<2))) (h:=hc2)) ?_)
  rcases Bool.eq_false_or_eq_true (decide (a0_.Nodes>12)) with hc3|hc4
  ·exact (EP.u 3 (Zh (c:=(decide (a0_.Nodes>12))) (h:=hc3)) (EP.f (by simp only [hc2,hc3];kernel_rfl)))
  exact (EP.u 3 (Zh (c:=(decide (a0_.Nodes>12))) (h:=hc4)) (EP.u 4 (Zo (ys:=[s_eB false a0_.Station]) (h:=Zv eB)) (EP.f (by simp only [hc2,hc4];kernel_rfl))))
 refine tq (it h (fun hc5 h=>?_) (fun hc5 h=>?_))
 ·refine sq (rg Za.f (tq (rt (tr ?_))))
  obtain rfl:=Zb h
  exact Zu kr
 refine sk (tq (kq (sq (sq ?_))))
 obtain ⟨j9,hj,h⟩:=bs h
 refine rgR (fun s=>s=⟨[(1,.loc 1 0),(32,bv j9)],[(1,(Zc a0_))],[]⟩) ?_ ?_
 ·clear h
  refine (EP.u 2 (Zo (ys:=[Zk false a0_.Links]) (h:=Zv ZL)) ?_)
  rcases Zz hj with ⟨hc6,hj⟩|⟨hc7,hj⟩
  ·obtain rfl:=Zb hj
   exact (EP.u 0 (Zh (c:=(decide (((List.length a0_.Links:Nat):Int)>24))) (h:=hc6)) (EP.f kr))
  refine (EP.u 0 (Zh (c:=(decide (((List.length a0_.Links:Nat):Int)>24))) (h:=hc7)) ?_)
  obtain ⟨r8,hr8,hj⟩:=bs hj
  obtain rfl:=Zb hj
  exact (EP.v 2 (Zp (hc:=ZhT N a0_ r8 hr8)) (EP.f kr))
 clear hj
 rintro s hR
 obtain rfl:=hR
 refine tq (it h (fun bI h=>?_) (fun bI h=>?_))
 ·refine sq (rg Za.f (tq (rt (tr ?_))))
  obtain rfl:=Zb h
  exact Zu kr
 refine sk (tq (kq (sq ?_)))
 obtain ⟨bV,bG,h⟩:=bs h
 obtain ⟨bw,bL,bJ,bK,be,hH⟩:=HP.make eI64 hH bG
 replace hH:HP _ [.arr bw 1 false (List.map eI64 bV)]:=hH
 have ae:=ZaB (HP.get hH 0 rfl)
 refine rgS ⟨[(1,.loc 1 0),(3,bw)],[(1,(Zc a0_))],bL⟩ (Za.h 2 (ZfG (H:=[]) (zero:=[.int .i64 0]) (bytes:=8) kr kr kr bJ bK be) Za.f) (by cases ae<;>kernel_rfl) (tq (sq (sq (rgS ⟨[(1,.loc 1 0),(3,bw),(37,Zk false a0_.Links),(38,iv ((List.length a0_.Links:Nat):Int)),(39,iv 0)],[(1,(Zc a0_))],bL⟩ (Za.u 2 (Zo (ys:=[Zk false a0_.Links]) (h:=Zv ZL)) Za.f) (by cases ae<;>kernel_rfl) (tq (bk ?_))))))
 obtain ⟨aj,ay,h⟩:=bs h
 refine Z9 ((ZV (fun (x:Int×(List Int)) s=>∃ (a6:AV) (aG:List HO),s=⟨[(1,.loc 1 0),(3,a6),(37,Zk false a0_.Links),(38,iv ((List.length a0_.Links:Nat):Int)),(39,iv x.1)],[(1,(Zc a0_))],aG⟩∧HP aG [.arr a6 1 false (List.map eI64 x.2)]) (fun x:Int×(List Int)=>Zcz N a0_ x.1 x.2) (fun (p:(List Int)) e s=>e=.exit 0∧(∃ (a3:AV) (a4:List HO),s=⟨[(1,.loc 1 0),(3,a3)],[(1,(Zc a0_))],a4⟩∧HP a4 [.arr a3 1 false (List.map eI64 p)])) ?_ N _ aj _ ay ⟨bw,bL,(by show _=_;cases ae<;>kernel_rfl),(HP.pick hH [0] rfl)⟩).mono ?_)
 ·clear h ay
  rintro ⟨i16,bm⟩ o s h hR
  obtain ⟨a6,aG,rfl,hH⟩:=hR
  replace hH:HP _ [.arr a6 1 false (List.map eI64 bm)]:=hH
  have a1:=ZaB (HP.get hH 0 rfl)
  replace h:Zcz N a0_ i16 bm=some o:=h
  unfold Zcz at h
  refine sq (rgS ⟨[(1,.loc 1 0),(3,a6),(37,Zk false a0_.Links),(38,iv ((List.length a0_.Links:Nat):Int)),(39,iv i16),(40,bv (decide (i16<((List.length a0_.Links:Nat):Int))))],[(1,(Zc a0_))],aG⟩ Za.f (by cases a1<;>kernel_rfl) (tq (sq (it h (fun bd h=>?_) (fun bd h=>?_)))))
  ·refine sk (tq (kq (sq (bk (sq ?_)))))
   obtain ⟨a2,aD,h⟩:=bs h
   refine rgS ⟨[(1,.loc 1 0),(3,a6),(5,.loc 5 0),(37,Zk false a0_.Links),(38,iv ((List.length a0_.Links:Nat):Int)),(39,iv i16)],[(1,(Zc a0_)),(5,(Zav a2))],aG⟩ (Za.u 0 (Zo (ys:=[Zk false a0_.Links,iv i16]) (h:=Zn ZL aD)) (Za.u 0 (ZD (sz:=4) (off:=0) (cs:=[.int .i64 a2.A,.int .i64 a2.B,.int .i64 a2.Per,.int .i64 a2.Delay]) (r:=.agg (Zav a2)) ZL aD) (Za.f (h:=(by cases a1<;>kernel_rfl))))) (by cases a1<;>kernel_rfl) (tq (sq ?_))
   obtain ⟨a7,aC,h⟩:=bs h
   obtain ⟨bU,bC,_,bt,aQ,bu,ar⟩:=HP.elem (k:=0) (a:=a6) (sz:=1) (frz:=false) eI64 hH rfl aC
   obtain ⟨bX,aB,h⟩:=bs h
   obtain ⟨bT,bB,_,ap,aM,aq,ao⟩:=HP.elem (k:=0) (a:=a6) (sz:=1) (frz:=false) eI64 hH rfl aB
   obtain ⟨aZ,bi,hH⟩:=HP.setRow (k:=0) (off:=0) (cs:=[iv (w64 (a7+1))]) (ps:=[.int .i64 (w64 (a7+1))]) (e':=(w64 (a7+1))) eI64 hH rfl aq aM (ap rfl) aB kr kr
   replace hH:HP _ [.arr a6 1 false (List.map eI64 (List.set bm (Int.toNat a2.A) (w64 (a7+1))))]:=hH
   refine rgS ⟨[(1,.loc 1 0),(3,a6),(5,.loc 5 0),(37,Zk false a0_.Links),(38,iv ((List.length a0_.Links:Nat):Int)),(39,iv i16)],[(1,(Zc a0_)),(5,(Zav a2))],aZ⟩ (Za.u 3 (Zo (ys:=[a6,iv a2.A]) (by cases a1<;>kernel_rfl) (ar .i64)) (Za.u 0 (ZbK (H:=aG) (off:=0) (cs:=[.int .i64 a7]) (r:=iv a7) eI64 aC aQ) (Za.u 1 (Zo (ys:=[a6,iv a2.A]) (by cases a1<;>kernel_rfl) (ao .i64)) (Za.o 0 (Zaa (H:=aG) (v:=iv (w64 (a7+1))) (hw:=bi)) Za.f)))) (by cases a1<;>kernel_rfl) (tq ?_)
   obtain ⟨a9,aA,h⟩:=bs h
   obtain ⟨bS,bA,_,bp,aL,bq,an⟩:=HP.elem (k:=0) (a:=a6) (sz:=1) (frz:=false) eI64 hH rfl aA
   obtain ⟨bW,az,h⟩:=bs h
   obtain ⟨bR,bz,_,al,aK,am,ak⟩:=HP.elem (k:=0) (a:=a6) (sz:=1) (frz:=false) eI64 hH rfl az
   obtain ⟨aY,bf,hH⟩:=HP.setRow (k:=0) (off:=0) (cs:=[iv (w64 (a9+1))]) (ps:=[.int .i64 (w64 (a9+1))]) (e':=(w64 (a9+1))) eI64 hH rfl am aK (al rfl) az kr kr
   replace hH:HP _ [.arr a6 1 false (List.map eI64 (List.set (List.set bm (Int.toNat a2.A) (w64 (a7+1))) (Int.toNat a2.B) (w64 (a9+1))))]:=hH
   refine rgS ⟨[(1,.loc 1 0),(3,a6),(37,Zk false a0_.Links),(38,iv ((List.length a0_.Links:Nat):Int)),(39,iv i16)],[(1,(Zc a0_))],aY⟩ (Za.u 3 (Zo (ys:=[a6,iv a2.B]) (by cases a1<;>kernel_rfl) (an .i64)) (Za.u 0 (ZbK (H:=aZ) (off:=0) (cs:=[.int .i64 a9]) (r:=iv a9) eI64 aA aL) (Za.u 1 (Zo (ys:=[a6,iv a2.B]) (by cases a1<;>kernel_rfl) (ak .i64)) (Za.o 0 (Zaa (H:=aZ) (v:=iv (w64 (a9+1))) (hw:=bf)) Za.f)))) (by cases a1<;>kernel_rfl) (bn (tq (rgS ⟨[(1,.loc 1 0),(3,a6),(37,Zk false a0_.Links),(38,iv ((List.length a0_.Links:Nat):Int)),(39,iv (w64 (i16+1)))],[(1,(Zc a0_))],aY⟩ Za.f (by cases a1<;>kernel_rfl) ?_)))
   obtain rfl:=Zb h
   exact ⟨_,rfl,⟨a6,aY,(by show _=_;cases a1<;>kernel_rfl),(HP.pick hH [0] rfl)⟩⟩
  refine kq (xq (tx ?_))
  obtain rfl:=Zb h
  exact ⟨_,rfl,rfl,⟨a6,aG,(by show _=_;cases a1<;>kernel_rfl),(HP.pick hH [0] rfl)⟩⟩
 rintro e s hq
 obtain ⟨rfl,hR⟩:=hq
 obtain ⟨a3,a4,rfl,hH⟩:=hR
 replace hH:HP _ [.arr a3 1 false (List.map eI64 aj)]:=hH
 have a0:=ZaB (HP.get hH 0 rfl)
 refine bx (tq (sq (sq (rgS ⟨[(1,.loc 1 0),(3,a3),(59,s_eB false a0_.Station),(60,iv ((List.length a0_.Station:Nat):Int)),(61,iv 0)],[(1,(Zc a0_))],a4⟩ (Za.u 2 (Zo (ys:=[s_eB false a0_.Station]) (h:=Zv eB)) Za.f) (by cases a0<;>kernel_rfl) (tq (bk ?_))))))
 obtain ⟨ax,ab,h⟩:=bs h
 refine Z9 ((ZV (fun (x:Int) s=>s=⟨[(1,.loc 1 0),(3,a3),(59,s_eB false a0_.Station),(60,iv ((List.length a0_.Station:Nat):Int)),(61,iv x)],[(1,(Zc a0_))],a4⟩) (fun x:Int=>Zcy N a0_ aj x) (fun (p:(Unit)⊕(Int)) e s=>match p with|(.inl p)=>e=.exit 2∧(s=⟨[(1,.loc 1 0)],[(1,(Zc a0_))],a4⟩)|(.inr p)=>e=.ret∧∃ xs,resL s i49.res=some xs∧ZaA xs=iv p) ?_ N _ ax _ ab (by show _=_;cases a0<;>kernel_rfl)).mono ?_)
 ·clear h ab
  rintro a5 o s h hR
  obtain rfl:=hR
  replace h:Zcy N a0_ aj a5=some o:=h
  unfold Zcy at h
  refine sq (rgS ⟨[(1,.loc 1 0),(3,a3),(59,s_eB false a0_.Station),(60,iv ((List.length a0_.Station:Nat):Int)),(61,iv a5),(62,bv (decide (a5<((List.length a0_.Station:Nat):Int))))],[(1,(Zc a0_))],a4⟩ Za.f (by cases a0<;>kernel_rfl) (tq (sq (it h (fun aX h=>?_) (fun aX h=>?_)))))
  ·refine sk (tq (kq (sq (bk (sq ?_)))))
   obtain ⟨a8,ai,h⟩:=bs h
   refine rgS ⟨[(1,.loc 1 0),(3,a3),(6,iv a5),(7,bv a8),(59,s_eB false a0_.Station),(60,iv ((List.length a0_.Station:Nat):Int)),(61,iv a5)],[(1,(Zc a0_))],a4⟩ (Za.u 1 (Zo (ys:=[s_eB false a0_.Station,iv a5]) (h:=Zn eB ai)) (Za.u 0 (ZD (sz:=1) (off:=0) (cs:=[.bool a8]) (r:=bv a8) eB ai) Za.f)) (by cases a0<;>kernel_rfl) (tq (sq ?_))
   obtain ⟨b1,hj,h⟩:=bs h
   refine rgR (fun s=>s=⟨[(1,.loc 1 0),(3,a3),(59,s_eB false a0_.Station),(60,iv ((List.length a0_.Station:Nat):Int)),(61,iv a5),(80,bv b1)],[(1,(Zc a0_))],a4⟩) ?_ ?_
   ·clear h
    rcases Zz hj with ⟨aW,hj⟩|⟨aT,hj⟩
    ·refine (EP.u 0 (Zh (c:=a8) (h:=aW)) ?_)
     obtain ⟨aa,ag,hj⟩:=bs hj
     obtain ⟨bE,bl,_,bb,av,bc,ad⟩:=HP.elem (k:=0) (a:=a3) (sz:=1) (frz:=false) eI64 hH rfl ag
     refine (EP.u 3 (Zo (ys:=[a3,iv a5]) (by cases a0<;>kernel_rfl) (ad .i64)) (EP.u 0 (ZbK (H:=a4) (off:=0) (cs:=[.int .i64 aa]) (r:=iv aa) eI64 ag av) ?_))
     rcases Zz hj with ⟨aV,hj⟩|⟨aU,hj⟩
     ·obtain rfl:=Zb hj
      exact (EP.u 0 (Zh (c:=(decide (aa<1))) (h:=aV)) (EP.f (by show _=_;cases a0<;>kernel_rfl)))
     refine (EP.u 0 (Zh (c:=(decide (aa<1))) (h:=aU)) ?_)
     obtain ⟨aE,af,hj⟩:=bs hj
     obtain ⟨bD,bj,_,b2,au,ba,ac⟩:=HP.elem (k:=0) (a:=a3) (sz:=1) (frz:=false) eI64 hH rfl af
     obtain rfl:=Zb hj
     exact (EP.u 3 (Zo (ys:=[a3,iv a5]) (by cases a0<;>kernel_rfl) (ac .i64)) (EP.u 0 (ZbK (H:=a4) (off:=0) (cs:=[.int .i64 aE]) (r:=iv aE) eI64 af au) (EP.f (by show _=_;cases a0<;>kernel_rfl))))
    obtain rfl:=Zb hj
    exact (EP.u 0 (Zh (c:=a8) (h:=aT)) (EP.f (by show _=_;cases a0<;>kernel_rfl)))
   clear hj
   rintro s hR
   obtain rfl:=hR
   refine tq (it h (fun aS h=>?_) (fun aS h=>?_))
   ·refine sq (rgS ⟨[(2,iv 260)],[],a4⟩ Za.f kr ?_)
    replace hH:HP _ []:=HP.pick hH [] rfl
    refine tq (rt (br (tr ?_)))
    obtain rfl:=Zb h
    exact ⟨_,rfl,rfl,Zu kr⟩
   refine sk (bn (tq (kq (rgS ⟨[(1,.loc 1 0),(3,a3),(59,s_eB false a0_.Station),(60,iv ((List.length a0_.Station:Nat):Int)),(61,iv (w64 (a5+1)))],[(1,(Zc a0_))],a4⟩ Za.f (by cases a0<;>kernel_rfl) ?_))))
   obtain rfl:=Zb h
   exact ⟨_,rfl,(by show _=_;cases a0<;>kernel_rfl)⟩
  refine kq ?_
  replace hH:HP _ []:=HP.pick hH [] rfl
  refine xq (tx ?_)
  obtain rfl:=Zb h
  exact ⟨_,rfl,rfl,kr⟩
 rintro e s hq
 rcases ax with bQ|bM
 ·dsimp only at h hq
  obtain ⟨rfl,hR⟩:=hq
  obtain rfl:=hR
  replace hH:HP _ []:=HP.pick hH [] rfl
  refine bx (tq (sq (sq ?_)))
  obtain ⟨aw,aJ,h⟩:=bs h
  obtain ⟨b0,aI,h⟩:=bs h
  refine rg (Za.v 2 (Zp (hc:=ZhU N a0_ 0 (ZaT.mk false false false false false false false false false false false false false false false false false false false false false false false false) aw aJ)) (Za.v 0 (Zp (hc:=Zcl N aw false b0 aI)) Za.f)) (tq (it h (fun aR h=>?_) (fun aR h=>?_)))
  ·refine sq (rg Za.f (tq (rt (tr ?_))))
   obtain rfl:=Zb h
   exact Zu kr
  refine sk (tq (kq (sq (rg Za.f (tq (rt ?_))))))
  obtain rfl:=Zb h
  exact Zu kr
 dsimp only at h hq
 obtain ⟨rfl,hq⟩:=hq
 refine br (tr ?_)
 obtain rfl:=Zb h
 exact hq
theorem Zgm (N:Nat)(a0_:ZK)(c0_:(List Int))(c1_:(List Int))(k0_:Nat)(k1_:Nat)(H:List HO)(hH:HP H [.cel k0_ [Zi false c0_],.cel k1_ [Zi false c1_]])(r:Bool×Int)(h:ZcC N a0_ c0_ c1_=some r):Zao Try.prog 91 [.agg (Zc a0_.Topo),.ptr k0_ 0,.ptr k1_ 0] H (.tup [bv r.1,iv r.2]) H:=by
 unfold ZcC at h
 refine Zaz Zwn rfl rfl rfl (Zq _ _ _ (sq (rg Za.f (tq (sq (sq ?_))))))
 have hlc1:=HP.get hH 0 rfl
 obtain ⟨r2,hr2,h⟩:=bs h
 refine rg (Za.u 1 (Zm (H:=H) (id:=k0_) (off:=0) (cs:=[Zi false c0_]) (c:=[Zi false c0_]) (r:=Zi false c0_) (hl:=hlc1)) (Za.v 0 (Zp (hc:=ZcP N a0_ c0_ r2 hr2)) Za.f)) (tq (it h (fun hc3 h=>?_) (fun hc3 h=>?_)))
 ·refine sq (rg Za.f ?_)
  replace hH:HP _ []:=HP.pick hH [] rfl
  refine tq (rt (tr ?_))
  obtain rfl:=Zb h
  exact Zai kr kr
 refine sk (tq (kq (sq ?_)))
 obtain ⟨a9,hj,h⟩:=bs h
 refine rgR (fun s=>s=⟨[(4,bv a9),(5,iv 0)],[],H⟩) ?_ ?_
 ·clear h
  have hlc4:=HP.get hH 1 rfl
  refine (EP.u 0 (Zm (H:=H) (id:=k1_) (off:=0) (cs:=[Zi false c1_]) (c:=[Zi false c1_]) (r:=Zi false c1_) (hl:=hlc4)) ?_)
  have hlc5:=HP.get hH 0 rfl
  refine (EP.u 0 (Zm (H:=H) (id:=k0_) (off:=0) (cs:=[Zi false c0_]) (c:=[Zi false c0_]) (r:=Zi false c0_) (hl:=hlc5)) ?_)
  obtain ⟨r6,hr6,hj⟩:=bs hj
  refine (EP.v 0 (Zp (hc:=ZgP N c1_ c0_ r6 hr6)) ?_)
  rcases Zz hj with ⟨hc7,hj⟩|⟨a5,hj⟩
  ·refine (EP.u 0 (Zh (c:=(!r6)) (h:=hc7)) ?_)
   have hlc8:=HP.get hH 1 rfl
   refine (EP.u 2 (Zm (H:=H) (id:=k1_) (off:=0) (cs:=[Zi false c1_]) (c:=[Zi false c1_]) (r:=Zi false c1_) (hl:=hlc8)) ?_)
   have hlc9:=HP.get hH 0 rfl
   refine (EP.u 0 (Zm (H:=H) (id:=k0_) (off:=0) (cs:=[Zi false c0_]) (c:=[Zi false c0_]) (r:=Zi false c0_) (hl:=hlc9)) ?_)
   obtain ⟨a2,a4,hj⟩:=bs hj
   refine (EP.v 0 (Zp (hc:=ZcQ N a0_ c1_ c0_ a2 a4)) ?_)
   rcases Zz hj with ⟨a7,hj⟩|⟨a6,hj⟩
   ·refine (EP.u 0 (Zh (c:=(!a2)) (h:=a7)) ?_)
    have a1:=HP.get hH 0 rfl
    refine (EP.u 3 (Zm (H:=H) (id:=k0_) (off:=0) (cs:=[Zi false c0_]) (c:=[Zi false c0_]) (r:=Zi false c0_) (hl:=a1)) ?_)
    have a0:=HP.get hH 1 rfl
    refine (EP.u 0 (Zm (H:=H) (id:=k1_) (off:=0) (cs:=[Zi false c1_]) (c:=[Zi false c1_]) (r:=Zi false c1_) (hl:=a0)) ?_)
    obtain ⟨a8,a3,hj⟩:=bs hj
    obtain rfl:=Zb hj
    exact (EP.v 0 (Zp (hc:=ZcQ N a0_ c0_ c1_ a8 a3)) (EP.f kr))
   obtain rfl:=Zb hj
   exact (EP.u 0 (Zh (c:=(!a2)) (h:=a6)) (EP.f kr))
  obtain rfl:=Zb hj
  exact (EP.u 0 (Zh (c:=(!r6)) (h:=a5)) (EP.f kr))
 clear hj
 rintro s hR
 obtain rfl:=hR
 refine tq (rt ?_)
 obtain rfl:=Zb h
 exact Zai kr kr
theorem ZeT (N:Nat)(a0_:Zs)(a1_:(List Int))(r:Int)(h:ZdI N a0_ a1_=some r):PCall Try.prog 97 [.agg (Zc a0_),Zi false a1_] (iv r):=by
 unfold ZdI at h
 have hH:HP ([]:List HO) []:=trivial
 refine ZE Zwh rfl rfl (Zq _ _ _ ?_) rfl
 refine sq (rg Za.f (tq (sq (sq ?_))))
 obtain ⟨r1,hr1,h⟩:=bs h
 refine rg (Za.v 1 (Zp (hc:=ZdC N a0_ r1 hr1)) Za.f) (tq (sq (rg Za.f (tq (it h (fun hc2 h=>?_) (fun hc2 h=>?_))))))
 ·refine sq (rg Za.f (tq (rt (tr ?_))))
  obtain rfl:=Zb h
  exact Zu kr
 refine sk (tq (kq (sq (sq ?_))))
 obtain ⟨r3,hr3,h⟩:=bs h
 refine rg (Za.v 3 (Zp (hc:=ZcP N (ZK.mk a0_) a1_ r3 hr3)) Za.f) (tq (it h (fun hc4 h=>?_) (fun hc4 h=>?_)))
 ·refine sq (rg Za.f (tq (rt (tr ?_))))
  obtain rfl:=Zb h
  exact Zu kr
 refine sk (tq (kq (sq (rg Za.f (tq (rt ?_))))))
 obtain rfl:=Zb h
 exact Zu kr
theorem ZfJ (N:Nat)(a0_:Zs)(a1_:(List Int))(a2_:ZK→Option ((List Int)×Int))(a2_f:Nat)(a2_p a2_c:List AV)(ha2_n:(noLocL a2_p&&noLocL a2_c)=true)(its:List ZR)(ha2_:∀ (H:List HO) (x0:ZK) (r:(List Int)×Int),HP H its→a2_ x0=some r→Zb2 Try.prog (.fn a2_f a2_p a2_c) [.agg [iv x0.Topo.Nodes,s_eB false x0.Topo.Station,Zk false x0.Topo.Links]] H (.tup [Zi false r.1,iv r.2]) H)(H:List HO)(hH:HP H (its))(r:(List Int)×Int)(h:Zdl N a0_ a1_ a2_=some r):Zao Try.prog 101 [.agg (Zc a0_),Zi false a1_,.fn a2_f a2_p a2_c] H (.tup [Zi false r.1,iv r.2]) H:=by
 unfold Zdl at h
 refine Zaz Zoe rfl (by simpa [noLocL,ZI.noLocL,ZI] using ha2_n) rfl (Zq _ _ _ (sq (rg Za.f (tq (sq (rg Za.f (tq (sq (sq ?_)))))))))
 obtain ⟨r1,hr1,h⟩:=bs h
 refine rg (Za.v 2 (Zp (hc:=ZeT N a0_ a1_ r1 hr1)) Za.f) (tq (sq (rg Za.f (tq (it h (fun hc2 h=>?_) (fun hc2 h=>?_))))))
 ·refine sq (rg Za.f (tq (rt (tr ?_))))
  obtain rfl:=Zb h
  exact Zai kr kr
 refine sk (tq (kq (sq ?_)))
 obtain ⟨r3,hr3,h⟩:=bs h
 have hvr3:=ha2_ _ (ZK.mk a0_) _ hH hr3
 refine rg (Za.v 3 (Zaj (H:=H) (ys:=[.agg (Zc a0_)]) (hc:=hvr3)) Za.f) (tq (rt ?_))
 obtain rfl:=Zb h
 exact Zai kr kr
theorem ZbX (N:Nat)(a0_:Zd)(r:Int)(h:Zb6 N a0_=some r):PCall Try.prog 18 [.agg (Ze a0_)] (iv r):=by
 unfold Zb6 at h
 have hH:HP ([]:List HO) []:=trivial
 refine ZE Zxm rfl rfl (Zq _ _ _ ?_) rfl
 refine sq (rg Za.f (tq (sq (sq (rgX ⟨[(1,.loc 1 0),(19,bv ((decide (((List.length a0_.Periods:Nat):Int)>12))||(decide (((List.length a0_.Uses:Nat):Int)>192))))],[(1,(Ze a0_))],[]⟩ ?_ ?_)))))
 ·refine (EP.u 2 (Zo (ys:=[Zi false a0_.Periods]) (h:=Zv eI64)) ?_)
  rcases Bool.eq_false_or_eq_true (decide (((List.length a0_.Periods:Nat):Int)>12)) with hc1|hc2
  ·exact (EP.u 0 (Zh (c:=(decide (((List.length a0_.Periods:Nat):Int)>12))) (h:=hc1)) (EP.f (by simp only [hc1];kernel_rfl)))
  exact (EP.u 0 (Zh (c:=(decide (((List.length a0_.Periods:Nat):Int)>12))) (h:=hc2)) (EP.u 3 (Zo (ys:=[Zw false a0_.Uses]) (h:=Zv Zj)) (EP.f (by simp only [hc2];kernel_rfl))))
 refine tq (it h (fun hc3 h=>?_) (fun hc3 h=>?_))
 ·refine sq (rg Za.f (tq (rt (tr ?_))))
  obtain rfl:=Zb h
  exact Zu kr
 refine sk (tq (kq (sq (sq (rg (Za.u 2 (Zo (ys:=[Zi false a0_.Periods]) (h:=Zv eI64)) Za.f) (tq (bk ?_)))))))
 obtain ⟨au,al,h⟩:=bs h
 refine Z9 ((ZV (fun (x:Int) s=>s=⟨[(1,.loc 1 0),(21,Zi false a0_.Periods),(22,iv ((List.length a0_.Periods:Nat):Int)),(23,iv x)],[(1,(Ze a0_))],[]⟩) (fun x:Int=>ZcI N a0_ x) (fun (p:(Unit)⊕(Int)) e s=>match p with|(.inl p)=>e=.exit 0∧(s=⟨[(1,.loc 1 0)],[(1,(Ze a0_))],[]⟩)|(.inr p)=>e=.ret∧∃ xs,resL s i18.res=some xs∧ZaA xs=iv p) ?_ N _ au _ al kr).mono ?_)
 ·clear h al
  rintro i4 o s h hR
  obtain rfl:=hR
  replace h:ZcI N a0_ i4=some o:=h
  unfold ZcI at h
  refine sq (rg Za.f (tq (sq (it h (fun ay h=>?_) (fun ay h=>?_)))))
  ·refine sk (tq (kq (sq (bk (sq ?_)))))
   obtain ⟨a6,am,h⟩:=bs h
   refine rg (Za.u 0 (Zo (ys:=[Zi false a0_.Periods,iv i4]) (h:=Zn eI64 am)) (Za.u 0 (ZD (sz:=1) (off:=0) (cs:=[.int .i64 a6]) (r:=iv a6) eI64 am) Za.f)) (tq (sq (rgX ⟨[(1,.loc 1 0),(21,Zi false a0_.Periods),(22,iv ((List.length a0_.Periods:Nat):Int)),(23,iv i4),(32,bv ((decide (a6<1))||(decide (a6>240))))],[(1,(Ze a0_))],[]⟩ ?_ ?_)))
   ·rcases Bool.eq_false_or_eq_true (decide (a6<1)) with ao|an
    ·exact (EP.u 1 (Zh (c:=(decide (a6<1))) (h:=ao)) (EP.f (by simp only [ao];kernel_rfl)))
    exact (EP.u 1 (Zh (c:=(decide (a6<1))) (h:=an)) (EP.f (by simp only [an];kernel_rfl)))
   refine tq (it h (fun ax h=>?_) (fun ax h=>?_))
   ·refine sq (rg Za.f (tq (rt (br (tr ?_)))))
    obtain rfl:=Zb h
    exact ⟨_,rfl,rfl,Zu kr⟩
   refine sk (bn (tq (kq (rg Za.f ?_))))
   obtain rfl:=Zb h
   exact ⟨_,rfl,kr⟩
  refine kq (xq (tx ?_))
  obtain rfl:=Zb h
  exact ⟨_,rfl,rfl,kr⟩
 rintro e s hq
 rcases au with aD|aA
 ·dsimp only at h hq
  obtain ⟨rfl,hR⟩:=hq
  obtain rfl:=hR
  refine bx (tq (sq (sq ?_)))
  obtain ⟨az,av,h⟩:=bs h
  refine rg (Za.v 2 (Zp (hc:=ZdO N a0_.Periods az av)) Za.f) (tq (sq (rg Za.f (tq (it h (fun aw h=>?_) (fun aw h=>?_))))))
  ·refine sq (rg Za.f (tq (rt (tr ?_))))
   obtain rfl:=Zb h
   exact Zu kr
  refine sk (tq (kq (sq (sq (rg (Za.u 2 (Zo (ys:=[Zw false a0_.Uses]) (h:=Zv Zj)) Za.f) (tq (bk ?_)))))))
  obtain ⟨ak,a7,h⟩:=bs h
  refine Z9 ((ZV (fun (x:Int) s=>s=⟨[(1,.loc 1 0),(43,Zw false a0_.Uses),(44,iv ((List.length a0_.Uses:Nat):Int)),(45,iv x)],[(1,(Ze a0_))],[]⟩) (fun x:Int=>ZcH N a0_ x) (fun (p:(Unit)⊕(Int)) e s=>match p with|(.inl p)=>e=.exit 2∧(s=⟨[],[],[]⟩)|(.inr p)=>e=.ret∧∃ xs,resL s i18.res=some xs∧ZaA xs=iv p) ?_ N _ ak _ a7 kr).mono ?_)
  ·clear h a7
   rintro aj o s h hR
   obtain rfl:=hR
   replace h:ZcH N a0_ aj=some o:=h
   unfold ZcH at h
   refine sq (rg Za.f (tq (sq (it h (fun ar h=>?_) (fun ar h=>?_)))))
   ·refine sk (tq (kq (sq (bk (sq ?_)))))
    obtain ⟨a0,a9,h⟩:=bs h
    refine rg (Za.u 0 (Zo (ys:=[Zw false a0_.Uses,iv aj]) (h:=Zn Zj a9)) (Za.u 0 (ZD (sz:=4) (off:=0) (cs:=[.int .i64 a0.Stream,.int .i64 a0.Port,.int .i64 a0.From,.int .i64 a0.Long]) (r:=.agg (ZM a0)) Zj a9) Za.f)) (tq (sq (sq (rgX ⟨[(1,.loc 1 0),(8,.loc 8 0),(43,Zw false a0_.Uses),(44,iv ((List.length a0_.Uses:Nat):Int)),(45,iv aj),(69,bv ((decide (a0.Stream<0))||((decide (a0.Stream≥((List.length a0_.Periods:Nat):Int)))||((decide (a0.Port<0))||(decide (a0.Port≥48))))))],[(1,(Ze a0_)),(8,(ZM a0))],[]⟩ ?_ ?_))))
    ·rcases Bool.eq_false_or_eq_true (decide (a0.Stream<0)) with ai|a3
     ·exact (EP.u 2 (Zh (c:=(decide (a0.Stream<0))) (h:=ai)) (EP.f (by simp only [ai];kernel_rfl)))
     refine (EP.u 2 (Zh (c:=(decide (a0.Stream<0))) (h:=a3)) (EP.u 5 (Zo (ys:=[Zi false a0_.Periods]) (h:=Zv eI64)) ?_))
     rcases Bool.eq_false_or_eq_true (decide (a0.Stream≥((List.length a0_.Periods:Nat):Int))) with ag|a5
     ·exact (EP.u 0 (Zh (c:=(decide (a0.Stream≥((List.length a0_.Periods:Nat):Int)))) (h:=ag)) (EP.f (by simp only [a3,ag];kernel_rfl)))
     refine (EP.u 0 (Zh (c:=(decide (a0.Stream≥((List.length a0_.Periods:Nat):Int)))) (h:=a5)) ?_)
     rcases Bool.eq_false_or_eq_true (decide (a0.Port<0)) with af|ae
     ·exact (EP.u 4 (Zh (c:=(decide (a0.Port<0))) (h:=af)) (EP.f (by simp only [a3,a5,af];kernel_rfl)))
     exact (EP.u 4 (Zh (c:=(decide (a0.Port<0))) (h:=ae)) (EP.f (by simp only [a3,a5,ae];kernel_rfl)))
    refine tq (it h (fun aq h=>?_) (fun aq h=>?_))
    ·refine sq (rg Za.f (tq (rt (tr (br (tr ?_))))))
     obtain rfl:=Zb h
     exact ⟨_,rfl,rfl,Zu kr⟩
    refine sk (tq (kq (sq ?_)))
    obtain ⟨a1,a8,h⟩:=bs h
    refine rg (Za.u 4 (Zo (ys:=[Zi false a0_.Periods,iv a0.Stream]) (h:=Zn eI64 a8)) (Za.u 0 (ZD (sz:=1) (off:=0) (cs:=[.int .i64 a1]) (r:=iv a1) eI64 a8) Za.f)) (tq (sq (rgX ⟨[(1,.loc 1 0),(43,Zw false a0_.Uses),(44,iv ((List.length a0_.Uses:Nat):Int)),(45,iv aj),(95,bv ((decide (a0.From<0))||((decide (a0.From≥a1))||((decide (a0.Long<1))||(decide (a0.Long>a1))))))],[(1,(Ze a0_))],[]⟩ ?_ ?_)))
    ·rcases Bool.eq_false_or_eq_true (decide (a0.From<0)) with ad|a2
     ·exact (EP.u 2 (Zh (c:=(decide (a0.From<0))) (h:=ad)) (EP.f (by simp only [ad];kernel_rfl)))
     refine (EP.u 2 (Zh (c:=(decide (a0.From<0))) (h:=a2)) ?_)
     rcases Bool.eq_false_or_eq_true (decide (a0.From≥a1)) with ac|a4
     ·exact (EP.u 4 (Zh (c:=(decide (a0.From≥a1))) (h:=ac)) (EP.f (by simp only [a2,ac];kernel_rfl)))
     refine (EP.u 4 (Zh (c:=(decide (a0.From≥a1))) (h:=a4)) ?_)
     rcases Bool.eq_false_or_eq_true (decide (a0.Long<1)) with ab|aa
     ·exact (EP.u 4 (Zh (c:=(decide (a0.Long<1))) (h:=ab)) (EP.f (by simp only [a2,a4,ab];kernel_rfl)))
     exact (EP.u 4 (Zh (c:=(decide (a0.Long<1))) (h:=aa)) (EP.f (by simp only [a2,a4,aa];kernel_rfl)))
    refine tq (it h (fun ap h=>?_) (fun ap h=>?_))
    ·refine sq (rg Za.f (tq (rt (br (tr ?_)))))
     obtain rfl:=Zb h
     exact ⟨_,rfl,rfl,Zu kr⟩
    refine sk (bn (tq (kq (rg Za.f ?_))))
    obtain rfl:=Zb h
    exact ⟨_,rfl,kr⟩
   refine kq (xq (tx ?_))
   obtain rfl:=Zb h
   exact ⟨_,rfl,rfl,kr⟩
  rintro e s hq
  rcases ak with aC|aB
  ·dsimp only at h hq
   obtain ⟨rfl,hR⟩:=hq
   obtain rfl:=hR
   refine bx (tq (sq (rg Za.f (tq (rt ?_)))))
   obtain rfl:=Zb h
   exact Zu kr
  dsimp only at h hq
  obtain ⟨rfl,hq⟩:=hq
  refine br (tr ?_)
  obtain rfl:=Zb h
  exact hq
 dsimp only at h hq
 obtain ⟨rfl,hq⟩:=hq
 refine br (tr ?_)
 obtain rfl:=Zb h
 exact hq
theorem Zc2 (N:Nat)(a0_:Zd)(a1_:Int)(a2_:Int)(r:ZP×Int)(h:Zdx N a0_ a1_ a2_=some r):PCall Try.prog 20 [.agg (Ze a0_),iv a1_,iv a2_] (.tup [.agg [iv r.1.Period,iv r.1.From,iv r.1.Long],iv r.2]):=by
 unfold Zdx at h
 have hH:HP ([]:List HO) []:=trivial
 refine ZE Zxl rfl rfl (Zq _ _ _ ?_) rfl
 refine sq (rg Za.f (tq (sq (sq ?_))))
 obtain ⟨r1,hr1,h⟩:=bs h
 refine rg (Za.v 1 (Zp (hc:=ZbX N a0_ r1 hr1)) Za.f) (tq (sq (rg Za.f (tq (it h (fun hc2 h=>?_) (fun hc2 h=>?_))))))
 ·refine sq (rg Za.f (tq (rt (tr ?_))))
  obtain rfl:=Zb h
  exact Zu kr
 refine sk (tq (kq (sq (sq ?_))))
 obtain ⟨j9,hj,h⟩:=bs h
 refine rqR (fun s=>s=⟨[(1,iv a1_),(2,iv a2_),(3,.loc 3 0),(6,.loc 6 0),(35,bv j9)],[(3,(Ze a0_)),(6,[iv 0,iv 0,iv 0])],[]⟩) ?_ ?_
 ·clear h
  rcases Zz hj with ⟨hc3,hj⟩|⟨hc4,hj⟩
  ·obtain rfl:=Zb hj
   exact (EP.u 1 (Zh (c:=(decide (a1_<0))) (h:=hc3)) (EP.f kr))
  refine (EP.u 1 (Zh (c:=(decide (a1_<0))) (h:=hc4)) (EP.u 4 (Zo (ys:=[Zw false a0_.Uses]) (h:=Zv Zj)) ?_))
  rcases Zz hj with ⟨hc5,hj⟩|⟨hc6,hj⟩
  ·obtain rfl:=Zb hj
   exact (EP.u 0 (Zh (c:=(decide (a1_≥((List.length a0_.Uses:Nat):Int)))) (h:=hc5)) (EP.f kr))
  refine (EP.u 0 (Zh (c:=(decide (a1_≥((List.length a0_.Uses:Nat):Int)))) (h:=hc6)) ?_)
  obtain ⟨e7,he7,hj⟩:=bs hj
  refine (EP.u 6 (Zo (ys:=[Zw false a0_.Uses,iv a1_]) (h:=Zn Zj he7)) (EP.u 1 (Z3 (ZD (sz:=4) (off:=0) (cs:=[.int .i64 e7.Stream]) (r:=iv e7.Stream) Zj he7)) ?_))
  obtain ⟨r8,hr8,hj⟩:=bs hj
  obtain rfl:=Zb hj
  exact (EP.u 1 (Zfi (hc:=Zca N a0_ e7.Stream a2_ r8 hr8)) (EP.f kr))
 clear hj
 rintro s hR
 obtain rfl:=hR
 refine tq (it h (fun a3 h=>?_) (fun a3 h=>?_))
 ·refine sq (rg Za.f (tq (rt (tr ?_))))
  obtain rfl:=Zb h
  exact Zu kr
 refine sk (tq (kq (sq ?_)))
 obtain ⟨a0,a1,h⟩:=bs h
 obtain ⟨a4,a2,h⟩:=bs h
 refine rq (Za.u 4 (Zo (ys:=[Zw false a0_.Uses,iv a1_]) (h:=Zn Zj a1)) (Za.u 0 (Z3 (ZD (sz:=4) (off:=0) (cs:=[.int .i64 a0.Stream,.int .i64 a0.Port,.int .i64 a0.From,.int .i64 a0.Long]) (r:=.agg (ZM a0)) Zj a1)) (Za.v 1 (Zp (hc:=Zco N a0_ a0 a2_ a4 a2)) Za.f))) (tq (rt ?_))
 obtain rfl:=Zb h
 exact Zu kr
theorem ZdV (N:Nat)(a0_:Zd)(a1_:Int)(a2_:Int)(a3_:Int)(a4_:Int)(r:Bool)(h:ZcG N a0_ a1_ a2_ a3_ a4_=some r):PCall Try.prog 29 [.agg (Ze a0_),iv a1_,iv a2_,iv a3_,iv a4_] (bv r):=by
 unfold ZcG at h
 have hH:HP ([]:List HO) []:=trivial
 refine ZE Zxd rfl rfl (Zq _ _ _ ?_) rfl
 refine sq ?_
 obtain ⟨id1,H2,hid1,hH2,hH⟩:=HP.newCell hH (Ze a0_)
 replace hH:HP _ [.cel id1 (Ze a0_)]:=hH
 obtain ⟨id3,H4,hid3,hH4,hH⟩:=HP.newCell hH [iv a2_]
 replace hH:HP _ [.cel id3 [iv a2_],.cel id1 (Ze a0_)]:=hH
 obtain ⟨id5,H6,hid5,hH6,hH⟩:=HP.newCell hH [iv a4_]
 replace hH:HP _ [.cel id5 [iv a4_],.cel id3 [iv a2_],.cel id1 (Ze a0_)]:=hH
 obtain ⟨id7,H8,hid7,hH8,hH⟩:=HP.newCell hH [bv false]
 replace hH:HP _ [.cel id7 [bv false],.cel id5 [iv a4_],.cel id3 [iv a2_],.cel id1 (Ze a0_)]:=hH
 refine rgS ⟨[(1,iv a1_),(3,iv a3_),(5,.ptr id1 0),(7,.ptr id3 0),(9,.ptr id5 0),(10,.ptr id7 0)],[],H8⟩ (Za.h 0 (ZaL (H:=[]) (v:=.agg (Ze a0_)) (hid:=hid1) (hH:=hH2)) (Za.h 0 (ZaL (H:=H2) (v:=iv a2_) (hid:=hid3) (hH:=hH4)) (Za.h 0 (ZaL (H:=H4) (v:=iv a4_) (hid:=hid5) (hH:=hH6)) (Za.h 0 (Zd9 (H:=H6) kr hid7 hH8) Za.f)))) kr (tq (sq (sq ?_)))
 have hlc9:=HP.get hH 3 rfl
 obtain ⟨a6,ay,h⟩:=bs h
 obtain ⟨a5,a4,a3,a2,ai,am⟩:=Zh4 N a0_ a1_ a3_ H8 a6 ay
 replace hH:HP _ [.cel a5 (Ze a6.1),.cel a4 [iv a6.2.1],.cel a3 [iv a6.2.2],.cel id7 [bv false],.cel id5 [iv a4_],.cel id3 [iv a2_],.cel id1 (Ze a0_)]:=HP.callee (fp:=[]) (rest:=[.cel id7 [bv false],.cel id5 [iv a4_],.cel id3 [iv a2_],.cel id1 (Ze a0_)]) hH am
 refine rgS ⟨[(5,.ptr id1 0),(7,.ptr id3 0),(9,.ptr id5 0),(10,.ptr id7 0),(18,.fn 55 [] [.ptr a5 0,.ptr a4 0,.ptr a3 0])],[],a2⟩ (Za.u 0 (Zm (H:=H8) (id:=id1) (off:=0) (cs:=(Ze a0_)) (c:=(Ze a0_)) (r:=.agg (Ze a0_)) (hl:=hlc9)) (Za.v 2 (ZdG (H:=H8) (ys:=[.agg (Ze a0_),iv a1_,iv a3_]) kr kr kr ai) Za.f)) kr (tq (bk ?_))
 obtain ⟨a0,an,h⟩:=bs h
 have a9:∀ (x16:Zx) (x17:Zx) (s:(Bool)×Nat) (r:((Bool)×Nat)×Bool) (H:List HO) (its:List ZR),(fun (s:(Bool)×Nat) (its:List ZR)=>its=[.cel id7 [bv s.1],.cel id5 [iv a4_],.cel id3 [iv a2_],.cel id1 (Ze a0_)]++[.lp (List.length a2) (lcOf Try.prog i29.nt [19,20] Zc1 ZcZ) [(5,.ptr id1 0),(7,.ptr id3 0),(9,.ptr id5 0),(10,.ptr id7 0)] (stAt [.ready,.done .ret] s.2)]) s its→HP H its→(fun (s:(Bool)×Nat) (x16:Zx) (x17:Zx)=>Zf6 (fun v:Bool=>Za4 N a0_ a2_ a4_ v x16 x17) s) s x16 x17=some r→∃ H' its',Zeu Try.prog (List.length a2) [.agg (ZM x16),.agg (ZM x17)] H r.2 H'∧(fun (s:(Bool)×Nat) (its:List ZR)=>its=[.cel id7 [bv s.1],.cel id5 [iv a4_],.cel id3 [iv a2_],.cel id1 (Ze a0_)]++[.lp (List.length a2) (lcOf Try.prog i29.nt [19,20] Zc1 ZcZ) [(5,.ptr id1 0),(7,.ptr id3 0),(9,.ptr id5 0),(10,.ptr id7 0)] (stAt [.ready,.done .ret] s.2)]) r.1 its'∧Fp H H' its its':=by
  clear h
  intro x16 x17 s r ae its hT hH h
  obtain ⟨h0,q,hb,rfl⟩:=ZgD h
  clear h
  obtain ⟨vs,e⟩:=s
  obtain rfl:e=0:=h0
  obtain ⟨b18,rfl⟩:∃ v,v=vs:=⟨vs,rfl⟩
  obtain rfl:=hT
  replace h:Za4 N a0_ a2_ a4_ b18 x16 x17=some q:=hb
  clear hb
  unfold Za4 at h
  replace hH:Fp _ _ _ [.cel id7 [bv b18],.cel id5 [iv a4_],.cel id3 [iv a2_],.cel id1 (Ze a0_),.lp (List.length a2) (lcOf Try.prog i29.nt [19,20] Zc1 ZcZ) [(5,.ptr id1 0),(7,.ptr id3 0),(9,.ptr id5 0),(10,.ptr id7 0)] .ready]:=Fp.refl hH
  suffices hs:∃ H',Zeu Try.prog (List.length a2) [.agg (ZM x16),.agg (ZM x17)] ae (q.2==0) H'∧∃ its',(fun (s:(Bool)×Nat) (its:List ZR)=>its=[.cel id7 [bv s.1],.cel id5 [iv a4_],.cel id3 [iv a2_],.cel id1 (Ze a0_)]++[.lp (List.length a2) (lcOf Try.prog i29.nt [19,20] Zc1 ZcZ) [(5,.ptr id1 0),(7,.ptr id3 0),(9,.ptr id5 0),(10,.ptr id7 0)] (stAt [.ready,.done .ret] s.2)]) q its'∧Fp ae H' [.cel id7 [bv b18],.cel id5 [iv a4_],.cel id3 [iv a2_],.cel id1 (Ze a0_),.lp (List.length a2) (lcOf Try.prog i29.nt [19,20] Zc1 ZcZ) [(5,.ptr id1 0),(7,.ptr id3 0),(9,.ptr id5 0),(10,.ptr id7 0)] .ready] its' by
   obtain ⟨H',h1,its',h2,h3⟩:=hs
   exact ⟨H',its',h1,h2,h3⟩
  refine Zd1 (id:=(List.length a2)) (args:=[.agg (ZM x16),.agg (ZM x17)]) (H:=ae) (n:=i29.nt) (ps:=[19,20]) (fr0:=[(5,.ptr id1 0),(7,.ptr id3 0),(9,.ptr id5 0),(10,.ptr id7 0)]) (ia:=Zc1) (ib:=ZcZ) (q.2==0) (fun H'=>∃ its',(fun (s:(Bool)×Nat) (its:List ZR)=>its=[.cel id7 [bv s.1],.cel id5 [iv a4_],.cel id3 [iv a2_],.cel id1 (Ze a0_)]++[.lp (List.length a2) (lcOf Try.prog i29.nt [19,20] Zc1 ZcZ) [(5,.ptr id1 0),(7,.ptr id3 0),(9,.ptr id5 0),(10,.ptr id7 0)] (stAt [.ready,.done .ret] s.2)]) q its'∧Fp ae H' [.cel id7 [bv b18],.cel id5 [iv a4_],.cel id3 [iv a2_],.cel id1 (Ze a0_),.lp (List.length a2) (lcOf Try.prog i29.nt [19,20] Zc1 ZcZ) [(5,.ptr id1 0),(7,.ptr id3 0),(9,.ptr id5 0),(10,.ptr id7 0)] .ready] its') (Fp.get hH 4 rfl) rfl (by decide +kernel) rfl ?_
  show vc _ _ _ _ ⟨[(5,.ptr id1 0),(7,.ptr id3 0),(9,.ptr id5 0),(10,.ptr id7 0),(19,.agg (ZM x16)),(20,.agg (ZM x17))],[],ae⟩
  refine sq (rgS ⟨[(5,.ptr id1 0),(7,.ptr id3 0),(9,.ptr id5 0),(10,.ptr id7 0),(11,.loc 11 0),(20,.agg (ZM x17))],[(11,(ZM x16))],ae⟩ Za.f kr (tq (rgS ⟨[(5,.ptr id1 0),(7,.ptr id3 0),(9,.ptr id5 0),(10,.ptr id7 0),(11,.loc 11 0),(12,.loc 12 0)],[(11,(ZM x16)),(12,(ZM x17))],ae⟩ Za.f kr (Zg9 (k:=4) hH rfl ?_))))
  intro a1 hH
  replace hH:Fp _ _ _ [.cel id7 [bv b18],.cel id5 [iv a4_],.cel id3 [iv a2_],.cel id1 (Ze a0_),.lp (List.length a2) (lcOf Try.prog i29.nt [19,20] Zc1 ZcZ) [(5,.ptr id1 0),(7,.ptr id3 0),(9,.ptr id5 0),(10,.ptr id7 0)] .busy]:=hH
  show vc _ _ _ _ ⟨[(5,.ptr id1 0),(7,.ptr id3 0),(9,.ptr id5 0),(10,.ptr id7 0),(11,.loc 11 0),(12,.loc 12 0)],[(11,(ZM x16)),(12,(ZM x17))],a1⟩
  refine bk (sq (sq (rgS ⟨[(5,.ptr id1 0),(7,.ptr id3 0),(9,.ptr id5 0),(10,.ptr id7 0),(11,.loc 11 0),(12,.loc 12 0),(23,bv ((x16.Stream==x17.Stream)&&((x16.Port==x17.Port)&&((x16.From==x17.From)&&((x16.Long==x17.Long)&&true)))))],[(11,(ZM x16)),(12,(ZM x17))],a1⟩ Za.f kr (tq (it h (fun ar h=>?_) (fun ar h=>?_))))))
  ·refine sq ?_
   obtain ⟨aA,aw,hH⟩:=Fp.setCell (k:=0) (off:=0) (cs:=[bv b18]) (vs:=[bv true]) (cs':=[bv true]) hH rfl kr
   replace hH:Fp _ _ _ [.cel id7 [bv true],.cel id5 [iv a4_],.cel id3 [iv a2_],.cel id1 (Ze a0_),.lp (List.length a2) (lcOf Try.prog i29.nt [19,20] Zc1 ZcZ) [(5,.ptr id1 0),(7,.ptr id3 0),(9,.ptr id5 0),(10,.ptr id7 0)] .busy]:=hH
   refine rgS ⟨[],[],aA⟩ (Za.o 0 (Zaa (H:=a1) (v:=bv true) (hw:=aw)) Za.f) kr (tq (rt (tr (br ?_))))
   obtain rfl:=Zb h
   exact rbd (k:=4) (.done .ret) hH rfl rfl (fun H6 hH=>⟨_,(Eq.refl _),(Fp.pick hH [0,1,2,3,4] rfl)⟩)
  refine sk (tq (kq (sq ?_)))
  have ad:=Fp.get hH 3 rfl
  have ac:=Fp.get hH 2 rfl
  obtain ⟨ag,al,h⟩:=bs h
  have ab:=Fp.get hH 3 rfl
  have aa:=Fp.get hH 1 rfl
  obtain ⟨af,ak,h⟩:=bs h
  obtain ⟨a8,aj,h⟩:=bs h
  refine rqS ⟨[(10,.ptr id7 0),(13,bv a8.1)],[],a1⟩ (Za.u 0 (Z3 (Zm (H:=a1) (id:=id1) (off:=0) (cs:=(Ze a0_)) (c:=(Ze a0_)) (r:=.agg (Ze a0_)) (hl:=ad))) (Za.u 1 (Z3 (Zm (H:=a1) (id:=id3) (off:=0) (cs:=[iv a2_]) (c:=[iv a2_]) (r:=iv a2_) (hl:=ac))) (Za.u 0 (Zfi (hc:=Zco N a0_ x16 a2_ ag al)) (Za.u 0 (Z3 (Zm (H:=a1) (id:=id1) (off:=0) (cs:=(Ze a0_)) (c:=(Ze a0_)) (r:=.agg (Ze a0_)) (hl:=ab))) (Za.u 1 (Z3 (Zm (H:=a1) (id:=id5) (off:=0) (cs:=[iv a4_]) (c:=[iv a4_]) (r:=iv a4_) (hl:=aa))) (Za.v 0 (Zp (hc:=Zco N a0_ x17 a4_ af ak)) (Za.v 0 (Zp (hc:=Zgp N ag af a8 aj)) Za.f))))))) kr (tq (sq (rgS ⟨[(10,.ptr id7 0),(37,bv (!a8.1))],[],a1⟩ Za.f kr (tq (it h (fun aq h=>?_) (fun aq h=>?_))))))
  ·refine sq ?_
   obtain ⟨az,av,hH⟩:=Fp.setCell (k:=0) (off:=0) (cs:=[bv b18]) (vs:=[bv true]) (cs':=[bv true]) hH rfl kr
   replace hH:Fp _ _ _ [.cel id7 [bv true],.cel id5 [iv a4_],.cel id3 [iv a2_],.cel id1 (Ze a0_),.lp (List.length a2) (lcOf Try.prog i29.nt [19,20] Zc1 ZcZ) [(5,.ptr id1 0),(7,.ptr id3 0),(9,.ptr id5 0),(10,.ptr id7 0)] .busy]:=hH
   refine rgS ⟨[],[],az⟩ (Za.o 0 (Zaa (H:=a1) (v:=bv true) (hw:=av)) Za.f) kr (tq (rt (br ?_)))
   obtain rfl:=Zb h
   exact rbd (k:=4) (.done .ret) hH rfl rfl (fun H6 hH=>⟨_,(Eq.refl _),(Fp.pick hH [0,1,2,3,4] rfl)⟩)
  refine sk (bn ?_)
  obtain rfl:=Zb h
  exact rbd (k:=4) (.ready) hH rfl rfl (fun H6 hH=>⟨_,(Eq.refl _),(Fp.pick hH [0,1,2,3,4] rfl)⟩)
 refine Zff (s:=⟨[(5,.ptr id1 0),(7,.ptr id3 0),(9,.ptr id5 0),(10,.ptr id7 0),(18,.fn 55 [] [.ptr a5 0,.ptr a4 0,.ptr a3 0])],[],a2⟩) [(5,.ptr id1 0),(7,.ptr id3 0),(9,.ptr id5 0),(10,.ptr id7 0)] (FrOK.cons kr kr (FrOK.cons kr kr (FrOK.cons kr kr (FrOK.cons kr kr FrOK.nil)))) kr (fun H=>rfl) (capT:=[.cel a5 (Ze a6.1),.cel a4 [iv a6.2.1],.cel a3 [iv a6.2.2]]) (cells0:=[.cel id7 [bv false],.cel id5 [iv a4_],.cel id3 [iv a2_],.cel id1 (Ze a0_)]) (rest:=[]) (HP.now (HP.pick hH [0,1,2,3,4,5,6] rfl)) (fun (s:(Bool)×Nat) (its:List ZR)=>its=[.cel id7 [bv s.1],.cel id5 [iv a4_],.cel id3 [iv a2_],.cel id1 (Ze a0_)]++[.lp (List.length a2) (lcOf Try.prog i29.nt [19,20] Zc1 ZcZ) [(5,.ptr id1 0),(7,.ptr id3 0),(9,.ptr id5 0),(10,.ptr id7 0)] (stAt [.ready,.done .ret] s.2)]) (false,0) a0 (by exact (Eq.refl _)) (fun H its hT hH=>ZgV N (fun (s:(Bool)×Nat) (x16:Zx) (x17:Zx)=>Zf6 (fun v:Bool=>Za4 N a0_ a2_ a4_ v x16 x17) s) a6.1 a6.2.1 a6.2.2 (false,0) a5 a4 a3 (List.length a2) (fun (s:(Bool)×Nat) (its:List ZR)=>its=[.cel id7 [bv s.1],.cel id5 [iv a4_],.cel id3 [iv a2_],.cel id1 (Ze a0_)]++[.lp (List.length a2) (lcOf Try.prog i29.nt [19,20] Zc1 ZcZ) [(5,.ptr id1 0),(7,.ptr id3 0),(9,.ptr id5 0),(10,.ptr id7 0)] (stAt [.ready,.done .ret] s.2)]) a9 H its hT hH a0 an) ?_
 rintro its hT
 obtain rfl:=hT
 refine ⟨_,_,rfl,?_⟩
 intro a7 hF
 replace hH:HP _ [.cel a5 (Ze a6.1),.cel a4 [iv a6.2.1],.cel a3 [iv a6.2.2],.cel id7 [bv a0.1],.cel id5 [iv a4_],.cel id3 [iv a2_],.cel id1 (Ze a0_)]:=HP.after (HP.pick hH [0,1,2,3,4,5,6] rfl) hF
 rcases Zz h with ⟨ap,h⟩|⟨_,h⟩
 ·refine Zh7 (S:=⟨[(5,.ptr id1 0),(7,.ptr id3 0),(9,.ptr id5 0),(10,.ptr id7 0),(18,.fn 55 [] [.ptr a5 0,.ptr a4 0,.ptr a3 0])],[],a7⟩) (e:=.normal) ap rfl (bn (tq (kq ?_)))
  replace hH:HP _ [.cel id7 [bv a0.1]]:=HP.pick hH [3] rfl
  refine sq ?_
  obtain ⟨ax,au,hH⟩:=HP.setCell (k:=0) (off:=0) (cs:=[bv a0.1]) (vs:=[bv false]) (cs':=[bv false]) hH rfl kr
  replace hH:HP _ [.cel id7 [bv false]]:=hH
  refine rgS ⟨[(10,.ptr id7 0)],[],ax⟩ (Za.o 0 (Zaa (H:=a7) (v:=bv false) (hw:=au)) Za.f) kr (tq (rt ?_))
  obtain rfl:=Zb h
  exact ZfL (H:=ax) (ys:=[bv false]) (xs:=[bv false]) kr (Zjz (r:=.cell 10 1 false) (v:=bv false) (Zjy (id:=id7) (off:=0) (cs:=[bv false]) (c:=[bv false]) kr (HP.get hH 0 rfl) kr kr) ZjA) (Zbf rfl ZcL) kr
 rcases Zz h with ⟨ao,h⟩|⟨_,h⟩
 ·refine Zh7 (S:=⟨[(5,.ptr id1 0),(7,.ptr id3 0),(9,.ptr id5 0),(10,.ptr id7 0),(18,.fn 55 [] [.ptr a5 0,.ptr a4 0,.ptr a3 0])],[],a7⟩) (e:=.ret) ao rfl (br (tr ?_))
  obtain rfl:=Zb h
  exact ZfL (H:=a7) (ys:=[bv a0.1]) (xs:=[bv a0.1]) kr (Zjz (r:=.cell 10 1 false) (v:=bv a0.1) (Zjy (id:=id7) (off:=0) (cs:=[bv a0.1]) (c:=[bv a0.1]) kr (HP.get hH 3 rfl) kr kr) ZjA) (Zbf rfl ZcL) kr
 cases h
theorem ZfI (N:Nat)(a0_:Zs)(a1_:(List Int))(a2_:ZK→Option (Bool×Int))(a2_f:Nat)(a2_p a2_c:List AV)(ha2_n:(noLocL a2_p&&noLocL a2_c)=true)(its:List ZR)(ha2_:∀ (H:List HO) (x0:ZK) (r:Bool×Int),HP H its→a2_ x0=some r→Zb2 Try.prog (.fn a2_f a2_p a2_c) [.agg [iv x0.Topo.Nodes,s_eB false x0.Topo.Station,Zk false x0.Topo.Links]] H (.tup [bv r.1,iv r.2]) H)(H:List HO)(hH:HP H (its))(r:Bool×Int)(h:Zdk N a0_ a1_ a2_=some r):Zao Try.prog 90 [.agg (Zc a0_),Zi false a1_,.fn a2_f a2_p a2_c] H (.tup [bv r.1,iv r.2]) H:=by
 unfold Zdk at h
 refine Zaz Zwo rfl (by simpa [noLocL,ZI.noLocL,ZI] using ha2_n) rfl (Zq _ _ _ (sq (rg Za.f (tq (sq (rg Za.f (tq (sq (sq ?_)))))))))
 obtain ⟨r1,hr1,h⟩:=bs h
 refine rg (Za.v 2 (Zp (hc:=ZeT N a0_ a1_ r1 hr1)) Za.f) (tq (sq (rg Za.f (tq (it h (fun hc2 h=>?_) (fun hc2 h=>?_))))))
 ·refine sq (rg Za.f (tq (rt (tr ?_))))
  obtain rfl:=Zb h
  exact Zai kr kr
 refine sk (tq (kq (sq ?_)))
 obtain ⟨r3,hr3,h⟩:=bs h
 have hvr3:=ha2_ _ (ZK.mk a0_) _ hH hr3
 refine rg (Za.v 3 (Zaj (H:=H) (ys:=[.agg (Zc a0_)]) (hc:=hvr3)) Za.f) (tq (rt ?_))
 obtain rfl:=Zb h
 exact Zai kr kr
theorem Zhr (N:Nat)(a0_:Zs)(a1_:(List Int))(r:(List Int)×Int)(h:Ze1 N a0_ a1_=some r):PCall Try.prog 96 [.agg (Zc a0_),Zi false a1_] (.tup [Zi false r.1,iv r.2]):=by
 unfold Ze1 at h
 have hH:HP ([]:List HO) []:=trivial
 refine ZE Zwi rfl rfl (Zq _ _ _ ?_) rfl
 refine sq ?_
 obtain ⟨id1,H2,hid1,hH2,hH⟩:=HP.newCell hH [Zi false a1_]
 replace hH:HP _ [.cel id1 [Zi false a1_]]:=hH
 refine rg (Za.h 1 (ZaL (H:=[]) (v:=Zi false a1_) (hid:=hid1) (hH:=hH2)) Za.f) (tq (sq ?_))
 have hlc3:=HP.get hH 0 rfl
 obtain ⟨r4,hr4,h⟩:=bs h
 have hvr4:=(ZfJ N a0_ a1_ (fun x0=>ZcB N x0 a1_)   102 [] [.ptr id1 0] kr [.cel id1 [Zi false a1_]] (fun H x0 r hH h=>Zb2.of kr (Zgl N  x0 a1_ id1 H hH r h)) H2 (HP.now (HP.pick hH [0] rfl)) r4 hr4)
 refine rg (Za.u 1 (Zm (H:=H2) (id:=id1) (off:=0) (cs:=[Zi false a1_]) (c:=[Zi false a1_]) (r:=Zi false a1_) (hl:=hlc3)) (Za.v 1 (ZdG (H:=H2) (ys:=[.agg (Zc a0_),Zi false a1_,.fn 102 [] [.ptr id1 0]]) kr kr kr hvr4) Za.f)) ?_
 replace hH:HP _ []:=HP.pick hH [] rfl
 refine tq (rt ?_)
 obtain rfl:=Zb h
 exact Zu kr
theorem ZbB (N:Nat)(a0_:Zd)(a1_:Int)(a2_:Int)(a3_:Int)(a4_:Int)(r:Bool×Int)(h:Zbp N a0_ a1_ a2_ a3_ a4_=some r):PCall Try.prog 11 [.agg (Ze a0_),iv a1_,iv a2_,iv a3_,iv a4_] (.tup [bv r.1,iv r.2]):=by
 unfold Zbp at h
 have hH:HP ([]:List HO) []:=trivial
 refine ZE Zxq rfl rfl (Zq _ _ _ ?_) rfl
 refine sq (rg Za.f (tq (sq (sq ?_))))
 obtain ⟨r1,hr1,h⟩:=bs h
 refine rg (Za.v 1 (Zp (hc:=ZbX N a0_ r1 hr1)) Za.f) (tq (sq (rg Za.f (tq (it h (fun hc2 h=>?_) (fun hc2 h=>?_))))))
 ·refine sq (rg Za.f (tq (rt (tr ?_))))
  obtain rfl:=Zb h
  exact Zu kr
 refine sk (tq (kq (sq (sq (rgX ⟨[(1,iv a1_),(2,iv a2_),(3,iv a3_),(4,iv a4_),(5,.loc 5 0),(37,bv ((decide (a1_<0))||((decide (a1_≥((List.length a0_.Periods:Nat):Int)))||((decide (a3_<0))||(decide (a3_≥((List.length a0_.Periods:Nat):Int)))))))],[(5,(Ze a0_))],[]⟩ ?_ ?_)))))
 ·rcases Bool.eq_false_or_eq_true (decide (a1_<0)) with hc3|hc4
  ·exact (EP.u 1 (Zh (c:=(decide (a1_<0))) (h:=hc3)) (EP.f (by simp only [hc3];kernel_rfl)))
  refine (EP.u 1 (Zh (c:=(decide (a1_<0))) (h:=hc4)) (EP.u 4 (Zo (ys:=[Zi false a0_.Periods]) (h:=Zv eI64)) ?_))
  rcases Bool.eq_false_or_eq_true (decide (a1_≥((List.length a0_.Periods:Nat):Int))) with hc5|hc6
  ·exact (EP.u 0 (Zh (c:=(decide (a1_≥((List.length a0_.Periods:Nat):Int)))) (h:=hc5)) (EP.f (by simp only [hc4,hc5];kernel_rfl)))
  refine (EP.u 0 (Zh (c:=(decide (a1_≥((List.length a0_.Periods:Nat):Int)))) (h:=hc6)) ?_)
  rcases Bool.eq_false_or_eq_true (decide (a3_<0)) with hc7|hc8
  ·exact (EP.u 3 (Zh (c:=(decide (a3_<0))) (h:=hc7)) (EP.f (by simp only [hc4,hc6,hc7];kernel_rfl)))
  exact (EP.u 3 (Zh (c:=(decide (a3_<0))) (h:=hc8)) (EP.u 5 (Zo (ys:=[Zi false a0_.Periods]) (h:=Zv eI64)) (EP.f (by simp only [hc4,hc6,hc8];kernel_rfl))))
 refine tq (it h (fun hc9 h=>?_) (fun hc9 h=>?_))
 ·refine sq (rg Za.f (tq (rt (tr ?_))))
  obtain rfl:=Zb h
  exact Zu kr
 refine sk (tq (kq (sq (sq ?_))))
 obtain ⟨ad,hj,h⟩:=bs h
 refine rgR (fun s=>s=⟨[(1,iv a1_),(2,iv a2_),(3,iv a3_),(4,iv a4_),(5,.loc 5 0),(59,bv ad)],[(5,(Ze a0_))],[]⟩) ?_ ?_
 ·clear h
  obtain ⟨a1,a4,hj⟩:=bs hj
  refine (EP.v 3 (Zp (hc:=Zca N a0_ a1_ a2_ a1 a4)) ?_)
  rcases Zz hj with ⟨ab,hj⟩|⟨aa,hj⟩
  ·obtain rfl:=Zb hj
   exact (EP.u 0 (Zh (c:=(!a1)) (h:=ab)) (EP.f kr))
  refine (EP.u 0 (Zh (c:=(!a1)) (h:=aa)) ?_)
  obtain ⟨a0,a3,hj⟩:=bs hj
  refine (EP.v 4 (Zp (hc:=Zca N a0_ a3_ a4_ a0 a3)) ?_)
  rcases Zz hj with ⟨a9,hj⟩|⟨a8,hj⟩
  ·obtain rfl:=Zb hj
   exact (EP.u 0 (Zh (c:=(!a0)) (h:=a9)) (EP.f kr))
  refine (EP.u 0 (Zh (c:=(!a0)) (h:=a8)) ?_)
  rcases Zz hj with ⟨a7,hj⟩|⟨a6,hj⟩
  ·obtain rfl:=Zb hj
   exact (EP.u 4 (Zh (c:=(a1_==a3_)) (h:=a7)) (EP.f kr))
  obtain rfl:=Zb hj
  exact (EP.u 4 (Zh (c:=(a1_==a3_)) (h:=a6)) (EP.f kr))
 clear hj
 rintro s hR
 obtain rfl:=hR
 refine tq (it h (fun a5 h=>?_) (fun a5 h=>?_))
 ·refine sq (rg Za.f (tq (rt (tr ?_))))
  obtain rfl:=Zb h
  exact Zu kr
 refine sk (tq (kq (sq ?_)))
 obtain ⟨ac,a2,h⟩:=bs h
 refine rg (Za.v 5 (Zp (hc:=ZdV N a0_ a1_ a2_ a3_ a4_ ac a2)) Za.f) (tq (rt ?_))
 obtain rfl:=Zb h
 exact Zu kr
theorem Zc3 (N:Nat)(a0_:Zd)(a1_:(List Int))(r:Bool×Int)(h:Zdy N a0_ a1_=some r):PCall Try.prog 13 [.agg (Ze a0_),Zi false a1_] (.tup [bv r.1,iv r.2]):=by
 unfold Zdy at h
 have hH:HP ([]:List HO) []:=trivial
 refine ZE Zxp rfl rfl (Zq _ _ _ ?_) rfl
 refine sq (rg Za.f (tq (sq (sq ?_))))
 obtain ⟨r1,hr1,h⟩:=bs h
 refine rg (Za.v 1 (Zp (hc:=ZbX N a0_ r1 hr1)) Za.f) (tq (sq (rg Za.f (tq (it h (fun hc2 h=>?_) (fun hc2 h=>?_))))))
 ·refine sq (rg Za.f (tq (rt (tr ?_))))
  obtain rfl:=Zb h
  exact Zu kr
 refine sk (tq (kq (sq (sq (rg (Za.u 1 (Zo (ys:=[Zi false a1_]) (h:=Zv eI64)) (Za.u 2 (Zo (ys:=[Zi false a0_.Periods]) (h:=Zv eI64)) Za.f)) (tq (it h (fun hc3 h=>?_) (fun hc3 h=>?_))))))))
 ·refine sq (rg Za.f (tq (rt (tr ?_))))
  obtain rfl:=Zb h
  exact Zu kr
 refine sk (tq (kq (sq (sq (rg (Za.u 1 (Zo (ys:=[Zi false a1_]) (h:=Zv eI64)) Za.f) (tq (bk ?_)))))))
 obtain ⟨al,ab,h⟩:=bs h
 refine Z9 ((ZV (fun (x:Int) s=>s=⟨[(1,Zi false a1_),(2,.loc 2 0),(24,Zi false a1_),(25,iv ((List.length a1_:Nat):Int)),(26,iv x)],[(2,(Ze a0_))],[]⟩) (fun x:Int=>Zc6 N a0_ a1_ x) (fun (p:(Unit)⊕(Bool×Int)) e s=>match p with|(.inl p)=>e=.exit 0∧(s=⟨[(1,Zi false a1_),(2,.loc 2 0)],[(2,(Ze a0_))],[]⟩)|(.inr p)=>e=.ret∧∃ xs,resL s i13.res=some xs∧ZaA xs=.tup [bv p.1,iv p.2]) ?_ N _ al _ ab kr).mono ?_)
 ·clear h ab
  rintro i4 o s h hR
  obtain rfl:=hR
  replace h:Zc6 N a0_ a1_ i4=some o:=h
  unfold Zc6 at h
  refine sq (rg Za.f (tq (sq (it h (fun ao h=>?_) (fun ao h=>?_)))))
  ·refine sk (tq (kq (sq (bk (sq ?_)))))
   obtain ⟨aj,ac,h⟩:=bs h
   refine rg (Za.u 1 (Zo (ys:=[Zi false a1_,iv i4]) (h:=Zn eI64 ac)) (Za.u 0 (ZD (sz:=1) (off:=0) (cs:=[.int .i64 aj]) (r:=iv aj) eI64 ac) Za.f)) (tq (sq ?_))
   obtain ⟨ap,am,h⟩:=bs h
   refine rg (Za.v 3 (Zp (hc:=Zca N a0_ i4 aj ap am)) Za.f) (tq (it h (fun an h=>?_) (fun an h=>?_)))
   ·refine sq (rg Za.f (tq (rt (br (tr ?_)))))
    obtain rfl:=Zb h
    exact ⟨_,rfl,rfl,Zu kr⟩
   refine sk (bn (tq (kq (rg Za.f ?_))))
   obtain rfl:=Zb h
   exact ⟨_,rfl,kr⟩
  refine kq (xq (tx ?_))
  obtain rfl:=Zb h
  exact ⟨_,rfl,rfl,kr⟩
 rintro e s hq
 rcases al with ax|aq
 ·dsimp only at h hq
  obtain ⟨rfl,hR⟩:=hq
  obtain rfl:=hR
  refine bx (tq (sq (sq (rg (Za.u 1 (Zo (ys:=[Zi false a1_]) (h:=Zv eI64)) Za.f) (tq (bk ?_))))))
  obtain ⟨a9,a4,h⟩:=bs h
  refine Z9 ((ZV (fun (x:Int) s=>s=⟨[(1,Zi false a1_),(2,.loc 2 0),(37,Zi false a1_),(38,iv ((List.length a1_:Nat):Int)),(39,iv x)],[(2,(Ze a0_))],[]⟩) (fun x:Int=>Zc5 N a0_ a1_ x) (fun (p:(Unit)⊕(Bool×Int)) e s=>match p with|(.inl p)=>e=.exit 2∧(s=⟨[],[],[]⟩)|(.inr p)=>e=.ret∧∃ xs,resL s i13.res=some xs∧ZaA xs=.tup [bv p.1,iv p.2]) ?_ N _ a9 _ a4 kr).mono ?_)
  ·clear h a4
   rintro a2 o s h hR
   obtain rfl:=hR
   replace h:Zc5 N a0_ a1_ a2=some o:=h
   unfold Zc5 at h
   refine sq (rg Za.f (tq (sq (it h (fun ai h=>?_) (fun ai h=>?_)))))
   ·refine sk (tq (kq (sq (bk (sq ?_)))))
    obtain ⟨a1,a7,h⟩:=bs h
    refine rg (Za.u 1 (Zo (ys:=[Zi false a1_,iv a2]) (h:=Zn eI64 a7)) (Za.u 0 (ZD (sz:=1) (off:=0) (cs:=[.int .i64 a1]) (r:=iv a1) eI64 a7) Za.f)) (tq (sq ?_))
    obtain ⟨a0,ae,h⟩:=bs h
    refine rg (Za.u 3 (Zo (ys:=[Zi false a1_,iv (w64 (a2+1))]) (h:=Zfd eI64 ae)) (Za.u 0 (Zo (ys:=[Zi false a0]) (h:=Zv eI64)) Za.f)) (tq (bk ?_))
    obtain ⟨aa,a5,h⟩:=bs h
    refine Z9 ((ZV (fun (x:Int) s=>s=⟨[(1,Zi false a1_),(2,.loc 2 0),(9,iv a2),(10,iv a1),(37,Zi false a1_),(38,iv ((List.length a1_:Nat):Int)),(39,iv a2),(47,Zi false a0),(48,iv ((List.length a0:Nat):Int)),(49,iv x)],[(2,(Ze a0_))],[]⟩) (fun x:Int=>Zc4 N a0_ a2 a1 a0 x) (fun (p:(Unit)⊕(Bool×Int)) e s=>match p with|(.inl p)=>e=.exit 4∧(s=⟨[(1,Zi false a1_),(2,.loc 2 0),(37,Zi false a1_),(38,iv ((List.length a1_:Nat):Int)),(39,iv a2)],[(2,(Ze a0_))],[]⟩)|(.inr p)=>e=.ret∧∃ xs,resL s i13.res=some xs∧ZaA xs=.tup [bv p.1,iv p.2]) ?_ N _ aa _ a5 kr).mono ?_)
    ·clear h a5
     rintro a3 o s h hR
     obtain rfl:=hR
     replace h:Zc4 N a0_ a2 a1 a0 a3=some o:=h
     unfold Zc4 at h
     refine sq (rg Za.f (tq (sq (it h (fun ag h=>?_) (fun ag h=>?_)))))
     ·refine sk (tq (kq (sq (bk (sq ?_)))))
      obtain ⟨a8,a6,h⟩:=bs h
      refine rg (Za.u 1 (Zo (ys:=[Zi false a0,iv a3]) (h:=Zn eI64 a6)) (Za.u 0 (ZD (sz:=1) (off:=0) (cs:=[.int .i64 a8]) (r:=iv a8) eI64 a6) Za.f)) (tq (sq ?_))
      obtain ⟨ak,ad,h⟩:=bs h
      refine rg (Za.v 5 (Zp (hc:=ZdV N a0_ a3 a8 a2 a1 ak ad)) Za.f) (tq (it h (fun af h=>?_) (fun af h=>?_)))
      ·refine sq (rg Za.f (tq (rt (br (tr ?_)))))
       obtain rfl:=Zb h
       exact ⟨_,rfl,rfl,Zu kr⟩
      refine sk (bn (tq (kq (rg Za.f ?_))))
      obtain rfl:=Zb h
      exact ⟨_,rfl,kr⟩
     refine kq (xq (tx ?_))
     obtain rfl:=Zb h
     exact ⟨_,rfl,rfl,kr⟩
    rintro e s hq
    rcases aa with aw|av
    ·dsimp only at h hq
     obtain ⟨rfl,hR⟩:=hq
     obtain rfl:=hR
     refine bx (bn (tq (rg Za.f ?_)))
     obtain rfl:=Zb h
     exact ⟨_,rfl,kr⟩
    dsimp only at h hq
    obtain ⟨rfl,hq⟩:=hq
    refine br (br (tr ?_))
    obtain rfl:=Zb h
    exact ⟨_,rfl,rfl,hq⟩
   refine kq (xq (tx ?_))
   obtain rfl:=Zb h
   exact ⟨_,rfl,rfl,kr⟩
  rintro e s hq
  rcases a9 with au|ar
  ·dsimp only at h hq
   obtain ⟨rfl,hR⟩:=hq
   obtain rfl:=hR
   refine bx (tq (sq (rg Za.f (tq (rt ?_)))))
   obtain rfl:=Zb h
   exact Zu kr
  dsimp only at h hq
  obtain ⟨rfl,hq⟩:=hq
  refine br (tr ?_)
  obtain rfl:=Zb h
  exact hq
 dsimp only at h hq
 obtain ⟨rfl,hq⟩:=hq
 refine br (tr ?_)
 obtain rfl:=Zb h
 exact hq
theorem ZdP (N:Nat)(a0_:Zd)(r:Int×Int)(h:Zdz N a0_=some r):PCall Try.prog 16 [.agg (Ze a0_)] (.tup [iv r.1,iv r.2]):=by
 unfold Zdz at h
 have hH:HP ([]:List HO) []:=trivial
 refine ZE Zxn rfl rfl (Zq _ _ _ ?_) rfl
 refine sq (rg Za.f (tq (sq (sq ?_))))
 obtain ⟨r1,hr1,h⟩:=bs h
 refine rg (Za.v 1 (Zp (hc:=ZbX N a0_ r1 hr1)) Za.f) (tq (sq (rg Za.f (tq (it h (fun hc2 h=>?_) (fun hc2 h=>?_))))))
 ·refine sq (rg Za.f (tq (rt (tr ?_))))
  obtain rfl:=Zb h
  exact Zu kr
 refine sk (tq (kq (sq ?_)))
 obtain ⟨r3,hr3,h⟩:=bs h
 refine rg (Za.v 2 (Zp (hc:=ZdO N a0_.Periods r3 hr3)) Za.f) (tq (rt ?_))
 obtain rfl:=Zb h
 exact Zu kr
theorem Zaq (N:Nat)(a0_:Zd)(a1_:(List Int))(r:Bool)(h:ZbF N a0_ a1_=some r):PCall Try.prog 27 [.agg (Ze a0_),Zi false a1_] (bv r):=by
 unfold ZbF at h
 have hH:HP ([]:List HO) []:=trivial
 refine ZE Zxf rfl rfl (Zq _ _ _ ?_) rfl
 refine sq (rg Za.f (tq (sq ?_)))
 obtain ⟨r1,hr1,h⟩:=bs h
 refine rg (Za.v 2 (Zp (hc:=Zc3 N a0_ a1_ r1 hr1)) Za.f) (tq (sq (rgX ⟨[(4,bv (r1.1&&(r1.2==0)))],[],[]⟩ ?_ ?_)))
 ·rcases Bool.eq_false_or_eq_true r1.1 with hc2|hc3
  ·exact (EP.u 0 (Zh (c:=r1.1) (h:=hc2)) (EP.f (by simp only [hc2];kernel_rfl)))
  exact (EP.u 0 (Zh (c:=r1.1) (h:=hc3)) (EP.f (by simp only [hc3];kernel_rfl)))
 refine tq (rt ?_)
 obtain rfl:=Zb h
 exact Zu kr
theorem Zan (N:Nat)(a0_:Zd)(a1_:Int)(a2_:Int)(r:Bool)(h:Za5 N a0_ a1_ a2_=some r):PCall Try.prog 36 [.agg (Ze a0_),iv a1_,iv a2_] (bv r):=by
 unfold Za5 at h
 have hH:HP ([]:List HO) []:=trivial
 refine ZE Zxb rfl rfl (Zq _ _ _ ?_) rfl
 refine sq (rg Za.f (tq (sq ?_)))
 obtain ⟨r1,hr1,h⟩:=bs h
 refine rg (Za.v 3 (Zp (hc:=ZbB N a0_ 0 a1_ 1 a2_ r1 hr1)) Za.f) (tq (sq (rgX ⟨[(6,bv (r1.1&&(r1.2==0)))],[],[]⟩ ?_ ?_)))
 ·rcases Bool.eq_false_or_eq_true r1.1 with hc2|hc3
  ·exact (EP.u 0 (Zh (c:=r1.1) (h:=hc2)) (EP.f (by simp only [hc2];kernel_rfl)))
  exact (EP.u 0 (Zh (c:=r1.1) (h:=hc3)) (EP.f (by simp only [hc3];kernel_rfl)))
 refine tq (rt ?_)
 obtain rfl:=Zb h
 exact Zu kr
theorem Zhs (N:Nat)(a0_:Zs)(a1_:(List Int))(a2_:(List Int))(r:Bool×Int)(h:Ze2 N a0_ a1_ a2_=some r):PCall Try.prog 76 [.agg (Zc a0_),Zi false a1_,Zi false a2_] (.tup [bv r.1,iv r.2]):=by
 unfold Ze2 at h
 have hH:HP ([]:List HO) []:=trivial
 refine ZE ZwC rfl rfl (Zq _ _ _ ?_) rfl
 refine sq ?_
 obtain ⟨id1,H2,hid1,hH2,hH⟩:=HP.newCell hH [Zi false a1_]
 replace hH:HP _ [.cel id1 [Zi false a1_]]:=hH
 obtain ⟨id3,H4,hid3,hH4,hH⟩:=HP.newCell hH [Zi false a2_]
 replace hH:HP _ [.cel id3 [Zi false a2_],.cel id1 [Zi false a1_]]:=hH
 refine rg (Za.h 1 (ZaL (H:=[]) (v:=Zi false a1_) (hid:=hid1) (hH:=hH2)) (Za.h 0 (ZaL (H:=H2) (v:=Zi false a2_) (hid:=hid3) (hH:=hH4)) Za.f)) (tq (sq ?_))
 have hlc5:=HP.get hH 1 rfl
 obtain ⟨r6,hr6,h⟩:=bs h
 have hvr6:=(ZfI N a0_ a1_ (fun x0=>ZcC N x0 a2_ a1_)   91 [] [.ptr id3 0,.ptr id1 0] kr [.cel id3 [Zi false a2_],.cel id1 [Zi false a1_]] (fun H x0 r hH h=>Zb2.of kr (Zgm N  x0 a2_ a1_ id3 id1 H hH r h)) H4 (HP.now (HP.pick hH [0,1] rfl)) r6 hr6)
 refine rg (Za.u 1 (Zm (H:=H4) (id:=id1) (off:=0) (cs:=[Zi false a1_]) (c:=[Zi false a1_]) (r:=Zi false a1_) (hl:=hlc5)) (Za.v 1 (ZdG (H:=H4) (ys:=[.agg (Zc a0_),Zi false a1_,.fn 91 [] [.ptr id3 0,.ptr id1 0]]) kr kr kr hvr6) Za.f)) ?_
 replace hH:HP _ []:=HP.pick hH [] rfl
 refine tq (rt ?_)
 obtain rfl:=Zb h
 exact Zu kr
theorem Zh2 (N:Nat)(a0_:Zs)(a1_:(List Int))(r:Int×Int×Int)(h:ZfK N a0_ a1_=some r):PCall Try.prog 89 [.agg (Zc a0_),Zi false a1_] (.tup [iv r.1,iv r.2.1,iv r.2.2]):=by
 unfold ZfK at h
 have hH:HP ([]:List HO) []:=trivial
 refine ZE Zwp rfl rfl (Zq _ _ _ ?_) rfl
 refine sq (rg Za.f (tq (sq ?_)))
 obtain ⟨r1,hr1,h⟩:=bs h
 refine rg (Za.v 2 (Zp (hc:=Zhr N a0_ a1_ r1 hr1)) Za.f) (tq (sq (sq (rg Za.f (tq (it h (fun hc2 h=>?_) (fun hc2 h=>?_)))))))
 ·refine sq (rg Za.f (tq (rt (tr ?_))))
  obtain rfl:=Zb h
  exact Zu kr
 refine sk (tq (kq (sq ?_)))
 obtain ⟨e3,he3,h⟩:=bs h
 obtain ⟨e4,he4,h⟩:=bs h
 refine rq (Za.u 1 (Zo (ys:=[Zi false r1.1,iv 0]) (h:=Zn eI64 he3)) (Za.u 0 (Z3 (ZD (sz:=1) (off:=0) (cs:=[.int .i64 e3]) (r:=iv e3) eI64 he3)) (Za.u 2 (Zo (ys:=[Zi false r1.1]) (h:=Zv eI64)) (Za.u 1 (Zo (ys:=[Zi false r1.1,iv (w64 (((List.length r1.1:Nat):Int)-1))]) (h:=Zn eI64 he4)) (Za.u 0 (Z3 (ZD (sz:=1) (off:=0) (cs:=[.int .i64 e4]) (r:=iv e4) eI64 he4)) Za.f))))) (tq (rt ?_))
 obtain rfl:=Zb h
 exact Zu kr
theorem ZgI (N:Nat)(a0_:Zs)(a1_:(List Int))(a2_:Int)(a3_:Int)(r:Bool)(h:Zd8 N a0_ a1_ a2_ a3_=some r):PCall Try.prog 74 [.agg (Zc a0_),Zi false a1_,iv a2_,iv a3_] (bv r):=by
 unfold Zd8 at h
 have hH:HP ([]:List HO) []:=trivial
 refine ZE ZwE rfl rfl (Zq _ _ _ ?_) rfl
 refine sq (rg Za.f (tq (sq ?_)))
 obtain ⟨r1,hr1,h⟩:=bs h
 refine rg (Za.v 2 (Zp (hc:=Zh2 N a0_ a1_ r1 hr1)) Za.f) (tq (sq (rgX ⟨[(8,bv ((r1.2.2==0)&&((r1.1==a2_)&&(r1.2.1==a3_))))],[],[]⟩ ?_ ?_)))
 ·rcases Bool.eq_false_or_eq_true (r1.2.2==0) with hc2|hc5
  ·refine (EP.u 1 (Zh (c:=(r1.2.2==0)) (h:=hc2)) ?_)
   rcases Bool.eq_false_or_eq_true (r1.1==a2_) with hc3|hc4
   ·exact (EP.u 3 (Zh (c:=(r1.1==a2_)) (h:=hc3)) (EP.f (by simp only [hc2,hc3];kernel_rfl)))
   exact (EP.u 3 (Zh (c:=(r1.1==a2_)) (h:=hc4)) (EP.f (by simp only [hc2,hc4];kernel_rfl)))
  exact (EP.u 1 (Zh (c:=(r1.2.2==0)) (h:=hc5)) (EP.f (by simp only [hc5];kernel_rfl)))
 refine tq (rt ?_)
 obtain rfl:=Zb h
 exact Zu kr
theorem Zfy (N:Nat)(c0_:Zt)(c1_:Zs)(k0_:Nat)(k1_:Nat)(H:List HO)(hH:HP H [.cel k0_ (Zf c0_),.cel k1_ (Zc c1_)])(r:Bool)(h:Zdc N c0_ c1_=some r):Zao Try.prog 75 [.ptr k0_ 0,.ptr k1_ 0] H (bv r) H:=by
 unfold Zdc at h
 refine Zaz ZwD rfl rfl rfl (Zq _ _ _ (sq (rg Za.f (tq (sq (sq ?_))))))
 have hlc1:=HP.get hH 0 rfl
 refine rg (Za.u 1 (Zm (H:=H) (id:=k0_) (off:=9) (cs:=(Zf c0_)) (c:=[ZG false c0_.Routes]) (r:=ZG false c0_.Routes) (hl:=hlc1)) (Za.u 0 (Zo (ys:=[ZG false c0_.Routes]) (h:=Zv (eSl 1 eI64))) Za.f)) (tq (it h (fun hc2 h=>?_) (fun hc2 h=>?_)))
 ·refine sq (rg Za.f ?_)
  replace hH:HP _ []:=HP.pick hH [] rfl
  refine tq (rt (tr ?_))
  obtain rfl:=Zb h
  exact Zai kr kr
 refine sk (tq (kq (sq ?_)))
 have hlc3:=HP.get hH 1 rfl
 have hlc4:=HP.get hH 0 rfl
 obtain ⟨e5,he5,h⟩:=bs h
 have hlc6:=HP.get hH 0 rfl
 obtain ⟨e7,he7,h⟩:=bs h
 obtain ⟨r8,hr8,h⟩:=bs h
 refine rq (Za.u 0 (Z3 (Zm (H:=H) (id:=k1_) (off:=0) (cs:=(Zc c1_)) (c:=(Zc c1_)) (r:=.agg (Zc c1_)) (hl:=hlc3))) (Za.u 1 (Z3 (Zm (H:=H) (id:=k0_) (off:=9) (cs:=(Zf c0_)) (c:=[ZG false c0_.Routes]) (r:=ZG false c0_.Routes) (hl:=hlc4))) (Za.u 0 (Zo (ys:=[ZG false c0_.Routes,iv 0]) (h:=Zn (eSl 1 eI64) he5)) (Za.u 0 (Z3 (ZD (sz:=1) (off:=0) (cs:=[.sl 1 false (List.map eI64 e5)]) (r:=Zi false e5) (eSl 1 eI64) he5)) (Za.u 1 (Z3 (Zm (H:=H) (id:=k0_) (off:=9) (cs:=(Zf c0_)) (c:=[ZG false c0_.Routes]) (r:=ZG false c0_.Routes) (hl:=hlc6))) (Za.u 0 (Zo (ys:=[ZG false c0_.Routes,iv 1]) (h:=Zn (eSl 1 eI64) he7)) (Za.u 0 (Z3 (ZD (sz:=1) (off:=0) (cs:=[.sl 1 false (List.map eI64 e7)]) (r:=Zi false e7) (eSl 1 eI64) he7)) (Za.v 0 (Zp (hc:=Zhs N c1_ e5 e7 r8 hr8)) Za.f)))))))) ?_
 replace hH:HP _ []:=HP.pick hH [] rfl
 refine tq (sq (rgX ⟨[(2,bv ((r8.2==0)&&r8.1))],[],H⟩ ?_ ?_))
 ·rcases Bool.eq_false_or_eq_true (r8.2==0) with hc9|a0
  ·exact (EP.u 1 (Zh (c:=(r8.2==0)) (h:=hc9)) (EP.f (by simp only [hc9];kernel_rfl)))
  exact (EP.u 1 (Zh (c:=(r8.2==0)) (h:=a0)) (EP.f (by simp only [a0];kernel_rfl)))
 refine tq (rt ?_)
 obtain rfl:=Zb h
 exact Zai kr kr
theorem Zfz (N:Nat)(c0_:Zt)(c1_:Zs)(k0_:Nat)(k1_:Nat)(H:List HO)(hH:HP H [.cel k0_ (Zf c0_),.cel k1_ (Zc c1_)])(r:Bool)(h:Zdd N c0_ c1_=some r):Zao Try.prog 73 [.ptr k0_ 0,.ptr k1_ 0] H (bv r) H:=by
 unfold Zdd at h
 refine Zaz ZwF rfl rfl rfl (Zq _ _ _ (sq (rg Za.f (tq (sq (sq ?_))))))
 have hlc1:=HP.get hH 0 rfl
 refine rg (Za.u 1 (Zm (H:=H) (id:=k0_) (off:=9) (cs:=(Zf c0_)) (c:=[ZG false c0_.Routes]) (r:=ZG false c0_.Routes) (hl:=hlc1)) (Za.u 0 (Zo (ys:=[ZG false c0_.Routes]) (h:=Zv (eSl 1 eI64))) Za.f)) (tq (bk ?_))
 obtain ⟨a6,a0,h⟩:=bs h
 refine Z9 ((ZV (fun (x:Int) s=>s=⟨[(0,.ptr k0_ 0),(1,.ptr k1_ 0),(6,ZG false c0_.Routes),(7,iv ((List.length c0_.Routes:Nat):Int)),(8,iv x)],[],H⟩) (fun x:Int=>Zbj N c0_ c1_ x) (fun (p:(Unit)⊕(Bool)) e s=>match p with|(.inl p)=>e=.exit 0∧(s=⟨[],[],H⟩)|(.inr p)=>e=.ret∧∃ xs,rawL s i73.res=some xs∧ZaA (weakVs xs)=bv p∧s.H=H) ?_ N _ a6 _ a0 kr).mono ?_)
 ·clear h a0
  rintro i2 o s h hR
  obtain rfl:=hR
  replace h:Zbj N c0_ c1_ i2=some o:=h
  unfold Zbj at h
  refine sq (rg Za.f (tq (sq (it h (fun a9 h=>?_) (fun a9 h=>?_)))))
  ·refine sk (tq (kq (sq (bk (sq ?_)))))
   obtain ⟨a5,a1,h⟩:=bs h
   refine rg (Za.u 0 (Zo (ys:=[ZG false c0_.Routes,iv i2]) (h:=Zn (eSl 1 eI64) a1)) (Za.u 0 (ZD (sz:=1) (off:=0) (cs:=[.sl 1 false (List.map eI64 a5)]) (r:=Zi false a5) (eSl 1 eI64) a1) Za.f)) (tq (sq ?_))
   have a4:=HP.get hH 1 rfl
   have a3:=HP.get hH 0 rfl
   have a2:=HP.get hH 0 rfl
   obtain ⟨aa,a7,h⟩:=bs h
   refine rg (Za.u 0 (Zm (H:=H) (id:=k1_) (off:=0) (cs:=(Zc c1_)) (c:=(Zc c1_)) (r:=.agg (Zc c1_)) (hl:=a4)) (Za.u 2 (Zm (H:=H) (id:=k0_) (off:=1) (cs:=(Zf c0_)) (c:=[iv c0_.Talker]) (r:=iv c0_.Talker) (hl:=a3)) (Za.u 1 (Zm (H:=H) (id:=k0_) (off:=2) (cs:=(Zf c0_)) (c:=[iv c0_.Listener]) (r:=iv c0_.Listener) (hl:=a2)) (Za.v 0 (Zp (hc:=ZgI N c1_ a5 c0_.Talker c0_.Listener aa a7)) Za.f)))) (tq (it h (fun a8 h=>?_) (fun a8 h=>?_)))
   ·refine sq (rg Za.f ?_)
    replace hH:HP _ []:=HP.pick hH [] rfl
    refine tq (rt (br (tr ?_)))
    obtain rfl:=Zb h
    exact ⟨_,rfl,rfl,Zai kr kr⟩
   refine sk (bn (tq (kq (rg Za.f ?_))))
   obtain rfl:=Zb h
   exact ⟨_,rfl,kr⟩
  refine kq ?_
  replace hH:HP _ []:=HP.pick hH [] rfl
  refine xq (tx ?_)
  obtain rfl:=Zb h
  exact ⟨_,rfl,rfl,kr⟩
 rintro e s hq
 rcases a6 with ac|ab
 ·dsimp only at h hq
  obtain ⟨rfl,hR⟩:=hq
  obtain rfl:=hR
  replace hH:HP _ []:=HP.pick hH [] rfl
  refine bx (tq (sq (rg Za.f (tq (rt ?_)))))
  obtain rfl:=Zb h
  exact Zai kr kr
 dsimp only at h hq
 obtain ⟨rfl,hq⟩:=hq
 refine br (tr ?_)
 obtain rfl:=Zb h
 exact hq
theorem Zd7 (N:Nat)(a0_:Zs)(a1_:Zt)(r:Bool)(h:ZcV N a0_ a1_=some r):PCall Try.prog 50 [.agg (Zc a0_),.agg (Zf a1_)] (bv r):=by
 unfold ZcV at h
 have hH:HP ([]:List HO) []:=trivial
 refine ZE Zw0 rfl rfl (Zq _ _ _ ?_) rfl
 refine sq ?_
 obtain ⟨id1,H2,hid1,hH2,hH⟩:=HP.newCell hH (Zc a0_)
 replace hH:HP _ [.cel id1 (Zc a0_)]:=hH
 obtain ⟨id3,H4,hid3,hH4,hH⟩:=HP.newCell hH (Zf a1_)
 replace hH:HP _ [.cel id3 (Zf a1_),.cel id1 (Zc a0_)]:=hH
 refine rg (Za.h 0 (ZaL (H:=[]) (v:=.agg (Zc a0_)) (hid:=hid1) (hH:=hH2)) (Za.h 0 (ZaL (H:=H2) (v:=.agg (Zf a1_)) (hid:=hid3) (hH:=hH4)) Za.f)) (tq (sq ?_))
 obtain ⟨id5,H6,hid5,hH6,hH⟩:=HP.newCell hH [.fn 65 [] [.ptr id3 0],.fn 66 [] [.ptr id1 0,.ptr id3 0],.fn 68 [] [.ptr id3 0],.fn 69 [] [.ptr id3 0],.fn 70 [] [.ptr id3 0],.fn 72 [] [.ptr id3 0],.fn 73 [] [.ptr id3 0,.ptr id1 0],.fn 75 [] [.ptr id3 0,.ptr id1 0]]
 replace hH:HP _ [.cel id5 [.fn 65 [] [.ptr id3 0],.fn 66 [] [.ptr id1 0,.ptr id3 0],.fn 68 [] [.ptr id3 0],.fn 69 [] [.ptr id3 0],.fn 70 [] [.ptr id3 0],.fn 72 [] [.ptr id3 0],.fn 73 [] [.ptr id3 0,.ptr id1 0],.fn 75 [] [.ptr id3 0,.ptr id1 0]],.cel id3 (Zf a1_),.cel id1 (Zc a0_)]:=hH
 refine rg (Za.h 8 (Zlj (H:=H4) (ys:=[.fn 65 [] [.ptr id3 0],.fn 66 [] [.ptr id1 0,.ptr id3 0],.fn 68 [] [.ptr id3 0],.fn 69 [] [.ptr id3 0],.fn 70 [] [.ptr id3 0],.fn 72 [] [.ptr id3 0],.fn 73 [] [.ptr id3 0,.ptr id1 0],.fn 75 [] [.ptr id3 0,.ptr id1 0]]) kr kr kr hid5 hH6) Za.f) (tq (sq (sq (rg Za.f (tq (bk (Zio 18 (Za7 (sq (rg Za.f (tq (sq (Zcj kr (sk (tq (kq (sq (bk (sq ?_)))))))))))))))))))
 have hlc7:=HP.get hH 0 rfl
 refine rg (Za.u 1 (Zm (H:=H6) (id:=id5) (off:=0) (cs:=[.fn 65 [] [.ptr id3 0],.fn 66 [] [.ptr id1 0,.ptr id3 0],.fn 68 [] [.ptr id3 0],.fn 69 [] [.ptr id3 0],.fn 70 [] [.ptr id3 0],.fn 72 [] [.ptr id3 0],.fn 73 [] [.ptr id3 0,.ptr id1 0],.fn 75 [] [.ptr id3 0,.ptr id1 0]]) (c:=[.fn 65 [] [.ptr id3 0]]) (r:=.fn 65 [] [.ptr id3 0]) (hl:=hlc7)) Za.f) (tq (sq ?_))
 obtain ⟨r8,hr8,h⟩:=bs h
 have hvr8:=(ZfF N  a1_ id3 H6 (HP.now (HP.pick hH [1] rfl)) r8 hr8)
 refine rg (Za.v 1 (Zaj (H:=H6) (fv:=.fn 65 [] [.ptr id3 0]) (ys:=[]) (hc:=Zb2.of kr hvr8)) Za.f) (tq (it h (fun hc9 h=>?_) (fun hc9 h=>?_)))
 ·refine sq (rg Za.f ?_)
  replace hH:HP _ []:=HP.pick hH [] rfl
  refine tq (rt (br (tr (tr (br (tr ?_))))))
  obtain rfl:=Zb h
  exact Zu kr
 refine sk (bn (tq (kq (rg Za.f (tq (Za7 (sq (rg Za.f (tq (sq (Zcj kr (sk (tq (kq (sq (bk (sq ?_)))))))))))))))))
 have ad:=HP.get hH 0 rfl
 refine rg (Za.u 1 (Zm (H:=H6) (id:=id5) (off:=1) (cs:=[.fn 65 [] [.ptr id3 0],.fn 66 [] [.ptr id1 0,.ptr id3 0],.fn 68 [] [.ptr id3 0],.fn 69 [] [.ptr id3 0],.fn 70 [] [.ptr id3 0],.fn 72 [] [.ptr id3 0],.fn 73 [] [.ptr id3 0,.ptr id1 0],.fn 75 [] [.ptr id3 0,.ptr id1 0]]) (c:=[.fn 66 [] [.ptr id1 0,.ptr id3 0]]) (r:=.fn 66 [] [.ptr id1 0,.ptr id3 0]) (hl:=ad)) Za.f) (tq (sq ?_))
 obtain ⟨aB,al,h⟩:=bs h
 have a6:=(ZfE N  a0_ a1_ id1 id3 H6 (HP.now (HP.pick hH [2,1] rfl)) aB al)
 refine rg (Za.v 1 (Zaj (H:=H6) (fv:=.fn 66 [] [.ptr id1 0,.ptr id3 0]) (ys:=[]) (hc:=Zb2.of kr a6)) Za.f) (tq (it h (fun au h=>?_) (fun au h=>?_)))
 ·refine sq (rg Za.f ?_)
  replace hH:HP _ []:=HP.pick hH [] rfl
  refine tq (rt (br (tr (tr (br (tr ?_))))))
  obtain rfl:=Zb h
  exact Zu kr
 refine sk (bn (tq (kq (rg Za.f (tq (Za7 (sq (rg Za.f (tq (sq (Zcj kr (sk (tq (kq (sq (bk (sq ?_)))))))))))))))))
 have ac:=HP.get hH 0 rfl
 refine rg (Za.u 1 (Zm (H:=H6) (id:=id5) (off:=2) (cs:=[.fn 65 [] [.ptr id3 0],.fn 66 [] [.ptr id1 0,.ptr id3 0],.fn 68 [] [.ptr id3 0],.fn 69 [] [.ptr id3 0],.fn 70 [] [.ptr id3 0],.fn 72 [] [.ptr id3 0],.fn 73 [] [.ptr id3 0,.ptr id1 0],.fn 75 [] [.ptr id3 0,.ptr id1 0]]) (c:=[.fn 68 [] [.ptr id3 0]]) (r:=.fn 68 [] [.ptr id3 0]) (hl:=ac)) Za.f) (tq (sq ?_))
 obtain ⟨aA,ak,h⟩:=bs h
 have a5:=(ZfD N  a1_ id3 H6 (HP.now (HP.pick hH [1] rfl)) aA ak)
 refine rg (Za.v 1 (Zaj (H:=H6) (fv:=.fn 68 [] [.ptr id3 0]) (ys:=[]) (hc:=Zb2.of kr a5)) Za.f) (tq (it h (fun ar h=>?_) (fun ar h=>?_)))
 ·refine sq (rg Za.f ?_)
  replace hH:HP _ []:=HP.pick hH [] rfl
  refine tq (rt (br (tr (tr (br (tr ?_))))))
  obtain rfl:=Zb h
  exact Zu kr
 refine sk (bn (tq (kq (rg Za.f (tq (Za7 (sq (rg Za.f (tq (sq (Zcj kr (sk (tq (kq (sq (bk (sq ?_)))))))))))))))))
 have ab:=HP.get hH 0 rfl
 refine rg (Za.u 1 (Zm (H:=H6) (id:=id5) (off:=3) (cs:=[.fn 65 [] [.ptr id3 0],.fn 66 [] [.ptr id1 0,.ptr id3 0],.fn 68 [] [.ptr id3 0],.fn 69 [] [.ptr id3 0],.fn 70 [] [.ptr id3 0],.fn 72 [] [.ptr id3 0],.fn 73 [] [.ptr id3 0,.ptr id1 0],.fn 75 [] [.ptr id3 0,.ptr id1 0]]) (c:=[.fn 69 [] [.ptr id3 0]]) (r:=.fn 69 [] [.ptr id3 0]) (hl:=ab)) Za.f) (tq (sq ?_))
 obtain ⟨az,aj,h⟩:=bs h
 have a4:=(ZfC N  a1_ id3 H6 (HP.now (HP.pick hH [1] rfl)) az aj)
 refine rg (Za.v 1 (Zaj (H:=H6) (fv:=.fn 69 [] [.ptr id3 0]) (ys:=[]) (hc:=Zb2.of kr a4)) Za.f) (tq (it h (fun aq h=>?_) (fun aq h=>?_)))
 ·refine sq (rg Za.f ?_)
  replace hH:HP _ []:=HP.pick hH [] rfl
  refine tq (rt (br (tr (tr (br (tr ?_))))))
  obtain rfl:=Zb h
  exact Zu kr
 refine sk (bn (tq (kq (rg Za.f (tq (Za7 (sq (rg Za.f (tq (sq (Zcj kr (sk (tq (kq (sq (bk (sq ?_)))))))))))))))))
 have aa:=HP.get hH 0 rfl
 refine rg (Za.u 1 (Zm (H:=H6) (id:=id5) (off:=4) (cs:=[.fn 65 [] [.ptr id3 0],.fn 66 [] [.ptr id1 0,.ptr id3 0],.fn 68 [] [.ptr id3 0],.fn 69 [] [.ptr id3 0],.fn 70 [] [.ptr id3 0],.fn 72 [] [.ptr id3 0],.fn 73 [] [.ptr id3 0,.ptr id1 0],.fn 75 [] [.ptr id3 0,.ptr id1 0]]) (c:=[.fn 70 [] [.ptr id3 0]]) (r:=.fn 70 [] [.ptr id3 0]) (hl:=aa)) Za.f) (tq (sq ?_))
 obtain ⟨ay,ai,h⟩:=bs h
 have a3:=(ZfB N  a1_ id3 H6 (HP.now (HP.pick hH [1] rfl)) ay ai)
 refine rg (Za.v 1 (Zaj (H:=H6) (fv:=.fn 70 [] [.ptr id3 0]) (ys:=[]) (hc:=Zb2.of kr a3)) Za.f) (tq (it h (fun ap h=>?_) (fun ap h=>?_)))
 ·refine sq (rg Za.f ?_)
  replace hH:HP _ []:=HP.pick hH [] rfl
  refine tq (rt (br (tr (tr (br (tr ?_))))))
  obtain rfl:=Zb h
  exact Zu kr
 refine sk (bn (tq (kq (rg Za.f (tq (Za7 (sq (rg Za.f (tq (sq (Zcj kr (sk (tq (kq (sq (bk (sq ?_)))))))))))))))))
 have a9:=HP.get hH 0 rfl
 refine rg (Za.u 1 (Zm (H:=H6) (id:=id5) (off:=5) (cs:=[.fn 65 [] [.ptr id3 0],.fn 66 [] [.ptr id1 0,.ptr id3 0],.fn 68 [] [.ptr id3 0],.fn 69 [] [.ptr id3 0],.fn 70 [] [.ptr id3 0],.fn 72 [] [.ptr id3 0],.fn 73 [] [.ptr id3 0,.ptr id1 0],.fn 75 [] [.ptr id3 0,.ptr id1 0]]) (c:=[.fn 72 [] [.ptr id3 0]]) (r:=.fn 72 [] [.ptr id3 0]) (hl:=a9)) Za.f) (tq (sq ?_))
 obtain ⟨ax,ag,h⟩:=bs h
 have a2:=(ZfA N  a1_ id3 H6 (HP.now (HP.pick hH [1] rfl)) ax ag)
 refine rg (Za.v 1 (Zaj (H:=H6) (fv:=.fn 72 [] [.ptr id3 0]) (ys:=[]) (hc:=Zb2.of kr a2)) Za.f) (tq (it h (fun ao h=>?_) (fun ao h=>?_)))
 ·refine sq (rg Za.f ?_)
  replace hH:HP _ []:=HP.pick hH [] rfl
  refine tq (rt (br (tr (tr (br (tr ?_))))))
  obtain rfl:=Zb h
  exact Zu kr
 refine sk (bn (tq (kq (rg Za.f (tq (Za7 (sq (rg Za.f (tq (sq (Zcj kr (sk (tq (kq (sq (bk (sq ?_)))))))))))))))))
 have a8:=HP.get hH 0 rfl
 refine rg (Za.u 1 (Zm (H:=H6) (id:=id5) (off:=6) (cs:=[.fn 65 [] [.ptr id3 0],.fn 66 [] [.ptr id1 0,.ptr id3 0],.fn 68 [] [.ptr id3 0],.fn 69 [] [.ptr id3 0],.fn 70 [] [.ptr id3 0],.fn 72 [] [.ptr id3 0],.fn 73 [] [.ptr id3 0,.ptr id1 0],.fn 75 [] [.ptr id3 0,.ptr id1 0]]) (c:=[.fn 73 [] [.ptr id3 0,.ptr id1 0]]) (r:=.fn 73 [] [.ptr id3 0,.ptr id1 0]) (hl:=a8)) Za.f) (tq (sq ?_))
 obtain ⟨aw,af,h⟩:=bs h
 have a1:=(Zfz N  a1_ a0_ id3 id1 H6 (HP.now (HP.pick hH [1,2] rfl)) aw af)
 refine rg (Za.v 1 (Zaj (H:=H6) (fv:=.fn 73 [] [.ptr id3 0,.ptr id1 0]) (ys:=[]) (hc:=Zb2.of kr a1)) Za.f) (tq (it h (fun an h=>?_) (fun an h=>?_)))
 ·refine sq (rg Za.f ?_)
  replace hH:HP _ []:=HP.pick hH [] rfl
  refine tq (rt (br (tr (tr (br (tr ?_))))))
  obtain rfl:=Zb h
  exact Zu kr
 refine sk (bn (tq (kq (rg Za.f (tq (Za7 (sq (rg Za.f (tq (sq (Zcj kr (sk (tq (kq (sq (bk (sq ?_)))))))))))))))))
 have a7:=HP.get hH 0 rfl
 refine rg (Za.u 1 (Zm (H:=H6) (id:=id5) (off:=7) (cs:=[.fn 65 [] [.ptr id3 0],.fn 66 [] [.ptr id1 0,.ptr id3 0],.fn 68 [] [.ptr id3 0],.fn 69 [] [.ptr id3 0],.fn 70 [] [.ptr id3 0],.fn 72 [] [.ptr id3 0],.fn 73 [] [.ptr id3 0,.ptr id1 0],.fn 75 [] [.ptr id3 0,.ptr id1 0]]) (c:=[.fn 75 [] [.ptr id3 0,.ptr id1 0]]) (r:=.fn 75 [] [.ptr id3 0,.ptr id1 0]) (hl:=a7)) Za.f) (tq (sq ?_))
 obtain ⟨av,ae,h⟩:=bs h
 have a0:=(Zfy N  a1_ a0_ id3 id1 H6 (HP.now (HP.pick hH [1,2] rfl)) av ae)
 refine rg (Za.v 1 (Zaj (H:=H6) (fv:=.fn 75 [] [.ptr id3 0,.ptr id1 0]) (ys:=[]) (hc:=Zb2.of kr a0)) Za.f) (tq (it h (fun am h=>?_) (fun am h=>?_)))
 ·refine sq (rg Za.f ?_)
  replace hH:HP _ []:=HP.pick hH [] rfl
  refine tq (rt (br (tr (tr (br (tr ?_))))))
  obtain rfl:=Zb h
  exact Zu kr
 refine sk (bn (tq (kq (rg Za.f (tq (Za7 (sq (rg Za.f (tq (sq (Zjs kr (kq ?_))))))))))))
 replace hH:HP _ []:=HP.pick hH [] rfl
 refine xq (tx (tx (bx (tq (sq (rg Za.f (tq (rt ?_))))))))
 obtain rfl:=Zb h
 exact Zu kr
theorem Zfh (N:Nat)(a0_:Zs)(a1_:ZW)(a2_:Zt)(a3_:Int)(r:Int)(h:Zew N a0_ a1_ a2_ a3_=some r):PCall Try.prog 77 [.agg (Zc a0_),.agg (Zg a1_),.agg (Zf a2_),iv a3_] (iv r):=by
 unfold Zew at h
 have hH:HP ([]:List HO) []:=trivial
 refine ZE ZwB rfl rfl (Zq _ _ _ ?_) rfl
 refine sq (rg Za.f (tq (sq (sq ?_))))
 obtain ⟨r1,hr1,h⟩:=bs h
 refine rg (Za.v 1 (Zp (hc:=ZdC N a0_ r1 hr1)) Za.f) (tq (sq (rg Za.f (tq (it h (fun hc2 h=>?_) (fun hc2 h=>?_))))))
 ·refine sq (rg Za.f (tq (rt (tr ?_))))
  obtain rfl:=Zb h
  exact Zu kr
 refine sk (tq (kq (sq (sq ?_))))
 obtain ⟨r3,hr3,h⟩:=bs h
 refine rg (Za.v 1 (Zp (hc:=Zcr N a1_ r3 hr3)) Za.f) (tq (sq (rg Za.f (tq (it h (fun hc4 h=>?_) (fun hc4 h=>?_))))))
 ·refine sq (rg Za.f (tq (rt (tr ?_))))
  obtain rfl:=Zb h
  exact Zu kr
 refine sk (tq (kq (sq (sq ?_))))
 obtain ⟨r5,hr5,h⟩:=bs h
 refine rg (Za.v 2 (Zp (hc:=Zd7 N a0_ a2_ r5 hr5)) Za.f) (tq (it h (fun hc6 h=>?_) (fun hc6 h=>?_)))
 ·refine sq (rg Za.f (tq (rt (tr ?_))))
  obtain rfl:=Zb h
  exact Zu kr
 refine sk (tq (kq (sq (sq ?_))))
 obtain ⟨a1,hj,h⟩:=bs h
 refine rgR (fun s=>s=⟨[(36,bv a1)],[],[]⟩) ?_ ?_
 ·clear h
  rcases Zz hj with ⟨hc7,hj⟩|⟨hc8,hj⟩
  ·obtain rfl:=Zb hj
   exact (EP.u 2 (Zh (c:=(a2_.Class != 7)) (h:=hc7)) (EP.f kr))
  refine (EP.u 2 (Zh (c:=(a2_.Class != 7)) (h:=hc8)) (EP.u 4 (Zo (ys:=[ZG false a2_.Routes]) (h:=Zv (eSl 1 eI64))) ?_))
  obtain ⟨r9,hr9,hj⟩:=bs hj
  obtain rfl:=Zb hj
  exact (EP.v 1 (Zp (hc:=ZT N a3_ 0 (w64 (((List.length a2_.Routes:Nat):Int)-1)) r9 hr9)) (EP.f kr))
 clear hj
 rintro s hR
 obtain rfl:=hR
 refine tq (it h (fun a0 h=>?_) (fun a0 h=>?_))
 ·refine sq (rg Za.f (tq (rt (tr ?_))))
  obtain rfl:=Zb h
  exact Zu kr
 refine sk (tq (kq (sq (rg Za.f (tq (rt ?_))))))
 obtain rfl:=Zb h
 exact Zu kr
theorem ZcW (N:Nat)(a0_:Zs)(a1_:(List Zt))(r:Int)(h:ZbJ N a0_ a1_=some r):PCall Try.prog 41 [.agg (Zc a0_),ZX false a1_] (iv r):=by
 unfold ZbJ at h
 have hH:HP ([]:List HO) []:=trivial
 refine ZE Zw8 rfl rfl (Zq _ _ _ ?_) rfl
 refine sq (rg Za.f (tq (sq (sq ?_))))
 obtain ⟨r1,hr1,h⟩:=bs h
 refine rg (Za.v 1 (Zp (hc:=ZdC N a0_ r1 hr1)) Za.f) (tq (sq (rg Za.f (tq (it h (fun hc2 h=>?_) (fun hc2 h=>?_))))))
 ·refine sq (rg Za.f (tq (rt (tr ?_))))
  obtain rfl:=Zb h
  exact Zu kr
 refine sk (tq (kq (sq (sq (rg (Za.u 1 (Zo (ys:=[ZX false a1_]) (h:=Zv Zae)) Za.f) (tq (it h (fun hc3 h=>?_) (fun hc3 h=>?_))))))))
 ·refine sq (rg Za.f (tq (rt (tr ?_))))
  obtain rfl:=Zb h
  exact Zu kr
 refine sk (tq (kq (sq (sq (rg (Za.u 1 (Zo (ys:=[ZX false a1_]) (h:=Zv Zae)) Za.f) (tq (bk ?_)))))))
 obtain ⟨ai,ab,h⟩:=bs h
 refine Z9 ((ZV (fun (x:Int) s=>s=⟨[(1,ZX false a1_),(2,.loc 2 0),(19,ZX false a1_),(20,iv ((List.length a1_:Nat):Int)),(21,iv x)],[(2,(Zc a0_))],[]⟩) (fun x:Int=>Za9 N a0_ a1_ x) (fun (p:(Unit)⊕(Int)) e s=>match p with|(.inl p)=>e=.exit 0∧(s=⟨[(1,ZX false a1_)],[],[]⟩)|(.inr p)=>e=.ret∧∃ xs,resL s i41.res=some xs∧ZaA xs=iv p) ?_ N _ ai _ ab kr).mono ?_)
 ·clear h ab
  rintro i4 o s h hR
  obtain rfl:=hR
  replace h:Za9 N a0_ a1_ i4=some o:=h
  unfold Za9 at h
  refine sq (rg Za.f (tq (sq (it h (fun am h=>?_) (fun am h=>?_)))))
  ·refine sk (tq (kq (sq (bk (sq ?_)))))
   obtain ⟨a1,ac,h⟩:=bs h
   refine rg (Za.u 0 (Zo (ys:=[ZX false a1_,iv i4]) (h:=Zn Zae ac)) (Za.u 0 (ZD (sz:=10) (off:=0) (cs:=[.int .i64 a1.Id,.int .i64 a1.Talker,.int .i64 a1.Listener,.int .i64 a1.Class,.int .i64 a1.Size,.int .i64 a1.Period,.int .i64 a1.Bucket.Burst,.int .i64 a1.Bucket.Rate,.int .i64 a1.Deadline,.sl 1 false (List.map (eSl 1 eI64) a1.Routes)]) (r:=.agg (Zf a1)) Zae ac) Za.f)) (tq (sq ?_))
   obtain ⟨ap,ak,h⟩:=bs h
   refine rg (Za.v 2 (Zp (hc:=Zd7 N a0_ a1 ap ak)) Za.f) (tq (it h (fun al h=>?_) (fun al h=>?_)))
   ·refine sq (rg Za.f (tq (rt (br (tr ?_)))))
    obtain rfl:=Zb h
    exact ⟨_,rfl,rfl,Zu kr⟩
   refine sk (bn (tq (kq (rg Za.f ?_))))
   obtain rfl:=Zb h
   exact ⟨_,rfl,kr⟩
  refine kq (xq (tx ?_))
  obtain rfl:=Zb h
  exact ⟨_,rfl,rfl,kr⟩
 rintro e s hq
 rcases ai with aw|ar
 ·dsimp only at h hq
  obtain ⟨rfl,hR⟩:=hq
  obtain rfl:=hR
  refine bx (tq (sq ?_))
  obtain ⟨a2,aq,ad,an,hH⟩:=HP.newMp hH 0
  replace hH:HP _ [mpT a2 0 (encE ke1 bv [])]:=hH
  refine rg (Za.h 0 (st_mkMap' (H:=[]) 0 kr ad an) Za.f) (tq (sq (sq (rg (Za.u 1 (Zo (ys:=[ZX false a1_]) (h:=Zv Zae)) Za.f) (tq (bk ?_))))))
  obtain ⟨aa,a5,h⟩:=bs h
  refine Z9 ((ZV (fun (x:Int×(List (Int×Bool))) s=>∃ (a4:List HO),s=⟨[(8,.map a2),(31,ZX false a1_),(32,iv ((List.length a1_:Nat):Int)),(33,iv x.1)],[],a4⟩∧HP a4 [mpT a2 0 (encE ke1 bv x.2)]) (fun x:Int×(List (Int×Bool))=>Za8 N a1_ x.1 x.2) (fun (p:(Unit)⊕(Int)) e s=>match p with|(.inl p)=>e=.exit 2∧(∃ (a7:List HO),s=⟨[],[],a7⟩∧HP a7 [])|(.inr p)=>e=.ret∧∃ xs,resL s i41.res=some xs∧ZaA xs=iv p) ?_ N _ aa _ a5 ⟨aq,kr,(HP.pick hH [0] rfl)⟩).mono ?_)
  ·clear h a5
   rintro ⟨aj,a3⟩ o s h hR
   obtain ⟨a4,rfl,hH⟩:=hR
   replace hH:HP _ [mpT a2 0 (encE ke1 bv a3)]:=hH
   replace h:Za8 N a1_ aj a3=some o:=h
   unfold Za8 at h
   refine sq (rg Za.f (tq (sq (it h (fun af h=>?_) (fun af h=>?_)))))
   ·refine sk (tq (kq (sq (bk (sq ?_)))))
    obtain ⟨a0,a6,h⟩:=bs h
    refine rg (Za.u 0 (Zo (ys:=[ZX false a1_,iv aj]) (h:=Zn Zae a6)) (Za.u 0 (ZD (sz:=10) (off:=0) (cs:=[.int .i64 a0.Id,.int .i64 a0.Talker,.int .i64 a0.Listener,.int .i64 a0.Class,.int .i64 a0.Size,.int .i64 a0.Period,.int .i64 a0.Bucket.Burst,.int .i64 a0.Bucket.Rate,.int .i64 a0.Deadline,.sl 1 false (List.map (eSl 1 eI64) a0.Routes)]) (r:=.agg (Zf a0)) Zae a6) Za.f)) (tq (sq (sq ?_)))
    have a9:=HP.get hH 0 rfl
    refine rg (Za.u 3 (Zli (H:=a4) (id:=a2) (kn:=0) (ke:=ke1) (ve:=bv) (l:=a3) (x:=a0.Id) (z:=false) (r:=bv (Zhv a3 a0.Id false)) kr kr a9 kr kr (fun _=>rfl)) Za.f) (tq (it h (fun ae h=>?_) (fun ae h=>?_)))
    ·refine sq (rg Za.f ?_)
     replace hH:HP _ []:=HP.pick hH [] rfl
     refine tq (rt (tr (br (tr ?_))))
     obtain rfl:=Zb h
     exact ⟨_,rfl,rfl,Zu kr⟩
    refine sk (tq (kq ?_))
    have a8:=HP.get hH 0 rfl
    obtain ⟨ao,ag,hH⟩:=HP.setMp (k:=0) hH rfl (encE ke1 bv (ZcJ a3 a0.Id true))
    replace hH:HP _ [mpT a2 0 (encE ke1 bv (ZcJ a3 a0.Id true))]:=hH
    refine rg (Za.o 3 (Zlh (H:=a4) (id:=a2) (kn:=0) (ke:=ke1) (ve:=bv) (l:=a3) (x:=a0.Id) (v:=true) (y:=bv true) kr kr a8 kr kr ag) Za.f) (bn (tq (kq (rg Za.f ?_))))
    obtain rfl:=Zb h
    exact ⟨_,rfl,⟨ao,kr,(HP.pick hH [0] rfl)⟩⟩
   refine kq ?_
   replace hH:HP _ []:=HP.pick hH [] rfl
   refine xq (tx ?_)
   obtain rfl:=Zb h
   exact ⟨_,rfl,rfl,⟨a4,kr,(HP.pick hH [] rfl)⟩⟩
  rintro e s hq
  rcases aa with av|au
  ·dsimp only at h hq
   obtain ⟨rfl,hR⟩:=hq
   obtain ⟨a7,rfl,hH⟩:=hR
   replace hH:HP _ []:=hH
   refine bx (tq (sq (rg Za.f (tq (rt ?_)))))
   obtain rfl:=Zb h
   exact Zu kr
  dsimp only at h hq
  obtain ⟨rfl,hq⟩:=hq
  refine br (tr ?_)
  obtain rfl:=Zb h
  exact hq
 dsimp only at h hq
 obtain ⟨rfl,hq⟩:=hq
 refine br (tr ?_)
 obtain rfl:=Zb h
 exact hq
theorem Zhp (N:Nat)(a0_:Zs)(a1_:ZW)(a2_:Zt)(a3_:Int)(r:(List Z4)×Int)(h:Ze0 N a0_ a1_ a2_ a3_=some r):PCall Try.prog 52 [.agg (Zc a0_),.agg (Zg a1_),.agg (Zf a2_),iv a3_] (.tup [ZaF false r.1,iv r.2]):=by
 unfold Ze0 at h
 have hH:HP ([]:List HO) []:=trivial
 refine ZE ZwY rfl rfl (Zq _ _ _ ?_) rfl
 refine sq (rgS ⟨[(3,iv a3_),(4,.loc 4 0),(5,.loc 5 0),(6,.loc 6 0)],[(4,(Zc a0_)),(5,(Zg a1_)),(6,(Zf a2_))],[]⟩ Za.f kr (tq (sq (sq ?_))))
 obtain ⟨r1,hr1,h⟩:=bs h
 refine rgS ⟨[(3,iv a3_),(4,.loc 4 0),(5,.loc 5 0),(6,.loc 6 0),(10,iv r1)],[(4,(Zc a0_)),(5,(Zg a1_)),(6,(Zf a2_))],[]⟩ (Za.v 4 (Zp (hc:=Zfh N a0_ a1_ a2_ a3_ r1 hr1)) Za.f) kr (tq (sq (rgS ⟨[(3,iv a3_),(4,.loc 4 0),(5,.loc 5 0),(6,.loc 6 0),(10,iv r1),(19,bv (r1 != 0))],[(4,(Zc a0_)),(5,(Zg a1_)),(6,(Zf a2_))],[]⟩ Za.f kr (tq (it h (fun hc2 h=>?_) (fun hc2 h=>?_))))))
 ·refine sq (rgS ⟨[(8,ZaF true []),(9,iv r1)],[],[]⟩ Za.f kr (tq (rt (tr ?_))))
  obtain rfl:=Zb h
  exact Zu kr
 refine sk (tq (kq (sq ?_)))
 obtain ⟨id3,H4,hid3,hH4,hH⟩:=HP.newCell hH [ZaF true []]
 replace hH:HP _ [.cel id3 [ZaF true []]]:=hH
 refine rgS ⟨[(3,iv a3_),(4,.loc 4 0),(5,.loc 5 0),(6,.loc 6 0),(11,.ptr id3 0)],[(4,(Zc a0_)),(5,(Zg a1_)),(6,(Zf a2_))],H4⟩ (Za.h 0 (Zd9 (H:=[]) kr hid3 hH4) Za.f) kr (tq (sq (sq ?_)))
 obtain ⟨r5,hr5,h⟩:=bs h
 obtain ⟨id7,id8,id9,a4,H6,hvr5,hpr5⟩:=ZeO N a0_ a1_ a2_ a3_ H4 r5 hr5
 replace hH:HP _ [.cel id7 (Zf r5.1),.cel id8 [iv r5.2.1],.cel id9 (Zc r5.2.2.1),.cel a4 (Zg r5.2.2.2),.cel id3 [ZaF true []]]:=HP.callee (fp:=[]) (rest:=[.cel id3 [ZaF true []]]) hH hpr5
 refine rgS ⟨[(11,.ptr id3 0),(25,.fn 95 [] [.ptr id7 0,.ptr id8 0,.ptr id9 0,.ptr a4 0])],[],H6⟩ (Za.v 4 (ZdG (H:=H4) (ys:=[.agg (Zc a0_),.agg (Zg a1_),.agg (Zf a2_),iv a3_]) kr kr kr hvr5) Za.f) kr (tq (bk ?_))
 obtain ⟨a5,ae,h⟩:=bs h
 have a7:∀ (x12:Z4) (s:(List Z4)) (r:((List Z4))×Bool) (H:List HO) (its:List ZR),(fun (s:(List Z4)) (its:List ZR)=>∃ (a1:AV),its=[.arr a1 5 false (List.map Zaf s),.cel id3 [a1]]++[.lp (List.length H6) (lcOf Try.prog i52.nt [26] Zc0 ZcY) [(11,.ptr id3 0)] .ready]) s its→HP H its→(fun (s:(List Z4)) (x12:Z4)=>Zd0 (fun v:(List Z4)=>Zbt N v x12) s) s x12=some r→∃ H' its',Zeu Try.prog (List.length H6) [.agg (ZaS x12)] H r.2 H'∧(fun (s:(List Z4)) (its:List ZR)=>∃ (a1:AV),its=[.arr a1 5 false (List.map Zaf s),.cel id3 [a1]]++[.lp (List.length H6) (lcOf Try.prog i52.nt [26] Zc0 ZcY) [(11,.ptr id3 0)] .ready]) r.1 its'∧Fp H H' its its':=by
  clear h
  intro x12 s r ab its hT hH h
  obtain ⟨q,hb,rfl⟩:=ZeW h
  clear h
  obtain ⟨vs,rfl⟩:∃ v,v=s:=⟨s,rfl⟩
  obtain ⟨ad,rfl⟩:∃ v,v=vs:=⟨vs,rfl⟩
  obtain ⟨a1,rfl⟩:=hT
  replace h:Zbt N ad x12=some q:=hb
  clear hb
  unfold Zbt at h
  replace hH:Fp _ _ _ [.arr a1 5 false (List.map Zaf ad),.cel id3 [a1],.lp (List.length H6) (lcOf Try.prog i52.nt [26] Zc0 ZcY) [(11,.ptr id3 0)] .ready]:=Fp.refl hH
  have a0:=ZaB (Fp.get hH 0 rfl)
  suffices hs:∃ H',Zeu Try.prog (List.length H6) [.agg (ZaS x12)] ab true H'∧∃ its',(fun (s:(List Z4)) (its:List ZR)=>∃ (a1:AV),its=[.arr a1 5 false (List.map Zaf s),.cel id3 [a1]]++[.lp (List.length H6) (lcOf Try.prog i52.nt [26] Zc0 ZcY) [(11,.ptr id3 0)] .ready]) q its'∧Fp ab H' [.arr a1 5 false (List.map Zaf ad),.cel id3 [a1],.lp (List.length H6) (lcOf Try.prog i52.nt [26] Zc0 ZcY) [(11,.ptr id3 0)] .ready] its' by
   obtain ⟨H',h1,its',h2,h3⟩:=hs
   exact ⟨H',its',h1,h2,h3⟩
  refine Zd1 (id:=(List.length H6)) (args:=[.agg (ZaS x12)]) (H:=ab) (n:=i52.nt) (ps:=[26]) (fr0:=[(11,.ptr id3 0)]) (ia:=Zc0) (ib:=ZcY) true (fun H'=>∃ its',(fun (s:(List Z4)) (its:List ZR)=>∃ (a1:AV),its=[.arr a1 5 false (List.map Zaf s),.cel id3 [a1]]++[.lp (List.length H6) (lcOf Try.prog i52.nt [26] Zc0 ZcY) [(11,.ptr id3 0)] .ready]) q its'∧Fp ab H' [.arr a1 5 false (List.map Zaf ad),.cel id3 [a1],.lp (List.length H6) (lcOf Try.prog i52.nt [26] Zc0 ZcY) [(11,.ptr id3 0)] .ready] its') (Fp.get hH 2 rfl) rfl (by decide +kernel) rfl ?_
  show vc _ _ _ _ ⟨[(11,.ptr id3 0),(26,.agg (ZaS x12))],[],ab⟩
  refine rgS ⟨[(11,.ptr id3 0),(12,.loc 12 0)],[(12,(ZaS x12))],ab⟩ Za.f kr (Zg9 (k:=2) hH rfl ?_)
  intro aa hH
  replace hH:Fp _ _ _ [.arr a1 5 false (List.map Zaf ad),.cel id3 [a1],.lp (List.length H6) (lcOf Try.prog i52.nt [26] Zc0 ZcY) [(11,.ptr id3 0)] .busy]:=hH
  show vc _ _ _ _ ⟨[(11,.ptr id3 0),(12,.loc 12 0)],[(12,(ZaS x12))],aa⟩
  refine bk ?_
  have a9:=Fp.get hH 1 rfl
  obtain ⟨ac,af,h⟩:=bs h
  obtain ⟨a3,ak,ag,hH⟩:=Fp.app (k:=0) (a:=a1) (sz:=5) (frz:=false) Zaf hH rfl af
  replace hH:Fp _ _ _ [.arr a3 5 false (List.map Zaf ac),.cel id3 [a1],.lp (List.length H6) (lcOf Try.prog i52.nt [26] Zc0 ZcY) [(11,.ptr id3 0)] .busy]:=hH
  have a2:=ZaB (Fp.get hH 0 rfl)
  obtain ⟨aj,ai,hH⟩:=Fp.setCell (k:=1) (off:=0) (cs:=[a1]) (vs:=[a3]) (cs':=[a3]) hH rfl kr
  replace hH:Fp _ _ _ [.arr a3 5 false (List.map Zaf ac),.cel id3 [a3],.lp (List.length H6) (lcOf Try.prog i52.nt [26] Zc0 ZcY) [(11,.ptr id3 0)] .busy]:=hH
  refine rgS ⟨[],[],aj⟩ (Za.u 0 (Zm (H:=aa) (id:=id3) (off:=0) (cs:=[a1]) (c:=[a1]) (r:=a1) (by cases a0<;>kernel_rfl) (by cases a0<;>kernel_rfl) a9 (by cases a0<;>kernel_rfl) (by cases a0<;>kernel_rfl) (by cases a0<;>kernel_rfl)) (Za.h 2 (Zhz (H:=aa) (a:=a1) (b:=ZaF true [x12]) (by cases a0<;>kernel_rfl) (by cases a0<;>kernel_rfl) (by cases a0<;>kernel_rfl) (by cases a0<;>kernel_rfl) ag) (Za.o 0 (Zdo (H:=ak) (v:=a3) (cs:=[a3]) (by cases a2<;>kernel_rfl) (by cases a2<;>kernel_rfl) (by cases a2<;>kernel_rfl) (by cases a2<;>kernel_rfl) (by cases a2<;>kernel_rfl) ai) Za.f))) kr (bn ?_)
  obtain rfl:=Zb h
  exact rbd (k:=2) (.ready) hH rfl rfl (fun H6 hH=>⟨_,⟨a3,Eq.refl _⟩,(Fp.pick hH [0,1,2] rfl)⟩)
 refine Zff (s:=⟨[(11,.ptr id3 0),(25,.fn 95 [] [.ptr id7 0,.ptr id8 0,.ptr id9 0,.ptr a4 0])],[],H6⟩) [(11,.ptr id3 0)] (FrOK.cons kr kr FrOK.nil) kr (fun H=>rfl) (capT:=[.cel id7 (Zf r5.1),.cel id8 [iv r5.2.1],.cel id9 (Zc r5.2.2.1),.cel a4 (Zg r5.2.2.2)]) (cells0:=[.arr (.p (.sl 5 true [])) 5 false (List.map Zaf []),.cel id3 [ZaF true []]]) (rest:=[]) (HP.now (HP.pick (HP.nilArr hH 5 false) [1,2,3,4,0,5] rfl)) (fun (s:(List Z4)) (its:List ZR)=>∃ (a1:AV),its=[.arr a1 5 false (List.map Zaf s),.cel id3 [a1]]++[.lp (List.length H6) (lcOf Try.prog i52.nt [26] Zc0 ZcY) [(11,.ptr id3 0)] .ready]) [] a5 (by exact ⟨(.p (.sl 5 true [])),Eq.refl _⟩) (fun H its hT hH=>ZdU N (fun (s:(List Z4)) (x12:Z4)=>Zd0 (fun v:(List Z4)=>Zbt N v x12) s) r5.1 r5.2.1 r5.2.2.1 r5.2.2.2 [] id7 id8 id9 a4 (List.length H6) (fun (s:(List Z4)) (its:List ZR)=>∃ (a1:AV),its=[.arr a1 5 false (List.map Zaf s),.cel id3 [a1]]++[.lp (List.length H6) (lcOf Try.prog i52.nt [26] Zc0 ZcY) [(11,.ptr id3 0)] .ready]) a7 H its hT hH a5 ae) ?_
 rintro its hT
 obtain ⟨a1,rfl⟩:=hT
 refine ⟨_,_,rfl,?_⟩
 intro a6 hF
 replace hH:HP _ [.cel id7 (Zf r5.1),.cel id8 [iv r5.2.1],.cel id9 (Zc r5.2.2.1),.cel a4 (Zg r5.2.2.2),.arr a1 5 false (List.map Zaf a5),.cel id3 [a1]]:=HP.after (HP.pick (HP.nilArr hH 5 false) [1,2,3,4,0,5] rfl) hF
 have a0:=ZaB (HP.get hH 4 rfl)
 refine ZfT (S:=⟨[(11,.ptr id3 0),(25,.fn 95 [] [.ptr id7 0,.ptr id8 0,.ptr id9 0,.ptr a4 0])],[],a6⟩) (bn (tq (kq ?_)))
 replace hH:HP _ [.arr a1 5 false (List.map Zaf a5),.cel id3 [a1]]:=HP.pick hH [4,5] rfl
 refine sq ?_
 have a8:=HP.get hH 1 rfl
 refine rgS ⟨[(8,a1),(9,iv 0)],[],a6⟩ (Za.u 0 (Zm (H:=a6) (id:=id3) (off:=0) (cs:=[a1]) (c:=[a1]) (r:=a1) (by cases a0<;>kernel_rfl) (by cases a0<;>kernel_rfl) a8 (by cases a0<;>kernel_rfl) (by cases a0<;>kernel_rfl) (by cases a0<;>kernel_rfl)) Za.f) (by cases a0<;>kernel_rfl) ?_
 replace hH:HP _ [.arr a1 5 false (List.map Zaf a5)]:=HP.pick hH [0] rfl
 refine tq (rt ?_)
 obtain rfl:=Zb h
 exact ZfL (H:=a6) (ys:=[a1,iv 0]) (xs:=[.p (.sl 5 false (List.map Zaf a5)),iv 0]) (by cases a0<;>kernel_rfl) (by cases a0<;>kernel_rfl) (Zbf (HP.pure (k:=0) (frz:=false) Zaf hH rfl).2 (Zbf rfl ZcL)) kr
theorem Zho (N:Nat)(a0_:Zs)(a1_:ZW)(a2_:Zt)(a3_:Int)(r:Int×Int)(h:ZeZ N a0_ a1_ a2_ a3_=some r):PCall Try.prog 54 [.agg (Zc a0_),.agg (Zg a1_),.agg (Zf a2_),iv a3_] (.tup [iv r.1,iv r.2]):=by
 unfold ZeZ at h
 have hH:HP ([]:List HO) []:=trivial
 refine ZE ZwW rfl rfl (Zq _ _ _ ?_) rfl
 refine sq ?_
 obtain ⟨id1,H2,hid1,hH2,hH⟩:=HP.newCell hH (Zc a0_)
 replace hH:HP _ [.cel id1 (Zc a0_)]:=hH
 obtain ⟨id3,H4,hid3,hH4,hH⟩:=HP.newCell hH (Zg a1_)
 replace hH:HP _ [.cel id3 (Zg a1_),.cel id1 (Zc a0_)]:=hH
 refine rgS ⟨[(3,iv a3_),(4,.ptr id1 0),(5,.ptr id3 0),(6,.loc 6 0)],[(6,(Zf a2_))],H4⟩ (Za.h 0 (ZaL (H:=[]) (v:=.agg (Zc a0_)) (hid:=hid1) (hH:=hH2)) (Za.h 0 (ZaL (H:=H2) (v:=.agg (Zg a1_)) (hid:=hid3) (hH:=hH4)) Za.f)) kr (tq (sq (sq ?_)))
 have hlc5:=HP.get hH 1 rfl
 have hlc6:=HP.get hH 0 rfl
 obtain ⟨r7,hr7,h⟩:=bs h
 refine rgS ⟨[(3,iv a3_),(4,.ptr id1 0),(5,.ptr id3 0),(6,.loc 6 0),(10,iv r7)],[(6,(Zf a2_))],H4⟩ (Za.u 0 (Zm (H:=H4) (id:=id1) (off:=0) (cs:=(Zc a0_)) (c:=(Zc a0_)) (r:=.agg (Zc a0_)) (hl:=hlc5)) (Za.u 0 (Zm (H:=H4) (id:=id3) (off:=0) (cs:=(Zg a1_)) (c:=(Zg a1_)) (r:=.agg (Zg a1_)) (hl:=hlc6)) (Za.v 2 (Zp (hc:=Zfh N a0_ a1_ a2_ a3_ r7 hr7)) Za.f))) kr (tq (sq (rgS ⟨[(3,iv a3_),(4,.ptr id1 0),(5,.ptr id3 0),(6,.loc 6 0),(10,iv r7),(19,bv (r7 != 0))],[(6,(Zf a2_))],H4⟩ Za.f kr (tq (it h (fun hc8 h=>?_) (fun hc8 h=>?_))))))
 ·refine sq (rgS ⟨[(8,iv 0),(9,iv r7)],[],H4⟩ Za.f kr ?_)
  replace hH:HP _ []:=HP.pick hH [] rfl
  refine tq (rt (tr ?_))
  obtain rfl:=Zb h
  exact Zu kr
 refine sk (tq (kq (sq ?_)))
 obtain ⟨id9,au,hid9,aq,hH⟩:=HP.newCell hH [iv 0]
 replace hH:HP _ [.cel id9 [iv 0],.cel id3 (Zg a1_),.cel id1 (Zc a0_)]:=hH
 obtain ⟨an,ap,hH⟩:=HP.setCell (k:=0) (off:=0) (cs:=[iv 0]) (vs:=[iv 0]) (cs':=[iv 0]) hH rfl kr
 replace hH:HP _ [.cel id9 [iv 0],.cel id3 (Zg a1_),.cel id1 (Zc a0_)]:=hH
 refine rgS ⟨[(3,iv a3_),(4,.ptr id1 0),(5,.ptr id3 0),(6,.loc 6 0),(11,.ptr id9 0)],[(6,(Zf a2_))],an⟩ (Za.h 0 (Zd9 (H:=H4) kr hid9 aq) (Za.o 0 (Zaa (H:=au) (v:=iv 0) (hw:=ap)) Za.f)) kr (tq (sq (sq ?_)))
 have al:=HP.get hH 2 rfl
 have ak:=HP.get hH 1 rfl
 obtain ⟨a0,ao,h⟩:=bs h
 obtain ⟨a6,a5,a4,a3,a2,ag,ai⟩:=ZeO N a0_ a1_ a2_ a3_ an a0 ao
 replace hH:HP _ [.cel a6 (Zf a0.1),.cel a5 [iv a0.2.1],.cel a4 (Zc a0.2.2.1),.cel a3 (Zg a0.2.2.2),.cel id9 [iv 0],.cel id3 (Zg a1_),.cel id1 (Zc a0_)]:=HP.callee (fp:=[]) (rest:=[.cel id9 [iv 0],.cel id3 (Zg a1_),.cel id1 (Zc a0_)]) hH ai
 refine rgS ⟨[(4,.ptr id1 0),(5,.ptr id3 0),(11,.ptr id9 0),(25,.fn 95 [] [.ptr a6 0,.ptr a5 0,.ptr a4 0,.ptr a3 0])],[],a2⟩ (Za.u 0 (Zm (H:=an) (id:=id1) (off:=0) (cs:=(Zc a0_)) (c:=(Zc a0_)) (r:=.agg (Zc a0_)) (hl:=al)) (Za.u 0 (Zm (H:=an) (id:=id3) (off:=0) (cs:=(Zg a1_)) (c:=(Zg a1_)) (r:=.agg (Zg a1_)) (hl:=ak)) (Za.v 2 (ZdG (H:=an) (ys:=[.agg (Zc a0_),.agg (Zg a1_),.agg (Zf a2_),iv a3_]) kr kr kr ag) Za.f))) kr (tq (bk ?_))
 obtain ⟨a1,aj,h⟩:=bs h
 have aa:∀ (x21:Z4) (s:Int) (r:(Int)×Bool) (H:List HO) (its:List ZR),(fun (s:Int) (its:List ZR)=>its=[.cel id9 [iv s],.cel id3 (Zg a1_),.cel id1 (Zc a0_)]++[.lp (List.length a2) (lcOf Try.prog i54.nt [26] Zdu Zdt) [(4,.ptr id1 0),(5,.ptr id3 0),(11,.ptr id9 0)] .ready]) s its→HP H its→(fun (s:Int) (x21:Z4)=>Zd0 (fun v:Int=>Zbs N a0_ a1_ v x21) s) s x21=some r→∃ H' its',Zeu Try.prog (List.length a2) [.agg (ZaS x21)] H r.2 H'∧(fun (s:Int) (its:List ZR)=>its=[.cel id9 [iv s],.cel id3 (Zg a1_),.cel id1 (Zc a0_)]++[.lp (List.length a2) (lcOf Try.prog i54.nt [26] Zdu Zdt) [(4,.ptr id1 0),(5,.ptr id3 0),(11,.ptr id9 0)] .ready]) r.1 its'∧Fp H H' its its':=by
  clear h
  intro x21 s r af its hT hH h
  obtain ⟨q,hb,rfl⟩:=ZeW h
  clear h
  obtain ⟨vs,rfl⟩:∃ v,v=s:=⟨s,rfl⟩
  obtain ⟨i22,rfl⟩:∃ v,v=vs:=⟨vs,rfl⟩
  obtain rfl:=hT
  replace h:Zbs N a0_ a1_ i22 x21=some q:=hb
  clear hb
  unfold Zbs at h
  replace hH:Fp _ _ _ [.cel id9 [iv i22],.cel id3 (Zg a1_),.cel id1 (Zc a0_),.lp (List.length a2) (lcOf Try.prog i54.nt [26] Zdu Zdt) [(4,.ptr id1 0),(5,.ptr id3 0),(11,.ptr id9 0)] .ready]:=Fp.refl hH
  suffices hs:∃ H',Zeu Try.prog (List.length a2) [.agg (ZaS x21)] af true H'∧∃ its',(fun (s:Int) (its:List ZR)=>its=[.cel id9 [iv s],.cel id3 (Zg a1_),.cel id1 (Zc a0_)]++[.lp (List.length a2) (lcOf Try.prog i54.nt [26] Zdu Zdt) [(4,.ptr id1 0),(5,.ptr id3 0),(11,.ptr id9 0)] .ready]) q its'∧Fp af H' [.cel id9 [iv i22],.cel id3 (Zg a1_),.cel id1 (Zc a0_),.lp (List.length a2) (lcOf Try.prog i54.nt [26] Zdu Zdt) [(4,.ptr id1 0),(5,.ptr id3 0),(11,.ptr id9 0)] .ready] its' by
   obtain ⟨H',h1,its',h2,h3⟩:=hs
   exact ⟨H',its',h1,h2,h3⟩
  refine Zd1 (id:=(List.length a2)) (args:=[.agg (ZaS x21)]) (H:=af) (n:=i54.nt) (ps:=[26]) (fr0:=[(4,.ptr id1 0),(5,.ptr id3 0),(11,.ptr id9 0)]) (ia:=Zdu) (ib:=Zdt) true (fun H'=>∃ its',(fun (s:Int) (its:List ZR)=>its=[.cel id9 [iv s],.cel id3 (Zg a1_),.cel id1 (Zc a0_)]++[.lp (List.length a2) (lcOf Try.prog i54.nt [26] Zdu Zdt) [(4,.ptr id1 0),(5,.ptr id3 0),(11,.ptr id9 0)] .ready]) q its'∧Fp af H' [.cel id9 [iv i22],.cel id3 (Zg a1_),.cel id1 (Zc a0_),.lp (List.length a2) (lcOf Try.prog i54.nt [26] Zdu Zdt) [(4,.ptr id1 0),(5,.ptr id3 0),(11,.ptr id9 0)] .ready] its') (Fp.get hH 3 rfl) rfl (by decide +kernel) rfl ?_
  show vc _ _ _ _ ⟨[(4,.ptr id1 0),(5,.ptr id3 0),(11,.ptr id9 0),(26,.agg (ZaS x21))],[],af⟩
  refine rgS ⟨[(4,.ptr id1 0),(5,.ptr id3 0),(11,.ptr id9 0),(12,.loc 12 0)],[(12,(ZaS x21))],af⟩ Za.f kr (Zg9 (k:=3) hH rfl ?_)
  intro a8 hH
  replace hH:Fp _ _ _ [.cel id9 [iv i22],.cel id3 (Zg a1_),.cel id1 (Zc a0_),.lp (List.length a2) (lcOf Try.prog i54.nt [26] Zdu Zdt) [(4,.ptr id1 0),(5,.ptr id3 0),(11,.ptr id9 0)] .busy]:=hH
  show vc _ _ _ _ ⟨[(4,.ptr id1 0),(5,.ptr id3 0),(11,.ptr id9 0),(12,.loc 12 0)],[(12,(ZaS x21))],a8⟩
  refine bk ?_
  have ad:=Fp.get hH 2 rfl
  obtain ⟨a7,a9,h⟩:=bs h
  have ac:=Fp.get hH 1 rfl
  obtain ⟨ar,am,hH⟩:=Fp.setCell (k:=0) (off:=0) (cs:=[iv i22]) (vs:=[iv (w64 ((w64 ((w64 (x21.Open+x21.Long))+a7.Delay))+a1_.Proc))]) (cs':=[iv (w64 ((w64 ((w64 (x21.Open+x21.Long))+a7.Delay))+a1_.Proc))]) hH rfl kr
  replace hH:Fp _ _ _ [.cel id9 [iv (w64 ((w64 ((w64 (x21.Open+x21.Long))+a7.Delay))+a1_.Proc))],.cel id3 (Zg a1_),.cel id1 (Zc a0_),.lp (List.length a2) (lcOf Try.prog i54.nt [26] Zdu Zdt) [(4,.ptr id1 0),(5,.ptr id3 0),(11,.ptr id9 0)] .busy]:=hH
  refine rqS ⟨[],[],ar⟩ (Za.u 6 (Z3 (Zm (H:=a8) (id:=id1) (off:=2) (cs:=(Zc a0_)) (c:=[Zk false a0_.Links]) (r:=Zk false a0_.Links) (hl:=ad))) (Za.u 3 (Zo (ys:=[Zk false a0_.Links,iv (w64 (Int.tdiv x21.Port 2))]) (h:=Zn ZL a9)) (Za.u 1 (Z3 (ZD (sz:=4) (off:=3) (cs:=[.int .i64 a7.Delay]) (r:=iv a7.Delay) ZL a9)) (Za.u 2 (Z3 (Zm (H:=a8) (id:=id3) (off:=2) (cs:=(Zg a1_)) (c:=[iv a1_.Proc]) (r:=iv a1_.Proc) (hl:=ac))) (Za.o 1 (Zis (Zaa (H:=a8) (v:=iv (w64 ((w64 ((w64 (x21.Open+x21.Long))+a7.Delay))+a1_.Proc))) (hw:=am)) kr) Za.f))))) kr (bn ?_)
  obtain rfl:=Zb h
  exact rbd (k:=3) (.ready) hH rfl rfl (fun H6 hH=>⟨_,(Eq.refl _),(Fp.pick hH [0,1,2,3] rfl)⟩)
 refine Zff (s:=⟨[(4,.ptr id1 0),(5,.ptr id3 0),(11,.ptr id9 0),(25,.fn 95 [] [.ptr a6 0,.ptr a5 0,.ptr a4 0,.ptr a3 0])],[],a2⟩) [(4,.ptr id1 0),(5,.ptr id3 0),(11,.ptr id9 0)] (FrOK.cons kr kr (FrOK.cons kr kr (FrOK.cons kr kr FrOK.nil))) kr (fun H=>rfl) (capT:=[.cel a6 (Zf a0.1),.cel a5 [iv a0.2.1],.cel a4 (Zc a0.2.2.1),.cel a3 (Zg a0.2.2.2)]) (cells0:=[.cel id9 [iv 0],.cel id3 (Zg a1_),.cel id1 (Zc a0_)]) (rest:=[]) (HP.now (HP.pick hH [0,1,2,3,4,5,6] rfl)) (fun (s:Int) (its:List ZR)=>its=[.cel id9 [iv s],.cel id3 (Zg a1_),.cel id1 (Zc a0_)]++[.lp (List.length a2) (lcOf Try.prog i54.nt [26] Zdu Zdt) [(4,.ptr id1 0),(5,.ptr id3 0),(11,.ptr id9 0)] .ready]) 0 a1 (by exact (Eq.refl _)) (fun H its hT hH=>ZdU N (fun (s:Int) (x21:Z4)=>Zd0 (fun v:Int=>Zbs N a0_ a1_ v x21) s) a0.1 a0.2.1 a0.2.2.1 a0.2.2.2 0 a6 a5 a4 a3 (List.length a2) (fun (s:Int) (its:List ZR)=>its=[.cel id9 [iv s],.cel id3 (Zg a1_),.cel id1 (Zc a0_)]++[.lp (List.length a2) (lcOf Try.prog i54.nt [26] Zdu Zdt) [(4,.ptr id1 0),(5,.ptr id3 0),(11,.ptr id9 0)] .ready]) aa H its hT hH a1 aj) ?_
 rintro its hT
 obtain rfl:=hT
 refine ⟨_,_,rfl,?_⟩
 intro ae hF
 replace hH:HP _ [.cel a6 (Zf a0.1),.cel a5 [iv a0.2.1],.cel a4 (Zc a0.2.2.1),.cel a3 (Zg a0.2.2.2),.cel id9 [iv a1],.cel id3 (Zg a1_),.cel id1 (Zc a0_)]:=HP.after (HP.pick hH [0,1,2,3,4,5,6] rfl) hF
 refine ZfT (S:=⟨[(4,.ptr id1 0),(5,.ptr id3 0),(11,.ptr id9 0),(25,.fn 95 [] [.ptr a6 0,.ptr a5 0,.ptr a4 0,.ptr a3 0])],[],ae⟩) (bn (tq (kq ?_)))
 replace hH:HP _ [.cel id9 [iv a1]]:=HP.pick hH [4] rfl
 refine sq ?_
 have ab:=HP.get hH 0 rfl
 refine rgS ⟨[(8,iv a1),(9,iv 0)],[],ae⟩ (Za.u 0 (Zm (H:=ae) (id:=id9) (off:=0) (cs:=[iv a1]) (c:=[iv a1]) (r:=iv a1) (hl:=ab)) Za.f) kr ?_
 replace hH:HP _ []:=HP.pick hH [] rfl
 refine tq (rt ?_)
 obtain rfl:=Zb h
 exact Zu kr
theorem ZfQ (N:Nat)(a0_:Z6)(a1_:Zs)(a2_:ZW)(a3_:Zt)(p0_:Nat)(bc0_0_:AV)(bc0_1_:AV)(H:List HO)(hH:HP H [.cel p0_ [bc0_0_,bc0_1_,bv a0_.late],.arr bc0_0_ 1 true (List.map eI64 a0_.Problem.Periods),.arr bc0_1_ 4 true (List.map Zj a0_.Problem.Uses)])(r:Int×Z6)(h:Zdm N a0_ a1_ a2_ a3_=some r):∃ (oc_0_0_:AV) (oc_0_1_:AV) (H':List HO),Zao Try.prog 43 [.ptr p0_ 0,.agg (Zc a1_),.agg (Zg a2_),.agg (Zf a3_)] H (iv r.1) H'∧Fp H H' [.cel p0_ [bc0_0_,bc0_1_,bv a0_.late],.arr bc0_0_ 1 true (List.map eI64 a0_.Problem.Periods),.arr bc0_1_ 4 true (List.map Zj a0_.Problem.Uses)] [.cel p0_ [oc_0_0_,oc_0_1_,bv r.2.late],.arr oc_0_0_ 1 true (List.map eI64 r.2.Problem.Periods),.arr oc_0_1_ 4 true (List.map Zj r.2.Problem.Uses)]:=by
 suffices hs:∃ r' H',Zao Try.prog 43 [.ptr p0_ 0,.agg (Zc a1_),.agg (Zg a2_),.agg (Zf a3_)] H r' H'∧∃ (oc_0_0_:AV) (oc_0_1_:AV),r'=iv r.1∧Fp H H' [.cel p0_ [bc0_0_,bc0_1_,bv a0_.late],.arr bc0_0_ 1 true (List.map eI64 a0_.Problem.Periods),.arr bc0_1_ 4 true (List.map Zj a0_.Problem.Uses)] [.cel p0_ [oc_0_0_,oc_0_1_,bv r.2.late],.arr oc_0_0_ 1 true (List.map eI64 r.2.Problem.Periods),.arr oc_0_1_ 4 true (List.map Zj r.2.Problem.Uses)] by
  obtain ⟨_,H',h1,oc_0_0_,oc_0_1_,he,h2⟩:=hs
  exact ⟨oc_0_0_,oc_0_1_,H',he ▸ h1,h2⟩
 unfold Zdm at h
 replace hH:=Fp.refl hH
 have hfbc0_0_:=ZaB (Fp.get hH 1 rfl)
 have hfbc0_1_:=ZaB (Fp.get hH 2 rfl)
 refine Zhl Zw6 [] (fun r' H'=>∃ (oc_0_0_:AV) (oc_0_1_:AV),r'=iv r.1∧Fp H H' [.cel p0_ [bc0_0_,bc0_1_,bv a0_.late],.arr bc0_0_ 1 true (List.map eI64 a0_.Problem.Periods),.arr bc0_1_ 4 true (List.map Zj a0_.Problem.Uses)] [.cel p0_ [oc_0_0_,oc_0_1_,bv r.2.late],.arr oc_0_0_ 1 true (List.map eI64 r.2.Problem.Periods),.arr oc_0_1_ 4 true (List.map Zj r.2.Problem.Uses)]) (fun r' H' q=>by obtain ⟨oc_0_0_,oc_0_1_,e,hp⟩:=q;subst e;have hfoc_0_0_:=ZaB (Fp.get hp 1 rfl);have hfoc_0_1_:=ZaB (Fp.get hp 2 rfl);show ZI _=true;cases hfoc_0_0_<;>cases hfoc_0_1_<;>rfl) rfl (by cases hfbc0_0_<;>cases hfbc0_1_<;>kernel_rfl) (sq (rg Za.f (tq (sq ?_))))
 have hlc1:=Fp.get hH 0 rfl
 have hln2:=Fp.len (k:=1) (a:=bc0_0_) (sz:=1) (frz:=true) (l:=a0_.Problem.Periods) eI64 hH rfl
 refine rg (Za.u 4 (Zm (H:=H) (id:=p0_) (off:=0) (cs:=[bc0_0_,bc0_1_,bv a0_.late]) (c:=[bc0_0_]) (r:=bc0_0_) (by cases hfbc0_0_<;>kernel_rfl) (by cases hfbc0_0_<;>kernel_rfl) hlc1 (by cases hfbc0_0_<;>kernel_rfl) (by cases hfbc0_0_<;>kernel_rfl) (by cases hfbc0_0_<;>kernel_rfl)) (Za.u 0 (Zo (ys:=[bc0_0_]) (by cases hfbc0_0_<;>kernel_rfl) hln2) Za.f)) (tq (sq ?_))
 have hlc3:=Fp.get hH 0 rfl
 obtain ⟨l6,hl6,h⟩:=bs h
 obtain ⟨a4,H5,ha4,hH⟩:=Fp.app (k:=1) (a:=bc0_0_) (sz:=1) (frz:=true) eI64 hH rfl hl6
 replace hH:Fp _ _ _ [.cel p0_ [bc0_0_,bc0_1_,bv a0_.late],.arr a4 1 true (List.map eI64 l6),.arr bc0_1_ 4 true (List.map Zj a0_.Problem.Uses)]:=hH
 have hfa4:=ZaB (Fp.get hH 1 rfl)
 obtain ⟨H7,hH7,hH⟩:=Fp.setCell (k:=0) (off:=0) (cs:=[bc0_0_,bc0_1_,bv a0_.late]) (vs:=[a4]) (cs':=[a4,bc0_1_,bv a0_.late]) hH rfl kr
 replace hH:Fp _ _ _ [.cel p0_ [a4,bc0_1_,bv a0_.late],.arr a4 1 true (List.map eI64 l6),.arr bc0_1_ 4 true (List.map Zj a0_.Problem.Uses)]:=hH
 refine rq (Za.u 5 (Z3 (Zm (H:=H) (id:=p0_) (off:=0) (cs:=[bc0_0_,bc0_1_,bv a0_.late]) (c:=[bc0_0_]) (r:=bc0_0_) (by cases hfbc0_0_<;>kernel_rfl) (by cases hfbc0_0_<;>kernel_rfl) hlc3 (by cases hfbc0_0_<;>kernel_rfl) (by cases hfbc0_0_<;>kernel_rfl) (by cases hfbc0_0_<;>kernel_rfl)) (by cases hfbc0_0_<;>kernel_rfl)) (Za.h 3 (Zhz (H:=H) (a:=bc0_0_) (b:=Zi true [a3_.Period]) (by cases hfbc0_0_<;>kernel_rfl) (by cases hfbc0_0_<;>kernel_rfl) (by cases hfbc0_0_<;>kernel_rfl) (by cases hfbc0_0_<;>kernel_rfl) ha4) (Za.o 3 (Zis (Zdo (H:=H5) (v:=a4) (cs:=[a4]) (by cases hfa4<;>kernel_rfl) (by cases hfa4<;>kernel_rfl) (by cases hfa4<;>kernel_rfl) (by cases hfa4<;>kernel_rfl) (by cases hfa4<;>kernel_rfl) hH7) (by cases hfa4<;>kernel_rfl)) Za.f))) (tq (sq (sq (rg (Za.u 2 (Zo (ys:=[ZG false a3_.Routes]) (h:=Zv (eSl 1 eI64))) Za.f) (tq (bk ?_))))))
 obtain ⟨ax,ao,h⟩:=bs h
 refine Z9 ((ZV (fun (x:Int×Bool×(List Zx)) s=>∃ (a8:AV) (a9:AV) (b2:List HO),s=⟨[(0,.ptr p0_ 0),(5,.loc 5 0),(6,.loc 6 0),(7,.loc 7 0),(9,iv ((List.length a0_.Problem.Periods:Nat):Int)),(40,iv ((List.length a3_.Routes:Nat):Int)),(41,iv x.1)],[(5,(Zc a1_)),(6,(Zg a2_)),(7,(Zf a3_))],b2⟩∧Fp H b2 [.cel p0_ [bc0_0_,bc0_1_,bv a0_.late],.arr bc0_0_ 1 true (List.map eI64 a0_.Problem.Periods),.arr bc0_1_ 4 true (List.map Zj a0_.Problem.Uses)] [.arr a8 1 true (List.map eI64 l6),.arr a9 4 true (List.map Zj x.2.2),.cel p0_ [a8,a9,bv x.2.1]]) (fun x:Int×Bool×(List Zx)=>Zbo N a0_ a1_ a2_ a3_ l6 x.1 x.2.1 x.2.2) (fun (p:(Bool×(List Zx))⊕(Int×Z6)) e s=>match p with|(.inl p)=>e=.exit 0∧(∃ (am:AV) (al:AV) (aS:List HO),s=⟨[],[],aS⟩∧Fp H aS [.cel p0_ [bc0_0_,bc0_1_,bv a0_.late],.arr bc0_0_ 1 true (List.map eI64 a0_.Problem.Periods),.arr bc0_1_ 4 true (List.map Zj a0_.Problem.Uses)] [.arr am 1 true (List.map eI64 l6),.arr al 4 true (List.map Zj p.2),.cel p0_ [am,al,bv p.1]])|(.inr p)=>e=.ret∧∃ xs,rawL (wS [] s) i43.res=some xs∧∃ (oc_0_0_:AV) (oc_0_1_:AV),ZaA xs=iv p.1∧Fp H (weakH [] s.H) [.cel p0_ [bc0_0_,bc0_1_,bv a0_.late],.arr bc0_0_ 1 true (List.map eI64 a0_.Problem.Periods),.arr bc0_1_ 4 true (List.map Zj a0_.Problem.Uses)] [.cel p0_ [oc_0_0_,oc_0_1_,bv p.2.late],.arr oc_0_0_ 1 true (List.map eI64 p.2.Problem.Periods),.arr oc_0_1_ 4 true (List.map Zj p.2.Problem.Uses)]) ?_ N _ ax _ ao ⟨a4,bc0_1_,H7,kr,(Fp.pick hH [1,2,0] rfl)⟩).mono ?_)
 ·clear h ao
  rintro ⟨i11,b12,bl⟩ o s h hR
  obtain ⟨a8,a9,b2,rfl,hH⟩:=hR
  replace hH:Fp _ _ _ [.arr a8 1 true (List.map eI64 l6),.arr a9 4 true (List.map Zj bl),.cel p0_ [a8,a9,bv b12]]:=hH
  have hfa8:=ZaB (Fp.get hH 0 rfl)
  have hfa9:=ZaB (Fp.get hH 1 rfl)
  replace h:Zbo N a0_ a1_ a2_ a3_ l6 i11 b12 bl=some o:=h
  unfold Zbo at h
  refine sq (rg Za.f (tq (sq (it h (fun aX h=>?_) (fun aX h=>?_)))))
  ·refine sk (tq (kq (sq (bk (sq (rg Za.f (tq (sq ?_))))))))
   obtain ⟨ag,aV,h⟩:=bs h
   refine rg (Za.v 4 (Zp (hc:=Zhp N a1_ a2_ a3_ i11 ag aV)) Za.f) (tq (sq (sq (rg Za.f (tq (it h (fun aW h=>?_) (fun aW h=>?_)))))))
   ·refine sq (rg Za.f (tq (rt (tr (br (tr ?_))))))
    obtain rfl:=Zb h
    exact ⟨_,rfl,rfl,⟨[iv ag.2],kr,a8,a9,kr,Fp.pk hH [2,0,1] rfl⟩⟩
   refine sk (tq (kq (sq (sq (rg (Za.u 1 (Zo (ys:=[ZaF false ag.1]) (h:=Zv Zaf)) Za.f) (tq (bk ?_)))))))
   obtain ⟨ad,ap,h⟩:=bs h
   refine Z9 ((ZV (fun (x:Int×(List Zx)) s=>∃ (a6:AV) (a7:AV) (an:List HO),s=⟨[(0,.ptr p0_ 0),(5,.loc 5 0),(6,.loc 6 0),(7,.loc 7 0),(9,iv ((List.length a0_.Problem.Periods:Nat):Int)),(10,iv i11),(40,iv ((List.length a3_.Routes:Nat):Int)),(41,iv i11),(55,ZaF false ag.1),(56,iv ((List.length ag.1:Nat):Int)),(57,iv x.1)],[(5,(Zc a1_)),(6,(Zg a2_)),(7,(Zf a3_))],an⟩∧Fp H an [.cel p0_ [bc0_0_,bc0_1_,bv a0_.late],.arr bc0_0_ 1 true (List.map eI64 a0_.Problem.Periods),.arr bc0_1_ 4 true (List.map Zj a0_.Problem.Uses)] [.arr a6 1 true (List.map eI64 l6),.arr a7 4 true (List.map Zj x.2),.cel p0_ [a6,a7,bv b12]]) (fun x:Int×(List Zx)=>Zbn N a0_ a2_ a3_ ag x.1 x.2) (fun (p:(List Zx)) e s=>e=.exit 2∧(∃ (a1:AV) (a0:AV) (ab:List HO),s=⟨[(0,.ptr p0_ 0),(5,.loc 5 0),(6,.loc 6 0),(7,.loc 7 0),(9,iv ((List.length a0_.Problem.Periods:Nat):Int)),(10,iv i11),(40,iv ((List.length a3_.Routes:Nat):Int)),(41,iv i11)],[(5,(Zc a1_)),(6,(Zg a2_)),(7,(Zf a3_))],ab⟩∧Fp H ab [.cel p0_ [bc0_0_,bc0_1_,bv a0_.late],.arr bc0_0_ 1 true (List.map eI64 a0_.Problem.Periods),.arr bc0_1_ 4 true (List.map Zj a0_.Problem.Uses)] [.arr a1 1 true (List.map eI64 l6),.arr a0 4 true (List.map Zj p),.cel p0_ [a1,a0,bv b12]])) ?_ N _ ad _ ap ⟨a8,a9,b2,kr,(Fp.pick hH [0,1,2] rfl)⟩).mono ?_)
   ·clear h ap
    rintro ⟨aU,aT⟩ o s h hR
    obtain ⟨a6,a7,an,rfl,hH⟩:=hR
    replace hH:Fp _ _ _ [.arr a6 1 true (List.map eI64 l6),.arr a7 4 true (List.map Zj aT),.cel p0_ [a6,a7,bv b12]]:=hH
    have be:=ZaB (Fp.get hH 0 rfl)
    have a2:=ZaB (Fp.get hH 1 rfl)
    replace h:Zbn N a0_ a2_ a3_ ag aU aT=some o:=h
    unfold Zbn at h
    refine sq (rg Za.f (tq (sq (it h (fun aK h=>?_) (fun aK h=>?_)))))
    ·refine sk (tq (kq (sq (bk (sq ?_)))))
     obtain ⟨a5,aq,h⟩:=bs h
     refine rg (Za.u 0 (Zo (ys:=[ZaF false ag.1,iv aU]) (h:=Zn Zaf aq)) (Za.u 0 (ZD (sz:=5) (off:=0) (cs:=[.int .i64 a5.Port,.int .i64 a5.Early,.int .i64 a5.Late,.int .i64 a5.Open,.int .i64 a5.Long]) (r:=.agg (ZaS a5)) Zaf aq) Za.f)) (tq (sq ?_))
     obtain ⟨ai,aD,h⟩:=bs h
     refine rg (Za.v 4 (Zp (hc:=ZdN N a5.Early a2_.Grid ai aD)) Za.f) (tq (sq ?_))
     obtain ⟨av,aC,h⟩:=bs h
     refine rg (Za.v 11 (Zp (hc:=ZdN N (w64 ((w64 ((w64 (a5.Open+a5.Long))+a2_.Grid))-1)) a2_.Grid av aC)) Za.f) (tq (sq ?_))
     obtain ⟨au,aB,h⟩:=bs h
     refine rq (Za.u 4 (Zfi (hc:=ZdN N ai a3_.Period au aB)) Za.f) (tq ?_)
     have ar:=Fp.get hH 2 rfl
     obtain ⟨ay,aE,h⟩:=bs h
     obtain ⟨aa,b1,aL,hH⟩:=Fp.app (k:=1) (a:=a7) (sz:=4) (frz:=true) Zj hH rfl aE
     replace hH:Fp _ _ _ [.arr a6 1 true (List.map eI64 l6),.arr aa 4 true (List.map Zj ay),.cel p0_ [a6,a7,bv b12]]:=hH
     have a3:=ZaB (Fp.get hH 1 rfl)
     obtain ⟨b0,aR,hH⟩:=Fp.setCell (k:=2) (off:=1) (cs:=[a6,a7,bv b12]) (vs:=[aa]) (cs':=[a6,aa,bv b12]) hH rfl kr
     replace hH:Fp _ _ _ [.arr a6 1 true (List.map eI64 l6),.arr aa 4 true (List.map Zj ay),.cel p0_ [a6,aa,bv b12]]:=hH
     refine rq (Za.u 5 (Z3 (Zm (H:=an) (id:=p0_) (off:=1) (cs:=[a6,a7,bv b12]) (c:=[a7]) (r:=a7) (by cases a2<;>kernel_rfl) (by cases a2<;>kernel_rfl) ar (by cases a2<;>kernel_rfl) (by cases a2<;>kernel_rfl) (by cases a2<;>kernel_rfl)) (by cases a2<;>kernel_rfl)) (Za.h 9 (Zhz (H:=an) (a:=a7) (b:=Zw true [(Zx.mk ((List.length a0_.Problem.Periods:Nat):Int) a5.Port (w64 (ai-(w64 (au*a3_.Period)))) (w64 (av-ai)))]) (by cases a2<;>kernel_rfl) (by cases a2<;>kernel_rfl) (by cases a2<;>kernel_rfl) (by cases a2<;>kernel_rfl) aL) (Za.o 3 (Zis (Zdo (H:=b1) (v:=aa) (cs:=[aa]) (by cases a3<;>kernel_rfl) (by cases a3<;>kernel_rfl) (by cases a3<;>kernel_rfl) (by cases a3<;>kernel_rfl) (by cases a3<;>kernel_rfl) aR) (by cases a3<;>kernel_rfl)) Za.f))) (bn (tq (rg Za.f ?_)))
     obtain rfl:=Zb h
     exact ⟨_,rfl,⟨a6,aa,b0,kr,(Fp.pick hH [0,1,2] rfl)⟩⟩
    refine kq (xq (tx ?_))
    obtain rfl:=Zb h
    exact ⟨_,rfl,rfl,⟨a6,a7,an,kr,(Fp.pick hH [0,1,2] rfl)⟩⟩
   rintro e s hq
   obtain ⟨rfl,hR⟩:=hq
   obtain ⟨a1,a0,ab,rfl,hH⟩:=hR
   replace hH:Fp _ _ _ [.arr a1 1 true (List.map eI64 l6),.arr a0 4 true (List.map Zj ad),.cel p0_ [a1,a0,bv b12]]:=hH
   have bd:=ZaB (Fp.get hH 0 rfl)
   have bc:=ZaB (Fp.get hH 1 rfl)
   refine bx (tq (sq ?_))
   obtain ⟨ac,aA,h⟩:=bs h
   refine rg (Za.v 4 (Zp (hc:=Zho N a1_ a2_ a3_ i11 ac aA)) Za.f) (tq (sq (sq (rg Za.f (tq (it h (fun aJ h=>?_) (fun aJ h=>?_)))))))
   ·refine sq (rg Za.f (tq (rt (tr (br (tr ?_))))))
    obtain rfl:=Zb h
    exact ⟨_,rfl,rfl,⟨[iv ac.2],kr,a1,a0,kr,Fp.pk hH [2,0,1] rfl⟩⟩
   refine sk (tq (kq ?_))
   obtain ⟨az,hj,h⟩:=bs h
   refine rgR (fun s=>∃ (af:AV) (ae:AV) (ak:List HO),s=⟨[(0,.ptr p0_ 0),(5,.loc 5 0),(6,.loc 6 0),(7,.loc 7 0),(9,iv ((List.length a0_.Problem.Periods:Nat):Int)),(40,iv ((List.length a3_.Routes:Nat):Int)),(41,iv i11)],[(5,(Zc a1_)),(6,(Zg a2_)),(7,(Zf a3_))],ak⟩∧Fp H ak [.cel p0_ [bc0_0_,bc0_1_,bv a0_.late],.arr bc0_0_ 1 true (List.map eI64 a0_.Problem.Periods),.arr bc0_1_ 4 true (List.map Zj a0_.Problem.Uses)] [.arr af 1 true (List.map eI64 l6),.arr ae 4 true (List.map Zj ad),.cel p0_ [af,ae,bv az]]) ?_ ?_
   ·clear h
    have aj:=Fp.get hH 2 rfl
    rcases Zz hj with ⟨aI,hj⟩|⟨aG,hj⟩
    ·refine (EP.u 4 (ZA.bool (Zm (H:=ab) (id:=p0_) (off:=2) (cs:=[a1,a0,bv b12]) (c:=[bv b12]) (r:=bv b12) (hl:=aj)) aI) ?_)
     obtain ⟨aZ,aQ,hH⟩:=Fp.setCell (k:=2) (off:=2) (cs:=[a1,a0,bv b12]) (vs:=[bv true]) (cs':=[a1,a0,bv true]) hH rfl kr
     replace hH:Fp _ _ _ [.arr a1 1 true (List.map eI64 l6),.arr a0 4 true (List.map Zj ad),.cel p0_ [a1,a0,bv true]]:=hH
     obtain rfl:=Zb hj
     exact (EP.o 12 (Zaa (H:=ab) (v:=bv true) (hw:=aQ)) (EP.f ⟨a1,a0,aZ,kr,(Fp.pick hH [0,1,2] rfl)⟩))
    refine (EP.u 4 (ZA.bool (Zm (H:=ab) (id:=p0_) (off:=2) (cs:=[a1,a0,bv b12]) (c:=[bv b12]) (r:=bv b12) (hl:=aj)) aG) ?_)
    obtain ⟨aY,aM,hH⟩:=Fp.setCell (k:=2) (off:=2) (cs:=[a1,a0,bv b12]) (vs:=[bv (decide ((w64 (ac.1+(w64 (2*a2_.Slack))))>a3_.Deadline))]) (cs':=[a1,a0,bv (decide ((w64 (ac.1+(w64 (2*a2_.Slack))))>a3_.Deadline))]) hH rfl kr
    replace hH:Fp _ _ _ [.arr a1 1 true (List.map eI64 l6),.arr a0 4 true (List.map Zj ad),.cel p0_ [a1,a0,bv (decide ((w64 (ac.1+(w64 (2*a2_.Slack))))>a3_.Deadline))]]:=hH
    obtain rfl:=Zb hj
    exact (EP.o 12 (Zaa (H:=ab) (v:=bv (decide ((w64 (ac.1+(w64 (2*a2_.Slack))))>a3_.Deadline))) (hw:=aM)) (EP.f ⟨a1,a0,aY,kr,(Fp.pick hH [0,1,2] rfl)⟩))
   clear hj
   rintro s hR
   obtain ⟨af,ae,ak,rfl,hH⟩:=hR
   replace hH:Fp _ _ _ [.arr af 1 true (List.map eI64 l6),.arr ae 4 true (List.map Zj ad),.cel p0_ [af,ae,bv az]]:=hH
   have bb:=ZaB (Fp.get hH 0 rfl)
   have ba:=ZaB (Fp.get hH 1 rfl)
   refine bn (tq (kq (rg Za.f ?_)))
   obtain rfl:=Zb h
   exact ⟨_,rfl,⟨af,ae,ak,kr,(Fp.pick hH [0,1,2] rfl)⟩⟩
  refine kq (xq (tx ?_))
  obtain rfl:=Zb h
  exact ⟨_,rfl,rfl,⟨a8,a9,b2,kr,(Fp.pick hH [0,1,2] rfl)⟩⟩
 rintro e s hq
 rcases ax with aw|bj
 ·dsimp only at h hq
  obtain ⟨rfl,hR⟩:=hq
  obtain ⟨am,al,aS,rfl,hH⟩:=hR
  replace hH:Fp _ _ _ [.arr am 1 true (List.map eI64 l6),.arr al 4 true (List.map Zj aw.2),.cel p0_ [am,al,bv aw.1]]:=hH
  have bi:=ZaB (Fp.get hH 0 rfl)
  have bf:=ZaB (Fp.get hH 1 rfl)
  refine bx (tq (sq (rg Za.f (tq (rt ?_)))))
  obtain rfl:=Zb h
  exact ⟨[iv 0],kr,am,al,kr,Fp.pk hH [2,0,1] rfl⟩
 dsimp only at h hq
 obtain ⟨rfl,hq⟩:=hq
 refine br (tr ?_)
 obtain rfl:=Zb h
 exact hq
theorem ZfR (N:Nat)(a0_:Zs)(a1_:ZW)(a2_:(List Zt))(r:Zd×Int)(h:ZgW N a0_ a1_ a2_=some r):PCall Try.prog 23 [.agg (Zc a0_),.agg (Zg a1_),ZX false a2_] (.tup [.agg [Zi false r.1.Periods,Zw false r.1.Uses],iv r.2]):=by
 unfold ZgW at h
 have hH:HP ([]:List HO) []:=trivial
 refine ZE Zxj rfl rfl (Zq _ _ _ ?_) rfl
 refine sq (rg Za.f (tq (sq (sq ?_))))
 obtain ⟨r1,hr1,h⟩:=bs h
 refine rg (Za.v 1 (Zp (hc:=ZcW N a0_ ([]) r1 hr1)) Za.f) (tq (sq (rg Za.f (tq (it h (fun hc2 h=>?_) (fun hc2 h=>?_))))))
 ·refine sq (rg Za.f (tq (rt (tr ?_))))
  obtain rfl:=Zb h
  exact Zu kr
 refine sk (tq (kq (sq (sq ?_))))
 obtain ⟨r3,hr3,h⟩:=bs h
 refine rg (Za.v 1 (Zp (hc:=Zcr N a1_ r3 hr3)) Za.f) (tq (sq (rg Za.f (tq (it h (fun hc4 h=>?_) (fun hc4 h=>?_))))))
 ·refine sq (rg Za.f (tq (rt (tr ?_))))
  obtain rfl:=Zb h
  exact Zu kr
 refine sk (tq (kq (sq (sq ?_))))
 obtain ⟨r5,hr5,h⟩:=bs h
 refine rg (Za.v 2 (Zp (hc:=ZcW N a0_ a2_ r5 hr5)) Za.f) (tq (sq (rg Za.f (tq (it h (fun hc6 h=>?_) (fun hc6 h=>?_))))))
 ·refine sq (rg Za.f (tq (rt (tr ?_))))
  obtain rfl:=Zb h
  exact Zu kr
 refine sk (tq (kq (sq ?_)))
 obtain ⟨id7,H8,hid7,hH8,hH⟩:=HP.newCell hH [Zi true [],Zw true [],bv false]
 replace hH:HP _ [.cel id7 [Zi true [],Zw true [],bv false]]:=hH
 refine rg (Za.h 0 (Zd9 (H:=[]) kr hid7 hH8) Za.f) (tq (sq (sq (rg (Za.u 1 (Zo (ys:=[ZX false a2_]) (h:=Zv Zae)) Za.f) (tq (bk ?_))))))
 obtain ⟨am,aa,h⟩:=bs h
 refine Z9 ((ZV (fun (x:Int×Bool×(List Int)×(List Zx)) s=>∃ (a9:AV) (a7:AV) (al:List HO),s=⟨[(3,.loc 3 0),(4,.loc 4 0),(6,.loc 6 0),(11,.ptr id7 0),(35,ZX false a2_),(36,iv ((List.length a2_:Nat):Int)),(37,iv x.1)],[(3,(Zc a0_)),(4,(Zg a1_)),(6,[Zi true [],Zw true []])],al⟩∧HP al [.arr a9 1 true (List.map eI64 x.2.2.1),.arr a7 4 true (List.map Zj x.2.2.2),.cel id7 [a9,a7,bv x.2.1]]) (fun x:Int×Bool×(List Int)×(List Zx)=>Zey N a0_ a1_ a2_ x.1 x.2.1 x.2.2.1 x.2.2.2) (fun (p:(Bool×(List Int)×(List Zx))⊕(Zd×Int)) e s=>match p with|(.inl p)=>e=.exit 0∧(∃ (a4:AV) (a3:AV) (a6:List HO),s=⟨[(6,.loc 6 0),(11,.ptr id7 0)],[(6,[Zi true [],Zw true []])],a6⟩∧HP a6 [.arr a4 1 true (List.map eI64 p.2.1),.arr a3 4 true (List.map Zj p.2.2),.cel id7 [a4,a3,bv p.1]])|(.inr p)=>e=.ret∧∃ xs,resL s i23.res=some xs∧ZaA xs=.tup [.agg [Zi false p.1.Periods,Zw false p.1.Uses],iv p.2]) ?_ N _ am _ aa ⟨(.p (.sl 1 true [])),(.p (.sl 4 true [])),H8,kr,(HP.pick (HP.nilArr (HP.nilArr hH 4 true) 1 true) [0,1,2] rfl)⟩).mono ?_)
 ·clear h aa
  rintro ⟨i12,b13,aw,av⟩ o s h hR
  obtain ⟨a9,a7,al,rfl,hH⟩:=hR
  replace hH:HP _ [.arr a9 1 true (List.map eI64 aw),.arr a7 4 true (List.map Zj av),.cel id7 [a9,a7,bv b13]]:=hH
  have hfa9:=ZaB (HP.get hH 0 rfl)
  have aE:=ZaB (HP.get hH 1 rfl)
  replace h:Zey N a0_ a1_ a2_ i12 b13 aw av=some o:=h
  unfold Zey at h
  refine sq (rg Za.f (tq (sq (it h (fun au h=>?_) (fun au h=>?_)))))
  ·refine sk (tq (kq (sq (bk (sq ?_)))))
   obtain ⟨a5,ab,h⟩:=bs h
   refine rg (Za.u 0 (Zo (ys:=[ZX false a2_,iv i12]) (h:=Zn Zae ab)) (Za.u 0 (ZD (sz:=10) (off:=0) (cs:=[.int .i64 a5.Id,.int .i64 a5.Talker,.int .i64 a5.Listener,.int .i64 a5.Class,.int .i64 a5.Size,.int .i64 a5.Period,.int .i64 a5.Bucket.Burst,.int .i64 a5.Bucket.Rate,.int .i64 a5.Deadline,.sl 1 false (List.map (eSl 1 eI64) a5.Routes)]) (r:=.agg (Zf a5)) Zae ab) Za.f)) (tq (sq (sq (rg Za.f (tq (it h (fun ar h=>?_) (fun ar h=>?_)))))))
   ·refine kq (xq (tx (bx (tq (kq (rg Za.f ?_))))))
    obtain rfl:=Zb h
    exact ⟨_,rfl,⟨a9,a7,al,kr,(HP.pick hH [0,1,2] rfl)⟩⟩
   refine sk (tq (kq (sq ?_)))
   obtain ⟨a8,ao,h⟩:=bs h
   have hl_a9:=HP.get hH 0 rfl
   have aA:=HP.get hH 1 rfl
   obtain ⟨aj,ai,aD,ad,af⟩:=ZfQ N (Z6.mk (Zd.mk aw av) b13) a0_ a1_ a5  id7 a9 a7 al (HP.now (HP.pick hH [2,0,1] rfl)) a8 ao
   replace hH:HP _ [.cel id7 [aj,ai,bv a8.2.late],.arr aj 1 true (List.map eI64 a8.2.Problem.Periods),.arr ai 4 true (List.map Zj a8.2.Problem.Uses)]:=HP.callee (fp:=[.cel id7 [a9,a7,bv b13],.arr a9 1 true (List.map eI64 aw),.arr a7 4 true (List.map Zj av)]) (rest:=[]) (HP.pick hH [2,0,1] rfl) af
   have aC:=ZaB (HP.get hH 1 rfl)
   have aB:=ZaB (HP.get hH 2 rfl)
   refine rg (Za.v 3 (Zju (H:=al) (ys:=[.ptr id7 0,.agg (Zc a0_),.agg (Zg a1_),.agg (Zf a5)]) kr kr [[],[],[],[]] (ZdA (Zej rfl) (ZdA (Zej rfl) (ZdA (Zej rfl) (ZdA (Zej rfl) passL_nil')))) ad) Za.f) (tq (sq (rg Za.f (tq (it h (fun aq h=>?_) (fun aq h=>?_))))))
   ·refine sq (rg Za.f ?_)
    replace hH:HP _ []:=HP.pick hH [] rfl
    refine tq (rt (br (tr ?_)))
    obtain rfl:=Zb h
    exact ⟨_,rfl,rfl,Zu kr⟩
   refine sk (bn (tq (kq (rg Za.f ?_))))
   obtain rfl:=Zb h
   exact ⟨_,rfl,⟨aj,ai,aD,kr,(HP.pick hH [1,2,0] rfl)⟩⟩
  refine kq (xq (tx ?_))
  obtain rfl:=Zb h
  exact ⟨_,rfl,rfl,⟨a9,a7,al,kr,(HP.pick hH [0,1,2] rfl)⟩⟩
 rintro e s hq
 rcases am with a2|aG
 ·dsimp only at h hq
  obtain ⟨rfl,hR⟩:=hq
  obtain ⟨a4,a3,a6,rfl,hH⟩:=hR
  replace hH:HP _ [.arr a4 1 true (List.map eI64 a2.2.1),.arr a3 4 true (List.map Zj a2.2.2),.cel id7 [a4,a3,bv a2.1]]:=hH
  have a1:=ZaB (HP.get hH 0 rfl)
  have a0:=ZaB (HP.get hH 1 rfl)
  refine bx (tq (sq (sq ?_)))
  obtain ⟨az,an,h⟩:=bs h
  have ay:=HP.get hH 0 rfl
  have ax:=HP.get hH 1 rfl
  obtain ⟨ak,ac,ae⟩:=Ze6 N (Z6.mk (Zd.mk a2.2.1 a2.2.2) a2.1)  id7 a4 a3 a6 (HP.now (HP.pick hH [2,0,1] rfl)) az an
  replace hH:HP _ [.cel id7 [a4,a3,bv a2.1],.arr a4 1 true (List.map eI64 a2.2.1),.arr a3 4 true (List.map Zj a2.2.2)]:=HP.callee (fp:=[.cel id7 [a4,a3,bv a2.1],.arr a4 1 true (List.map eI64 a2.2.1),.arr a3 4 true (List.map Zj a2.2.2)]) (rest:=[]) (HP.pick hH [2,0,1] rfl) ae
  refine rg (Za.v 0 (Zju (H:=a6) (ys:=[.ptr id7 0]) kr kr [[]] (ZdA (Zej rfl) passL_nil') ac) Za.f) (tq (sq (rg Za.f (tq (it h (fun ap h=>?_) (fun ap h=>?_))))))
  ·refine sq (rg Za.f ?_)
   replace hH:HP _ []:=HP.pick hH [] rfl
   refine tq (rt (tr ?_))
   obtain rfl:=Zb h
   exact Zu kr
  refine sk (tq (kq (sq ?_)))
  have ag:=HP.get hH 0 rfl
  refine rgS ⟨[(6,.loc 6 0),(7,iv 0)],[(6,[a4,a3])],ak⟩ (Za.u 1 (Zm (H:=ak) (id:=id7) (off:=0) (cs:=[a4,a3,bv a2.1]) (c:=[a4,a3]) (r:=.agg [a4,a3]) (by cases a1<;>cases a0<;>kernel_rfl) (by cases a1<;>cases a0<;>kernel_rfl) ag (by cases a1<;>cases a0<;>kernel_rfl) (by cases a1<;>cases a0<;>kernel_rfl) (by cases a1<;>cases a0<;>kernel_rfl)) (Za.f (h:=(by cases a1<;>cases a0<;>kernel_rfl)))) (by cases a1<;>cases a0<;>kernel_rfl) ?_
  replace hH:HP _ [.arr a4 1 true (List.map eI64 a2.2.1),.arr a3 4 true (List.map Zj a2.2.2)]:=HP.pick hH [1,2] rfl
  refine tq (rt ?_)
  obtain rfl:=Zb h
  exact ZfL (H:=ak) (ys:=[.agg [a4,a3],iv 0]) (xs:=[.agg [.p (.sl 1 false (List.map eI64 a2.2.1)),.p (.sl 4 false (List.map Zj a2.2.2))],iv 0]) (by cases a1<;>cases a0<;>kernel_rfl) (by cases a1<;>cases a0<;>kernel_rfl) (Zbf (Zkr (ZhB (HP.pure (k:=0) (frz:=true) eI64 hH rfl).1 (ZhB (HP.pure (k:=1) (frz:=true) Zj hH rfl).1 Zks))) (Zbf rfl ZcL)) kr
 dsimp only at h hq
 obtain ⟨rfl,hq⟩:=hq
 refine br (tr ?_)
 obtain rfl:=Zb h
 exact hq
theorem ZaM (N:Nat)(a0_:(List Zt))(r:Zd×Int)(h:ZbD N a0_=some r):PCall Try.prog 25 [ZX false a0_] (.tup [.agg [Zi false r.1.Periods,Zw false r.1.Uses],iv r.2]):=by
 unfold ZbD at h
 have hH:HP ([]:List HO) []:=trivial
 refine ZE Zxh rfl rfl (Zq _ _ _ ?_) rfl
 refine sq (rg Za.f (tq (sq ?_)))
 obtain ⟨r1,hr1,h⟩:=bs h
 obtain ⟨r2,hr2,h⟩:=bs h
 refine rg (Za.v 0 (Zp (hc:=Zfp N  r1 hr1)) (Za.v 2 (Zp (hc:=ZfR N r1 (ZW.mk 100 2 10 8000) a0_ r2 hr2)) Za.f)) (tq (rt ?_))
 obtain rfl:=Zb h
 exact Zu kr
theorem ZeV (N:Nat)(r:Bool)(h:Ze8 N=some r):PCall Try.prog 15 [] (bv r):=by
 unfold Ze8 at h
 have hH:HP ([]:List HO) []:=trivial
 refine ZE Zxo rfl rfl (Zq _ _ _ ?_) rfl
 refine sq (rg Za.f (tq (sq ?_)))
 obtain ⟨r1,hr1,h⟩:=bs h
 obtain ⟨r2,hr2,h⟩:=bs h
 refine rg (Za.v 0 (Zp (hc:=ZO N 1 20 10000 r1 hr1)) (Za.v 1 (Zp (hc:=ZaM N ([r1]) r2 hr2)) Za.f)) (tq (sq ?_))
 obtain ⟨r3,hr3,h⟩:=bs h
 obtain ⟨r4,hr4,h⟩:=bs h
 refine rg (Za.v 0 (Zp (hc:=ZO N 1 8 10000 r3 hr3)) (Za.v 1 (Zp (hc:=ZaM N ([r3]) r4 hr4)) Za.f)) (tq (sq ?_))
 obtain ⟨r5,hr5,h⟩:=bs h
 obtain ⟨r6,hr6,h⟩:=bs h
 refine rg (Za.v 0 (Zp (hc:=ZO N 1 20 1718 r5 hr5)) (Za.v 1 (Zp (hc:=ZaM N ([r5]) r6 hr6)) Za.f)) (tq (sq ?_))
 obtain ⟨r7,hr7,h⟩:=bs h
 obtain ⟨r8,hr8,h⟩:=bs h
 obtain ⟨r9,hr9,h⟩:=bs h
 refine rg (Za.v 0 (Zp (hc:=ZO N 1 20 10000 r7 hr7)) (Za.v 0 (Zp (hc:=ZO N 2 30 10000 r8 hr8)) (Za.v 1 (Zp (hc:=ZaM N ([r7,r8]) r9 hr9)) Za.f))) (tq (sq ?_))
 obtain ⟨bc,ak,h⟩:=bs h
 obtain ⟨bb,aj,h⟩:=bs h
 obtain ⟨a0,ai,h⟩:=bs h
 refine rg (Za.v 0 (Zp (hc:=ZO N 1 40 10000 bc ak)) (Za.v 0 (Zp (hc:=ZO N 2 40 10000 bb aj)) (Za.v 1 (Zp (hc:=ZaM N ([bc,bb]) a0 ai)) Za.f))) (tq (sq ?_))
 obtain ⟨a8,ag,h⟩:=bs h
 refine rg (Za.v 0 (Zp (hc:=ZaM N ([]) a8 ag)) Za.f) (tq (sq ?_))
 obtain ⟨a1,af,h⟩:=bs h
 refine rg (Za.v 1 (Zp (hc:=ZdP N r9.1 a1 af)) Za.f) (tq (sq ?_))
 obtain ⟨a2,ae,h⟩:=bs h
 refine rg (Za.v 1 (Zp (hc:=ZdP N a8.1 a2 ae)) Za.f) (tq (sq (rg Za.f (tq (sq (sq ?_))))))
 obtain ⟨bi,hj,h⟩:=bs h
 refine rgR (fun s=>s=⟨[(4,iv r4.2),(6,iv r6.2),(7,.loc 7 0),(9,.loc 9 0),(13,iv a1.1),(15,iv a2.1),(97,bv bi)],[(7,(Ze r9.1)),(9,(Ze a0.1))],[]⟩) ?_ ?_
 ·clear h
  rcases Zz hj with ⟨aY,hj⟩|⟨aX,hj⟩
  ·obtain rfl:=Zb hj
   exact (EP.u 1 (Zh (c:=(r2.2 != 0)) (h:=aY)) (EP.f kr))
  refine (EP.u 1 (Zh (c:=(r2.2 != 0)) (h:=aX)) ?_)
  rcases Zz hj with ⟨aW,hj⟩|⟨aV,hj⟩
  ·obtain rfl:=Zb hj
   exact (EP.u 2 (Zh (c:=(r9.2 != 0)) (h:=aW)) (EP.f kr))
  refine (EP.u 2 (Zh (c:=(r9.2 != 0)) (h:=aV)) ?_)
  rcases Zz hj with ⟨aU,hj⟩|⟨aT,hj⟩
  ·obtain rfl:=Zb hj
   exact (EP.u 3 (Zh (c:=(a0.2 != 0)) (h:=aU)) (EP.f kr))
  refine (EP.u 3 (Zh (c:=(a0.2 != 0)) (h:=aT)) ?_)
  rcases Zz hj with ⟨aS,hj⟩|⟨aR,hj⟩
  ·obtain rfl:=Zb hj
   exact (EP.u 3 (Zh (c:=(a8.2 != 0)) (h:=aS)) (EP.f kr))
  refine (EP.u 3 (Zh (c:=(a8.2 != 0)) (h:=aR)) ?_)
  rcases Zz hj with ⟨aQ,hj⟩|⟨aM,hj⟩
  ·obtain rfl:=Zb hj
   exact (EP.u 3 (Zh (c:=(a1.2 != 0)) (h:=aQ)) (EP.f kr))
  refine (EP.u 3 (Zh (c:=(a1.2 != 0)) (h:=aM)) ?_)
  rcases Zz hj with ⟨aL,hj⟩|⟨aK,hj⟩
  ·obtain rfl:=Zb hj
   exact (EP.u 3 (Zh (c:=(a2.2 != 0)) (h:=aL)) (EP.f kr))
  refine (EP.u 3 (Zh (c:=(a2.2 != 0)) (h:=aK)) ?_)
  obtain ⟨be,ad,hj⟩:=bs hj
  obtain rfl:=Zb hj
  exact (EP.v 4 (Zp (hc:=Zh3 N r2.1 (Zd.mk ([20]) ([(Zx.mk 0 0 0 8),(Zx.mk 0 2 8 9)])) be ad)) (EP.f kr))
 clear hj
 rintro s hR
 obtain rfl:=hR
 refine tq (it h (fun aJ h=>?_) (fun aJ h=>?_))
 ·refine sq (rg Za.f (tq (rt (tr ?_))))
  obtain rfl:=Zb h
  exact Zu kr
 refine sk (tq (kq (sq ?_)))
 obtain ⟨aa,hj,h⟩:=bs h
 refine rgR (fun s=>s=⟨[(4,iv r4.2),(6,iv r6.2),(9,.loc 9 0),(13,iv a1.1),(15,iv a2.1),(18,bv aa)],[(9,(Ze a0.1))],[]⟩) ?_ ?_
 ·clear h
  obtain ⟨ba,a7,hj⟩:=bs hj
  rcases Zz hj with ⟨aI,hj⟩|⟨aB,hj⟩
  ·refine (EP.h 1 (Zac kr (Zan N r9.1 0 8 ba a7) aI) ?_)
   obtain ⟨b2,a6,hj⟩:=bs hj
   rcases Zz hj with ⟨aG,hj⟩|⟨aC,hj⟩
   ·refine (EP.h 2 (Zac kr (Zan N r9.1 0 9 b2 a6) aG) ?_)
    obtain ⟨b1,a5,hj⟩:=bs hj
    rcases Zz hj with ⟨aE,hj⟩|⟨aD,hj⟩
    ·refine (EP.h 3 (Zac kr (Zan N r9.1 0 10 b1 a5) aE) ?_)
     obtain ⟨bd,ac,hj⟩:=bs hj
     obtain rfl:=Zb hj
     exact (EP.v 3 (Zp (hc:=Zan N r9.1 0 2 bd ac)) (EP.f kr))
    obtain rfl:=Zb hj
    exact (EP.h 3 (Zac kr (Zan N r9.1 0 10 b1 a5) aD) (EP.f kr))
   obtain rfl:=Zb hj
   exact (EP.h 2 (Zac kr (Zan N r9.1 0 9 b2 a6) aC) (EP.f kr))
  obtain rfl:=Zb hj
  exact (EP.h 1 (Zac kr (Zan N r9.1 0 8 ba a7) aB) (EP.f kr))
 clear hj
 rintro s hR
 obtain rfl:=hR
 refine tq (sq ?_)
 obtain ⟨bf,hj,h⟩:=bs h
 refine rgR (fun s=>s=⟨[(0,bv bf)],[],[]⟩) ?_ ?_
 ·clear h
  rcases Zz hj with ⟨aA,hj⟩|⟨al,hj⟩
  ·refine (EP.u 1 (Zh (c:=(r4.2==341)) (h:=aA)) ?_)
   rcases Zz hj with ⟨az,hj⟩|⟨am,hj⟩
   ·refine (EP.u 2 (Zh (c:=(r6.2==342)) (h:=az)) ?_)
    rcases Zz hj with ⟨ay,hj⟩|⟨an,hj⟩
    ·refine (EP.u 2 (Zh (c:=aa) (h:=ay)) ?_)
     obtain ⟨b0,a4,hj⟩:=bs hj
     rcases Zz hj with ⟨ax,hj⟩|⟨ao,hj⟩
     ·refine (EP.h 4 (Zac kr (Zaq N a0.1 ([0,9]) b0 a4) ax) ?_)
      obtain ⟨a9,ab,hj⟩:=bs hj
      refine (EP.v 4 (Zp (hc:=Zaq N a0.1 ([0,8]) a9 ab)) ?_)
      rcases Zz hj with ⟨aw,hj⟩|⟨ap,hj⟩
      ·refine (EP.u 0 (Zh (c:=(!a9)) (h:=aw)) ?_)
       obtain ⟨aZ,a3,hj⟩:=bs hj
       rcases Zz hj with ⟨av,hj⟩|⟨aq,hj⟩
       ·refine (EP.h 4 (Zac kr (Zaq N a0.1 ([35,4]) aZ a3) av) ?_)
        rcases Zz hj with ⟨au,hj⟩|⟨ar,hj⟩
        ·obtain rfl:=Zb hj
         exact (EP.u 3 (Zh (c:=(a1.1==60)) (h:=au)) (EP.f kr))
        obtain rfl:=Zb hj
        exact (EP.u 3 (Zh (c:=(a1.1==60)) (h:=ar)) (EP.f kr))
       obtain rfl:=Zb hj
       exact (EP.h 4 (Zac kr (Zaq N a0.1 ([35,4]) aZ a3) aq) (EP.f kr))
      obtain rfl:=Zb hj
      exact (EP.u 0 (Zh (c:=(!a9)) (h:=ap)) (EP.f kr))
     obtain rfl:=Zb hj
     exact (EP.h 4 (Zac kr (Zaq N a0.1 ([0,9]) b0 a4) ao) (EP.f kr))
    obtain rfl:=Zb hj
    exact (EP.u 2 (Zh (c:=aa) (h:=an)) (EP.f kr))
   obtain rfl:=Zb hj
   exact (EP.u 2 (Zh (c:=(r6.2==342)) (h:=am)) (EP.f kr))
  obtain rfl:=Zb hj
  exact (EP.u 1 (Zh (c:=(r4.2==341)) (h:=al)) (EP.f kr))
 clear hj
 rintro s hR
 obtain rfl:=hR
 refine tq (rt ?_)
 obtain rfl:=Zb h
 exact Zu kr
end Go.Sh

