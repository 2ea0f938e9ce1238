/- Part of the proof. -/
import Derived.Test.YtlajapegdomhfaaSynthKnownOk1
set_option linter.all false
namespace Go.Sh
open Go Go.Eng Go.Proofs
set_option maxRecDepth 100000
set_option maxHeartbeats 4000000
attribute [local irreducible] vc ev Zdq opsD opsF ZfR upd updH updO
theorem ZeS (N:Nat)(a0_:Z8)(r:Int)(h:ZeA N a0_=some r):PCall Try.prog 32 [.agg (ZP a0_)] (iv r):=by
 unfold ZeA at h
 have hH  := hp0
 refine Zal ZAv rfl rfl (Z5 _ _ _ ?_) rfl
 refine sq (rg ZO.f (tq (sq (sq (rgX ⟨[(1,.loc 1 0),(23,bv ((decide (a0_.Nodes<2))||((decide (a0_.Nodes>12))||(((List.length a0_.Station:Nat):Int)!=a0_.Nodes))))],[(1,(ZP a0_))],[]⟩ ?_ ?_)))))
 ·rcases Bool.eq_false_or_eq_true (decide (a0_.Nodes<2)) with hc1|hc2
  ·exact (EP.u 2 (ZX (c:=(decide (a0_.Nodes<2))) (h:=hc1)) (EP.f (by simp only [hc1];kernel_rfl)))
  refine (EP.u 2 (ZX (c:=(decide (a0_.Nodes<2))) (h:=hc2)) ?_)
  rcases Bool.eq_false_or_eq_true (decide (a0_.Nodes>12)) with hc3|hc4
  ·exact (EP.u 3 (ZX (c:=(decide (a0_.Nodes>12))) (h:=hc3)) (EP.f (by simp only [hc2,hc3];kernel_rfl)))
  exact (EP.u 3 (ZX (c:=(decide (a0_.Nodes>12))) (h:=hc4)) (EP.u 4 (Z0 (ys:=[s_eB false a0_.Station]) (h:=Z6 eB)) (EP.f (by simp only [hc2,hc4];kernel_rfl))))
 refine tq (it h (λhc5 h=>?_) (λhc5 h=>?_))
 ·refine sq (rg ZO.f (tq (rt (tr ?_))))
  cases h
  exact Zab kr
 refine sk (tq (kq (sq (sq ?_))))
 obtain ⟨j9,hj,h⟩:=bs h
 refine rgR (λs=>s=⟨[(1,.loc 1 0),(32,bv j9)],[(1,(ZP a0_))],[]⟩) ?_ ?_
 ·clear h
  refine (EP.u 2 (Z0 (ys:=[ZZ false a0_.Links]) (h:=Z6 ZaB)) ?_)
  rcases Zau hj with ⟨hc6,hj⟩|⟨hc7,hj⟩
  ·obtain rfl:=Zaa hj
   exact (EP.u 0 (ZX (c:=(decide (((List.length a0_.Links:Nat):Int)>24))) (h:=hc6)) (EP.f kr))
  refine (EP.u 0 (ZX (c:=(decide (((List.length a0_.Links:Nat):Int)>24))) (h:=hc7)) ?_)
  obtain ⟨r8,hr8,hj⟩:=bs hj
  obtain rfl:=Zaa hj
  exact (EP.v 2 (Z7 (hc:=Zjq N a0_ r8 hr8)) (EP.f kr))
 clear hj
 rintro s hR
 obtain rfl:=hR
 refine tq (it h (λbI h=>?_) (λbI h=>?_))
 ·refine sq (rg ZO.f (tq (rt (tr ?_))))
  cases h
  exact Zab kr
 refine sk (tq (kq (sq ?_)))
 obtain ⟨bV,bG,h⟩:=bs h
 obtain ⟨bw,bL,bJ,bK,be,hH⟩:=HP.make eI64 hH bG
 replace hH:HP _ [.arr bw 1 false (List.map eI64 bV)]:=hH
 have ae:=Za5 (HP.get hH 0 rfl)
 refine rgS ⟨[(1,.loc 1 0),(3,bw)],[(1,(ZP a0_))],bL⟩ (ZO.h 2 (Zgw (H:=[]) (zero:=[.int .i64 0]) (bytes:=8) kr kr kr bJ bK be) ZO.f) (by cases ae<;>kernel_rfl) (tq (sq (sq (rgS ⟨[(1,.loc 1 0),(3,bw),(37,ZZ false a0_.Links),(38,iv ((List.length a0_.Links:Nat):Int)),(39,iv 0)],[(1,(ZP a0_))],bL⟩ (ZO.u 2 (Z0 (ys:=[ZZ false a0_.Links]) (h:=Z6 ZaB)) ZO.f) (by cases ae<;>kernel_rfl) (tq (bk ?_))))))
 obtain ⟨aj,ay,h⟩:=bs h
 refine ZaG ((Zat (λ(x:Int×(List Int)) s=>∃ (a6:AV) (aG:List HO),s=⟨[(1,.loc 1 0),(3,a6),(37,ZZ false a0_.Links),(38,iv ((List.length a0_.Links:Nat):Int)),(39,iv x.1)],[(1,(ZP a0_))],aG⟩/\HP aG [.arr a6 1 false (List.map eI64 x.2)]) (λx:Int×(List Int)=>ZdB N a0_ x.1 x.2) (λ(p:(List Int)) e s=>e=.exit 0/\(∃ (a3:AV) (a4:List HO),s=⟨[(1,.loc 1 0),(3,a3)],[(1,(ZP a0_))],a4⟩/\HP a4 [.arr a3 1 false (List.map eI64 p)])) ?_ N _ aj _ ay ⟨bw,bL,(by show _=_;cases ae<;>kernel_rfl),(HP.pick hH [0] rfl)⟩).mono ?_)
 ·clear h ay
  rintro ⟨i16,bm⟩ o s h hR
  obtain ⟨a6,aG,rfl,hH⟩:=hR
  replace hH:HP _ [.arr a6 1 false (List.map eI64 bm)]:=hH
  have a1:=Za5 (HP.get hH 0 rfl)
  replace h:ZdB N a0_ i16 bm=some o:=h
  unfold ZdB at h
  refine sq (rgS ⟨[(1,.loc 1 0),(3,a6),(37,ZZ false a0_.Links),(38,iv ((List.length a0_.Links:Nat):Int)),(39,iv i16),(40,bv (decide (i16<((List.length a0_.Links:Nat):Int))))],[(1,(ZP a0_))],aG⟩ ZO.f (by cases a1<;>kernel_rfl) (tq (sq (it h (λbd h=>?_) (λbd h=>?_)))))
  ·refine sk (tq (kq (sq (bk (sq ?_)))))
   obtain ⟨a2,aD,h⟩:=bs h
   refine rgS ⟨[(1,.loc 1 0),(3,a6),(5,.loc 5 0),(37,ZZ false a0_.Links),(38,iv ((List.length a0_.Links:Nat):Int)),(39,iv i16)],[(1,(ZP a0_)),(5,(Zbn a2))],aG⟩ (ZO.u 0 (Z0 (ys:=[ZZ false a0_.Links,iv i16]) (h:=ZY ZaB aD)) (ZO.u 0 (Zae (sz:=4) (off:=0) (cs:=[.int .i64 a2.A,.int .i64 a2.B,.int .i64 a2.Per,.int .i64 a2.Delay]) (r:=.agg (Zbn a2)) ZaB aD) (ZO.f (h:=(by cases a1<;>kernel_rfl))))) (by cases a1<;>kernel_rfl) (tq (sq ?_))
   obtain ⟨a7,aC,h⟩:=bs h
   obtain ⟨bU,bC,_,bt,aQ,bu,ar⟩:=HP.elem (k:=0) (a:=a6) (sz:=1) (frz:=false) eI64 hH rfl aC
   obtain ⟨bX,aB,h⟩:=bs h
   obtain ⟨bT,bB,_,ap,aM,aq,ao⟩:=HP.elem (k:=0) (a:=a6) (sz:=1) (frz:=false) eI64 hH rfl aB
   obtain ⟨aZ,bi,hH⟩:=HP.setRow (k:=0) (off:=0) (cs:=[iv (w64 (a7+1))]) (ps:=[.int .i64 (w64 (a7+1))]) (e':=(w64 (a7+1))) eI64 hH rfl aq aM (ap rfl) aB kr kr
   replace hH:HP _ [.arr a6 1 false (List.map eI64 (List.set bm (Int.toNat a2.A) (w64 (a7+1))))]:=hH
   refine rgS ⟨[(1,.loc 1 0),(3,a6),(5,.loc 5 0),(37,ZZ false a0_.Links),(38,iv ((List.length a0_.Links:Nat):Int)),(39,iv i16)],[(1,(ZP a0_)),(5,(Zbn a2))],aZ⟩ (ZO.u 3 (Z0 (ys:=[a6,iv a2.A]) (by cases a1<;>kernel_rfl) (ar .i64)) (ZO.u 0 (Zct (H:=aG) (off:=0) (cs:=[.int .i64 a7]) (r:=iv a7) eI64 aC aQ) (ZO.u 1 (Z0 (ys:=[a6,iv a2.A]) (by cases a1<;>kernel_rfl) (ao .i64)) (ZO.o 0 (Zam (H:=aG) (v:=iv (w64 (a7+1))) (hw:=bi)) ZO.f)))) (by cases a1<;>kernel_rfl) (tq ?_)
   obtain ⟨a9,aA,h⟩:=bs h
   obtain ⟨bS,bA,_,bp,aL,bq,an⟩:=HP.elem (k:=0) (a:=a6) (sz:=1) (frz:=false) eI64 hH rfl aA
   obtain ⟨bW,az,h⟩:=bs h
   obtain ⟨bR,bz,_,al,aK,am,ak⟩:=HP.elem (k:=0) (a:=a6) (sz:=1) (frz:=false) eI64 hH rfl az
   obtain ⟨aY,bf,hH⟩:=HP.setRow (k:=0) (off:=0) (cs:=[iv (w64 (a9+1))]) (ps:=[.int .i64 (w64 (a9+1))]) (e':=(w64 (a9+1))) eI64 hH rfl am aK (al rfl) az kr kr
   replace hH:HP _ [.arr a6 1 false (List.map eI64 (List.set (List.set bm (Int.toNat a2.A) (w64 (a7+1))) (Int.toNat a2.B) (w64 (a9+1))))]:=hH
   refine rgS ⟨[(1,.loc 1 0),(3,a6),(37,ZZ false a0_.Links),(38,iv ((List.length a0_.Links:Nat):Int)),(39,iv i16)],[(1,(ZP a0_))],aY⟩ (ZO.u 3 (Z0 (ys:=[a6,iv a2.B]) (by cases a1<;>kernel_rfl) (an .i64)) (ZO.u 0 (Zct (H:=aZ) (off:=0) (cs:=[.int .i64 a9]) (r:=iv a9) eI64 aA aL) (ZO.u 1 (Z0 (ys:=[a6,iv a2.B]) (by cases a1<;>kernel_rfl) (ak .i64)) (ZO.o 0 (Zam (H:=aZ) (v:=iv (w64 (a9+1))) (hw:=bf)) ZO.f)))) (by cases a1<;>kernel_rfl) (bn (tq (rgS ⟨[(1,.loc 1 0),(3,a6),(37,ZZ false a0_.Links),(38,iv ((List.length a0_.Links:Nat):Int)),(39,iv (w64 (i16+1)))],[(1,(ZP a0_))],aY⟩ ZO.f (by cases a1<;>kernel_rfl) ?_)))
   cases h
   exact ⟨_,rfl,⟨a6,aY,(by show _=_;cases a1<;>kernel_rfl),(HP.pick hH [0] rfl)⟩⟩
  refine kq (xq (tx ?_))
  cases h
  exact ⟨_,rfl,rfl,⟨a6,aG,(by show _=_;cases a1<;>kernel_rfl),(HP.pick hH [0] rfl)⟩⟩
 rintro e s hq
 obtain ⟨rfl,hR⟩:=hq
 obtain ⟨a3,a4,rfl,hH⟩:=hR
 replace hH:HP _ [.arr a3 1 false (List.map eI64 aj)]:=hH
 have a0:=Za5 (HP.get hH 0 rfl)
 refine bx (tq (sq (sq (rgS ⟨[(1,.loc 1 0),(3,a3),(59,s_eB false a0_.Station),(60,iv ((List.length a0_.Station:Nat):Int)),(61,iv 0)],[(1,(ZP a0_))],a4⟩ (ZO.u 2 (Z0 (ys:=[s_eB false a0_.Station]) (h:=Z6 eB)) ZO.f) (by cases a0<;>kernel_rfl) (tq (bk ?_))))))
 obtain ⟨ax,ab,h⟩:=bs h
 refine ZaG ((Zat (λ(x:Int) s=>s=⟨[(1,.loc 1 0),(3,a3),(59,s_eB false a0_.Station),(60,iv ((List.length a0_.Station:Nat):Int)),(61,iv x)],[(1,(ZP a0_))],a4⟩) (λx:Int=>ZdA N a0_ aj x) (λ(p:(Unit)⊕(Int)) e s=>match p with|(.inl p)=>e=.exit 2/\(s=⟨[(1,.loc 1 0)],[(1,(ZP a0_))],a4⟩)|(.inr p)=>e=.ret/\∃ xs,resL s i32.res=some xs/\Zbd xs=iv p) ?_ N _ ax _ ab (by show _=_;cases a0<;>kernel_rfl)).mono ?_)
 ·clear h ab
  rintro a5 o s h hR
  obtain rfl:=hR
  replace h:ZdA N a0_ aj a5=some o:=h
  unfold ZdA at h
  refine sq (rgS ⟨[(1,.loc 1 0),(3,a3),(59,s_eB false a0_.Station),(60,iv ((List.length a0_.Station:Nat):Int)),(61,iv a5),(62,bv (decide (a5<((List.length a0_.Station:Nat):Int))))],[(1,(ZP a0_))],a4⟩ ZO.f (by cases a0<;>kernel_rfl) (tq (sq (it h (λaX h=>?_) (λaX h=>?_)))))
  ·refine sk (tq (kq (sq (bk (sq ?_)))))
   obtain ⟨a8,ai,h⟩:=bs h
   refine rgS ⟨[(1,.loc 1 0),(3,a3),(6,iv a5),(7,bv a8),(59,s_eB false a0_.Station),(60,iv ((List.length a0_.Station:Nat):Int)),(61,iv a5)],[(1,(ZP a0_))],a4⟩ (ZO.u 1 (Z0 (ys:=[s_eB false a0_.Station,iv a5]) (h:=ZY eB ai)) (ZO.u 0 (Zae (sz:=1) (off:=0) (cs:=[.bool a8]) (r:=bv a8) eB ai) ZO.f)) (by cases a0<;>kernel_rfl) (tq (sq ?_))
   obtain ⟨b1,hj,h⟩:=bs h
   refine rgR (λs=>s=⟨[(1,.loc 1 0),(3,a3),(59,s_eB false a0_.Station),(60,iv ((List.length a0_.Station:Nat):Int)),(61,iv a5),(80,bv b1)],[(1,(ZP a0_))],a4⟩) ?_ ?_
   ·clear h
    rcases Zau hj with ⟨aW,hj⟩|⟨aT,hj⟩
    ·refine (EP.u 0 (ZX (c:=a8) (h:=aW)) ?_)
     obtain ⟨aa,ag,hj⟩:=bs hj
     obtain ⟨bE,bl,_,bb,av,bc,ad⟩:=HP.elem (k:=0) (a:=a3) (sz:=1) (frz:=false) eI64 hH rfl ag
     refine (EP.u 3 (Z0 (ys:=[a3,iv a5]) (by cases a0<;>kernel_rfl) (ad .i64)) (EP.u 0 (Zct (H:=a4) (off:=0) (cs:=[.int .i64 aa]) (r:=iv aa) eI64 ag av) ?_))
     rcases Zau hj with ⟨aV,hj⟩|⟨aU,hj⟩
     ·obtain rfl:=Zaa hj
      exact (EP.u 0 (ZX (c:=(decide (aa<1))) (h:=aV)) (EP.f (by show _=_;cases a0<;>kernel_rfl)))
     refine (EP.u 0 (ZX (c:=(decide (aa<1))) (h:=aU)) ?_)
     obtain ⟨aE,af,hj⟩:=bs hj
     obtain ⟨bD,bj,_,b2,au,ba,ac⟩:=HP.elem (k:=0) (a:=a3) (sz:=1) (frz:=false) eI64 hH rfl af
     obtain rfl:=Zaa hj
     exact (EP.u 3 (Z0 (ys:=[a3,iv a5]) (by cases a0<;>kernel_rfl) (ac .i64)) (EP.u 0 (Zct (H:=a4) (off:=0) (cs:=[.int .i64 aE]) (r:=iv aE) eI64 af au) (EP.f (by show _=_;cases a0<;>kernel_rfl))))
    obtain rfl:=Zaa hj
    exact (EP.u 0 (ZX (c:=a8) (h:=aT)) (EP.f (by show _=_;cases a0<;>kernel_rfl)))
   clear hj
   rintro s hR
   obtain rfl:=hR
   refine tq (it h (λaS h=>?_) (λaS h=>?_))
   ·refine sq (rgS ⟨[(2,iv 260)],[],a4⟩ ZO.f kr ?_)
    replace hH:HP _ []:=HP.pick hH [] rfl
    refine tq (rt (br (tr ?_)))
    cases h
    exact ⟨_,rfl,rfl,Zab kr⟩
   refine sk (bn (tq (kq (rgS ⟨[(1,.loc 1 0),(3,a3),(59,s_eB false a0_.Station),(60,iv ((List.length a0_.Station:Nat):Int)),(61,iv (w64 (a5+1)))],[(1,(ZP a0_))],a4⟩ ZO.f (by cases a0<;>kernel_rfl) ?_))))
   cases h
   exact ⟨_,rfl,(by show _=_;cases a0<;>kernel_rfl)⟩
  refine kq ?_
  replace hH:HP _ []:=HP.pick hH [] rfl
  refine xq (tx ?_)
  cases h
  exact ⟨_,rfl,rfl,kr⟩
 rintro e s hq
 rcases ax with bQ|bM
 ·dsimp only at h hq
  obtain ⟨rfl,hR⟩:=hq
  obtain rfl:=hR
  replace hH:HP _ []:=HP.pick hH [] rfl
  refine bx (tq (sq (sq ?_)))
  obtain ⟨aw,aJ,h⟩:=bs h
  obtain ⟨b0,aI,h⟩:=bs h
  refine rg (ZO.v 2 (Z7 (hc:=Zjr N a0_ 0 (ZbK.mk false false false false false false false false false false false false false false false false false false false false false false false false) aw aJ)) (ZO.v 0 (Z7 (hc:=Zdm N aw false b0 aI)) ZO.f)) (tq (it h (λaR h=>?_) (λaR h=>?_)))
  ·refine sq (rg ZO.f (tq (rt (tr ?_))))
   cases h
   exact Zab kr
  refine sk (tq (kq (sq (rg ZO.f (tq (rt ?_))))))
  cases h
  exact Zab kr
 dsimp only at h hq
 obtain ⟨rfl,hq⟩:=hq
 refine br (tr ?_)
 cases h
 exact hq
theorem ZhV (N:Nat)(a0_:ZaM)(a1_:ZaM)(r:Bool×Int)(h:Ze4 N a0_ a1_=some r):PCall Try.prog 38 [.agg (ZbJ a0_),.agg (ZbJ a1_)] (.tup [bv r.1,iv r.2]):=by
 unfold Ze4 at h
 have hH  := hp0
 refine Zal ZAp rfl rfl (Z5 _ _ _ ?_) rfl
 refine sq (rg ZO.f (tq (sq (sq ?_))))
 obtain ⟨r1,hr1,h⟩:=bs h
 refine rg (ZO.v 1 (Z7 (hc:=Zdo N a0_ r1 hr1)) ZO.f) (tq (sq (rg ZO.f (tq (it h (λhc2 h=>?_) (λhc2 h=>?_))))))
 ·refine sq (rg ZO.f (tq (rt (tr ?_))))
  cases h
  exact Zab kr
 refine sk (tq (kq (sq (sq ?_))))
 obtain ⟨r3,hr3,h⟩:=bs h
 refine rg (ZO.v 1 (Z7 (hc:=Zdo N a1_ r3 hr3)) ZO.f) (tq (sq (rg ZO.f (tq (it h (λhc4 h=>?_) (λhc4 h=>?_))))))
 ·refine sq (rg ZO.f (tq (rt (tr ?_))))
  cases h
  exact Zab kr
 refine sk (tq (kq (sq ?_)))
 obtain ⟨r5,hr5,h⟩:=bs h
 refine rg (ZO.v 2 (Z7 (hc:=ZhT N a0_ a1_ r5 hr5)) ZO.f) (tq (rt ?_))
 cases h
 exact Zab kr
theorem ZhS (N:Nat)(a0_:ZaD)(c0_:(List Int))(c1_:(List Int))(k0_:Nat)(k1_:Nat)(H:List HO)(hH:HP H [.cel k0_ [ZU false c0_],.cel k1_ [ZU false c1_]])(r:Bool×Int)(h:ZdG N a0_ c0_ c1_=some r):Za4 Try.prog 77 [.agg (ZP a0_.Topo),.ptr k0_ 0,.ptr k1_ 0] H (.tup [bv r.1,iv r.2]) H:=by
 unfold ZdG at h
 refine Zbf ZzM rfl rfl rfl (Z5 _ _ _ (sq (rg ZO.f (tq (sq (sq ?_))))))
 have hlc1:=HP.get hH 0 rfl
 obtain ⟨r2,hr2,h⟩:=bs h
 refine rg (ZO.u 1 (ZW (H:=H) (id:=k0_) (off:=0) (cs:=[ZU false c0_]) (c:=[ZU false c0_]) (r:=ZU false c0_) (hl:=hlc1)) (ZO.v 0 (Z7 (hc:=ZdY N a0_ c0_ r2 hr2)) ZO.f)) (tq (it h (λhc3 h=>?_) (λhc3 h=>?_)))
 ·refine sq (rg ZO.f ?_)
  replace hH:HP _ []:=HP.pick hH [] rfl
  refine tq (rt (tr ?_))
  cases h
  exact Za0 kr kr
 refine sk (tq (kq (sq ?_)))
 obtain ⟨a9,hj,h⟩:=bs h
 refine rgR (λs=>s=⟨[(4,bv a9),(5,iv 0)],[],H⟩) ?_ ?_
 ·clear h
  have hlc4:=HP.get hH 1 rfl
  refine (EP.u 0 (ZW (H:=H) (id:=k1_) (off:=0) (cs:=[ZU false c1_]) (c:=[ZU false c1_]) (r:=ZU false c1_) (hl:=hlc4)) ?_)
  have hlc5:=HP.get hH 0 rfl
  refine (EP.u 0 (ZW (H:=H) (id:=k0_) (off:=0) (cs:=[ZU false c0_]) (c:=[ZU false c0_]) (r:=ZU false c0_) (hl:=hlc5)) ?_)
  obtain ⟨r6,hr6,hj⟩:=bs hj
  refine (EP.v 0 (Z7 (hc:=Zin N c1_ c0_ r6 hr6)) ?_)
  rcases Zau hj with ⟨hc7,hj⟩|⟨a5,hj⟩
  ·refine (EP.u 0 (ZX (c:=(!r6)) (h:=hc7)) ?_)
   have hlc8:=HP.get hH 1 rfl
   refine (EP.u 2 (ZW (H:=H) (id:=k1_) (off:=0) (cs:=[ZU false c1_]) (c:=[ZU false c1_]) (r:=ZU false c1_) (hl:=hlc8)) ?_)
   have hlc9:=HP.get hH 0 rfl
   refine (EP.u 0 (ZW (H:=H) (id:=k0_) (off:=0) (cs:=[ZU false c0_]) (c:=[ZU false c0_]) (r:=ZU false c0_) (hl:=hlc9)) ?_)
   obtain ⟨a2,a4,hj⟩:=bs hj
   refine (EP.v 0 (Z7 (hc:=ZdZ N a0_ c1_ c0_ a2 a4)) ?_)
   rcases Zau hj with ⟨a7,hj⟩|⟨a6,hj⟩
   ·refine (EP.u 0 (ZX (c:=(!a2)) (h:=a7)) ?_)
    have a1:=HP.get hH 0 rfl
    refine (EP.u 3 (ZW (H:=H) (id:=k0_) (off:=0) (cs:=[ZU false c0_]) (c:=[ZU false c0_]) (r:=ZU false c0_) (hl:=a1)) ?_)
    have a0:=HP.get hH 1 rfl
    refine (EP.u 0 (ZW (H:=H) (id:=k1_) (off:=0) (cs:=[ZU false c1_]) (c:=[ZU false c1_]) (r:=ZU false c1_) (hl:=a0)) ?_)
    obtain ⟨a8,a3,hj⟩:=bs hj
    obtain rfl:=Zaa hj
    exact (EP.v 0 (Z7 (hc:=ZdZ N a0_ c0_ c1_ a8 a3)) (EP.f kr))
   obtain rfl:=Zaa hj
   exact (EP.u 0 (ZX (c:=(!a2)) (h:=a6)) (EP.f kr))
  obtain rfl:=Zaa hj
  exact (EP.u 0 (ZX (c:=(!r6)) (h:=a5)) (EP.f kr))
 clear hj
 rintro s hR
 obtain rfl:=hR
 refine tq (rt ?_)
 cases h
 exact Za0 kr kr
theorem Zgm (N:Nat)(a0_:Z8)(a1_:(List Int))(r:Int)(h:Ze0 N a0_ a1_=some r):PCall Try.prog 85 [.agg (ZP a0_),ZU false a1_] (iv r):=by
 unfold Ze0 at h
 have hH  := hp0
 refine Zal ZzE rfl rfl (Z5 _ _ _ ?_) rfl
 refine sq (rg ZO.f (tq (sq (sq ?_))))
 obtain ⟨r1,hr1,h⟩:=bs h
 refine rg (ZO.v 1 (Z7 (hc:=ZeS N a0_ r1 hr1)) ZO.f) (tq (sq (rg ZO.f (tq (it h (λhc2 h=>?_) (λhc2 h=>?_))))))
 ·refine sq (rg ZO.f (tq (rt (tr ?_))))
  cases h
  exact Zab kr
 refine sk (tq (kq (sq (sq ?_))))
 obtain ⟨r3,hr3,h⟩:=bs h
 refine rg (ZO.v 3 (Z7 (hc:=ZdY N (ZaD.mk a0_) a1_ r3 hr3)) ZO.f) (tq (it h (λhc4 h=>?_) (λhc4 h=>?_)))
 ·refine sq (rg ZO.f (tq (rt (tr ?_))))
  cases h
  exact Zab kr
 refine sk (tq (kq (sq (rg ZO.f (tq (rt ?_))))))
 cases h
 exact Zab kr
theorem Zhh (N:Nat)(a0_:Z8)(a1_:(List Int))(a2_:ZaD->Option ((List Int)×Int))(a2_f:Nat)(a2_p a2_c:List AV)(ha2_n:(noLocL a2_p&&noLocL a2_c)=true)(its:List Zap)(ha2_:∀ (H:List HO) (x0:ZaD) (r:(List Int)×Int),HP H its->a2_ x0=some r->Zd1 Try.prog (.fn a2_f a2_p a2_c) [.agg [iv x0.Topo.Nodes,s_eB false x0.Topo.Station,ZZ false x0.Topo.Links]] H (.tup [ZU false r.1,iv r.2]) H)(H:List HO)(hH:HP H (its))(r:(List Int)×Int)(h:Zex N a0_ a1_ a2_=some r):Za4 Try.prog 89 [.agg (ZP a0_),ZU false a1_,.fn a2_f a2_p a2_c] H (.tup [ZU false r.1,iv r.2]) H:=by
 unfold Zex at h
 refine Zbf ZzA rfl (by simpa [noLocL,Zaw.noLocL,Zaw] using ha2_n) rfl (Z5 _ _ _ (sq (rg ZO.f (tq (sq (rg ZO.f (tq (sq (sq ?_)))))))))
 obtain ⟨r1,hr1,h⟩:=bs h
 refine rg (ZO.v 2 (Z7 (hc:=Zgm N a0_ a1_ r1 hr1)) ZO.f) (tq (sq (rg ZO.f (tq (it h (λhc2 h=>?_) (λhc2 h=>?_))))))
 ·refine sq (rg ZO.f (tq (rt (tr ?_))))
  cases h
  exact Za0 kr kr
 refine sk (tq (kq (sq ?_)))
 obtain ⟨r3,hr3,h⟩:=bs h
 have hvr3:=ha2_ _ (ZaD.mk a0_) _ hH hr3
 refine rg (ZO.v 3 (ZbF (H:=H) (ys:=[.agg (ZP a0_)]) (hc:=hvr3)) ZO.f) (tq (rt ?_))
 cases h
 exact Za0 kr kr
theorem ZgD (N:Nat)(a0_:ZaV)(p0_:Nat)(bc0_0_:AV)(bc0_1_:AV)(H:List HO)(hH:HP H [.cel p0_ [bc0_0_,bc0_1_,bv a0_.late],.arr bc0_0_ 1 true (List.map eI64 a0_.Problem.Periods),.arr bc0_1_ 4 true (List.map Z2 a0_.Problem.Uses)])(r:Int)(h:Zdp N a0_=some r):∃ (H':List HO),Za4 Try.prog 23 [.ptr p0_ 0] H (iv r) H'/\Fp H H' [.cel p0_ [bc0_0_,bc0_1_,bv a0_.late],.arr bc0_0_ 1 true (List.map eI64 a0_.Problem.Periods),.arr bc0_1_ 4 true (List.map Z2 a0_.Problem.Uses)] [.cel p0_ [bc0_0_,bc0_1_,bv a0_.late],.arr bc0_0_ 1 true (List.map eI64 a0_.Problem.Periods),.arr bc0_1_ 4 true (List.map Z2 a0_.Problem.Uses)]:=by
 suffices hs:∃ r' H',Za4 Try.prog 23 [.ptr p0_ 0] H r' H'/\r'=iv r/\Fp H H' [.cel p0_ [bc0_0_,bc0_1_,bv a0_.late],.arr bc0_0_ 1 true (List.map eI64 a0_.Problem.Periods),.arr bc0_1_ 4 true (List.map Z2 a0_.Problem.Uses)] [.cel p0_ [bc0_0_,bc0_1_,bv a0_.late],.arr bc0_0_ 1 true (List.map eI64 a0_.Problem.Periods),.arr bc0_1_ 4 true (List.map Z2 a0_.Problem.Uses)] by
  obtain ⟨_,H',h1,he,h2⟩:=hs
  exact ⟨H',he ▸ h1,h2⟩
 unfold Zdp at h
 replace hH:=Fp.refl hH
 have hfbc0_0_:=Za5 (Fp.get hH 1 rfl)
 have hfbc0_1_:=Za5 (Fp.get hH 2 rfl)
 refine ZiT ZAE [] (λr' H'=>r'=iv r/\Fp H H' [.cel p0_ [bc0_0_,bc0_1_,bv a0_.late],.arr bc0_0_ 1 true (List.map eI64 a0_.Problem.Periods),.arr bc0_1_ 4 true (List.map Z2 a0_.Problem.Uses)] [.cel p0_ [bc0_0_,bc0_1_,bv a0_.late],.arr bc0_0_ 1 true (List.map eI64 a0_.Problem.Periods),.arr bc0_1_ 4 true (List.map Z2 a0_.Problem.Uses)]) (λr' H' q=>by obtain ⟨e,hp⟩:=q;subst e;rfl) rfl rfl (sq (rg ZO.f (tq (sq ?_))))
 have hlc1:=Fp.get hH 0 rfl
 obtain ⟨r2,hr2,h⟩:=bs h
 obtain ⟨H3,hzH3,hzH3v,hH⟩:=Fp.frz (k:=1) (a:=bc0_0_) (sz:=1) (frz:=true) eI64 hH rfl
 replace hH:Fp _ _ _ [.cel p0_ [bc0_0_,bc0_1_,bv a0_.late],.arr bc0_0_ 1 true (List.map eI64 a0_.Problem.Periods),.arr bc0_1_ 4 true (List.map Z2 a0_.Problem.Uses)]:=hH
 refine rg (ZO.u 4 (ZW (H:=H) (id:=p0_) (off:=0) (cs:=[bc0_0_,bc0_1_,bv a0_.late]) (c:=[bc0_0_]) (r:=bc0_0_) (by cases hfbc0_0_<;>kernel_rfl) (by cases hfbc0_0_<;>kernel_rfl) hlc1 (by cases hfbc0_0_<;>kernel_rfl) (by cases hfbc0_0_<;>kernel_rfl) (by cases hfbc0_0_<;>kernel_rfl)) (ZO.v 0 (Zh0 (H:=H) (ys:=[bc0_0_]) (by cases hfbc0_0_<;>kernel_rfl) (by cases hfbc0_0_<;>kernel_rfl) (ZeN hzH3v Zh4) (Ze6 N a0_.Problem.Periods r2 hr2)) ZO.f)) (tq (sq (sq (rg ZO.f (tq (it h (λhc3 h=>?_) (λhc3 h=>?_)))))))
 ·refine sq (rg ZO.f (tq (rt (tr ?_))))
  cases h
  exact ⟨[iv r2.2],kr,kr,Fp.pk hH [0,1,2] rfl⟩
 refine sk (tq (kq (sq ?_)))
 obtain ⟨idm,H2,hidm,hH2,hH⟩:=Fp.mapNew (sz:=4) Z2 hH
 replace hH:Fp H H2 [.cel p0_ [bc0_0_,bc0_1_,bv a0_.late],.arr bc0_0_ 1 true (List.map eI64 a0_.Problem.Periods),.arr bc0_1_ 4 true (List.map Z2 a0_.Problem.Uses)] ([.cel p0_ [bc0_0_,bc0_1_,bv a0_.late],.arr bc0_0_ 1 true (List.map eI64 a0_.Problem.Periods),.arr bc0_1_ 4 true (List.map Z2 a0_.Problem.Uses)]++mapT idm 4 Z2 ([]:List (Int×List Zax)) []):=Fp.pick hH [1,2,3,0] rfl
 refine rg (ZO.h 0 (st_mkMap' (H:=H3) 0 kr hidm hH2) ZO.f) (tq (sq (sq ?_)))
 have hlc4:=Fp.get hH 0 rfl
 have hln6:=Fp.len (k:=2) (a:=bc0_1_) (sz:=4) (frz:=true) (l:=a0_.Problem.Uses) Z2 hH rfl
 refine rgS ⟨[(0,.ptr p0_ 0),(3,iv r2.1),(5,.map idm),(32,bc0_1_),(33,iv ((List.length a0_.Problem.Uses:Nat):Int)),(34,iv 0)],[],H2⟩ (ZO.u 4 (ZW (H:=H2) (id:=p0_) (off:=1) (cs:=[bc0_0_,bc0_1_,bv a0_.late]) (c:=[bc0_1_]) (r:=bc0_1_) (by cases hfbc0_1_<;>kernel_rfl) (by cases hfbc0_1_<;>kernel_rfl) hlc4 (by cases hfbc0_1_<;>kernel_rfl) (by cases hfbc0_1_<;>kernel_rfl) (by cases hfbc0_1_<;>kernel_rfl)) (ZO.u 0 (Z0 (ys:=[bc0_1_]) (by cases hfbc0_1_<;>kernel_rfl) hln6) ZO.f)) (by cases hfbc0_1_<;>kernel_rfl) (tq (bk ?_))
 obtain ⟨a0,aA,h⟩:=bs h
 refine ZaG ((Zat (λ(x:Int×(List (Int×(List Zax)))) s=>∃ (as_:List AV) (H5:List HO),s=⟨[(0,.ptr p0_ 0),(3,iv r2.1),(5,.map idm),(32,bc0_1_),(33,iv ((List.length a0_.Problem.Uses:Nat):Int)),(34,iv x.1)],[],H5⟩/\as_.length=x.2.length/\Fp H H5 [.cel p0_ [bc0_0_,bc0_1_,bv a0_.late],.arr bc0_0_ 1 true (List.map eI64 a0_.Problem.Periods),.arr bc0_1_ 4 true (List.map Z2 a0_.Problem.Uses)] ([.cel p0_ [bc0_0_,bc0_1_,bv a0_.late],.arr bc0_0_ 1 true (List.map eI64 a0_.Problem.Periods),.arr bc0_1_ 4 true (List.map Z2 a0_.Problem.Uses)]++mapT idm 4 Z2 x.2 as_)) (λx:Int×(List (Int×(List Zax)))=>ZbS N a0_ x.1 x.2) (λ(p:(List (Int×(List Zax)))) e s=>e=.exit 0/\∃ (as_:List AV) (H5:List HO),s=⟨[(0,.ptr p0_ 0),(3,iv r2.1),(5,.map idm)],[],H5⟩/\as_.length=p.length/\Fp H H5 [.cel p0_ [bc0_0_,bc0_1_,bv a0_.late],.arr bc0_0_ 1 true (List.map eI64 a0_.Problem.Periods),.arr bc0_1_ 4 true (List.map Z2 a0_.Problem.Uses)] ([.cel p0_ [bc0_0_,bc0_1_,bv a0_.late],.arr bc0_0_ 1 true (List.map eI64 a0_.Problem.Periods),.arr bc0_1_ 4 true (List.map Z2 a0_.Problem.Uses)]++mapT idm 4 Z2 p as_)) ?_ N _ a0 _ aA ⟨[],H2,(by show _=_;cases hfbc0_1_<;>kernel_rfl),rfl,hH⟩).mono ?_)
 ·clear h aA hln6 hH hlc4 hlc1
  rintro ⟨i5,m5⟩ o s h ⟨as_,H5,rfl,hl5,hH⟩
  replace h:ZbS N a0_ i5 m5=some o:=h
  unfold ZbS at h
  refine sq (rgS ⟨[(0,.ptr p0_ 0),(3,iv r2.1),(5,.map idm),(32,bc0_1_),(33,iv ((List.length a0_.Problem.Uses:Nat):Int)),(34,iv i5),(35,bv (decide (i5<((List.length a0_.Problem.Uses:Nat):Int))))],[],H5⟩ ZO.f (by cases hfbc0_1_<;>kernel_rfl) (tq (sq (it h (λaZ h=>?_) (λaZ h=>?_)))))
  ·refine sk (tq (kq (sq (bk (sq ?_)))))
   obtain ⟨a3,aB,h⟩:=bs h
   obtain ⟨bp,bd,_,bb,aE,bc,ar⟩:=Fp.elem (k:=2) (a:=bc0_1_) (sz:=4) (frz:=true) Z2 hH rfl aB
   refine rgS ⟨[(0,.ptr p0_ 0),(3,iv r2.1),(5,.map idm),(7,.loc 7 0),(32,bc0_1_),(33,iv ((List.length a0_.Problem.Uses:Nat):Int)),(34,iv i5)],[(7,(ZaJ a3))],H5⟩ (ZO.u 0 (Z0 (ys:=[bc0_1_,iv i5]) (by cases hfbc0_1_<;>kernel_rfl) (ar .i64)) (ZO.u 0 (Zct (H:=H5) (off:=0) (cs:=[.int .i64 a3.Stream,.int .i64 a3.Port,.int .i64 a3.From,.int .i64 a3.Long]) (r:=.agg (ZaJ a3)) Z2 aB aE) (ZO.f (h:=(by cases hfbc0_1_<;>kernel_rfl))))) (by cases hfbc0_1_<;>kernel_rfl) (tq ?_)
   obtain ⟨bt,aQ,h⟩:=bs h
   obtain ⟨hid5,hno5,a1,H6,as2,H7,ha1,hid6,hok1,hl6,hH7,hH⟩:=Fp.mapApp Z2 hH hl5 aQ
   refine rqS ⟨[(0,.ptr p0_ 0),(3,iv r2.1),(5,.map idm),(32,bc0_1_),(33,iv ((List.length a0_.Problem.Uses:Nat):Int)),(34,iv i5)],[],H7⟩ (ZO.u 6 (Zml (H:=H5) (id:=idm) (es:=zipE m5 as_) (x:=a3.Port) (r:=mval 4 m5 as_ a3.Port) kr kr hid5 rfl hno5) (ZO.h 2 (ZhC (H:=H5) (a:=mval 4 m5 as_ a3.Port) (b:=.p (.sl 4 true [Z2 a3])) (new:=[Z2 a3]) kr kr kr kr ha1) (ZO.o 0 (Zmk (H:=H6) (id:=idm) (es:=zipE m5 as_) (x:=a3.Port) (y:=a1) kr kr hid6 hok1 hH7) (ZO.f (h:=(by cases hfbc0_1_<;>kernel_rfl)))))) (by cases hfbc0_1_<;>kernel_rfl) (bn (tq (rgS ⟨[(0,.ptr p0_ 0),(3,iv r2.1),(5,.map idm),(32,bc0_1_),(33,iv ((List.length a0_.Problem.Uses:Nat):Int)),(34,iv (w64 (i5+1)))],[],H7⟩ ZO.f (by cases hfbc0_1_<;>kernel_rfl) ?_)))
   cases h
   exact ⟨_,rfl,as2,H7,(by show _=_;cases hfbc0_1_<;>kernel_rfl),hl6,hH⟩
  refine kq (xq (tx ?_))
  cases h
  exact ⟨_,rfl,rfl,as_,H5,kr,hl5,hH⟩
 clear hH hln6 hlc4 hlc1
 rintro e s hq
 obtain ⟨rfl,as_,H5,rfl,hl5,hH⟩:=hq
 refine bx (tq (sq ?_))
 obtain ⟨bq,aM,h⟩:=bs h
 obtain ⟨hb1,hb2⟩:=ZmG aM
 have hid5:H5[idm]?=some (.lp mapL [] (.mp 0 (zipE a0 as_))):=Fp.get hH 3 rfl
 have hidlt:idm<H5.length:=(List.getElem?_eq_some_iff.1 hid5).1
 refine Zm2 (Zl1 (s0:=⟨[(0,.ptr p0_ 0),(3,iv r2.1),(5,.map idm),(49,.map idm)],[],H5⟩) (id:=idm) (kn:=0) (L:=mapL) (fr:=[]) (es:=zipE a0 as_) (ZjQ (Zb4 N a0_ r2) a0) (sF:=[(2,iv 7)]) (bF:=[]) (ZmS kr kr) kr hid5 rfl kr kr (by decide) ?_ ?_)
 ·clear h
  intro i_ p_ hp_ bs_ ck_ sn_ y_ hy_
  obtain ⟨q_,hq_,hpk_,hzt_⟩:=ZmF (enc:=Z2) (sz:=4) hl5 i_ p_ hp_
  have hHI:=Zpr (kn:=0) (es:=zipE a0 as_) (bs:=bs_) (clock:=ck_) (seen:=sn_++[y_]) hH
  replace hH:=HP.three (i:=0) (j:=1) (k:=i_+3) hHI rfl rfl (by simpa using hzt_) (by omega) (by omega) (by omega)
  have hfae_:=ZjC (HP.get hH 2 rfl)
  obtain ⟨hoka_,_⟩:=Zk7 (HP.get hH 2 rfl)
  obtain ⟨c_,hc_⟩:=hb1 i_ q_ hq_
  have hbad:ZjQ (Zb4 N a0_ r2) a0 i_=c_:=by
   unfold ZjQ
   rw [hq_]
   simp only [hc_]
   cases c_<;>rfl
  rw [hbad]
  unfold Zb4 at hc_
  have hjm:=ZmZ (kn:=0) (L:=mapL) (fr:=[]) (es:=zipE a0 as_) (bs:=bs_) (clock:=ck_) (seen:=sn_++[y_]) hidlt
  have hjt:=Zpq (H:=H5) (id:=idm) (kn:=0) (L:=mapL) (fr:=[]) (es:=zipE a0 as_) (bs:=bs_) (clock:=ck_) (seen:=sn_++[y_])
  refine Zm3 ⟨[(0,.ptr p0_ 0),(3,iv r2.1),(50,.map (List.length H5))],[],(hIt H5 idm mapL [] 0 (zipE a0 as_) bs_ ck_ (sn_++[y_]))⟩ kr (sq (rgS ⟨[(0,.ptr p0_ 0),(3,iv r2.1),(9,p_.2),(50,.map (List.length H5))],[],(hIt H5 idm mapL [] 0 (zipE a0 as_) bs_ ck_ (sn_++[y_]))⟩ (ZO.u 0 (ZlR (H:=(hIt H5 idm mapL [] 0 (zipE a0 as_) bs_ ck_ (sn_++[y_]))) (id:=idm) (j:=List.length H5) (kn:=0) (L:=mapL) (fr:=[]) (es:=zipE a0 as_) (bs:=bs_) (clock:=ck_) (seen:=sn_) (x:=y_) (i:=i_) (p:=p_) kr kr hp_ hy_ hoka_ hjm hjt) ZO.f) kr (tq (sq ?_))))
  obtain ⟨pk_,ae_⟩:=p_
  replace hfae_:ae_=.p (.sl 4 true [])∨∃ id ver,ae_=.osl 4 id ver 0 (q_.2.map Z2).length:=hfae_
  refine rgS ⟨[(0,.ptr p0_ 0),(3,iv r2.1),(9,ae_),(10,iv 0),(50,.map (List.length H5))],[],(hIt H5 idm mapL [] 0 (zipE a0 as_) bs_ ck_ (sn_++[y_]))⟩ ZO.f (by rcases hfae_ with hae_e|⟨_,_,hae_e⟩<;>rw [hae_e]<;>kernel_rfl) (tq (sq (sq ?_)))
  have aD:=HP.len (k:=2) (a:=ae_) (sz:=4) (frz:=false) (l:=q_.2) Z2 hH rfl
  refine rgS ⟨[(0,.ptr p0_ 0),(3,iv r2.1),(10,iv 0),(50,.map (List.length H5)),(55,ae_),(56,iv ((List.length q_.2:Nat):Int)),(57,iv 0)],[],(hIt H5 idm mapL [] 0 (zipE a0 as_) bs_ ck_ (sn_++[y_]))⟩ (ZO.u 1 (Z0 (ys:=[ae_]) (by rcases hfae_ with hae_e|⟨_,_,hae_e⟩<;>rw [hae_e]<;>kernel_rfl) aD) ZO.f) (by rcases hfae_ with hae_e|⟨_,_,hae_e⟩<;>rw [hae_e]<;>kernel_rfl) (tq (bk ?_))
  obtain ⟨a7,aa,hc_⟩:=bs hc_
  refine ZaG ((Zat (λ(x:Int×Int) s=>s=⟨[(0,.ptr p0_ 0),(3,iv r2.1),(10,iv x.1),(50,.map (List.length H5)),(55,ae_),(56,iv ((List.length q_.2:Nat):Int)),(57,iv x.2)],[],(hIt H5 idm mapL [] 0 (zipE a0 as_) bs_ ck_ (sn_++[y_]))⟩) (λx:Int×Int=>ZbR N a0_ r2 q_.2 x.1 x.2) (λ(p:Int) e s=>e=.exit 4/\(s=⟨[(0,.ptr p0_ 0),(3,iv r2.1),(10,iv p),(50,.map (List.length H5))],[],(hIt H5 idm mapL [] 0 (zipE a0 as_) bs_ ck_ (sn_++[y_]))⟩)) ?_ N _ a7 _ aa (by show _=_;rcases hfae_ with hae_e|⟨_,_,hae_e⟩<;>rw [hae_e]<;>kernel_rfl)).mono ?_)
  ·clear hc_ aa
   rintro ⟨a8,a6⟩ o s h hR
   obtain rfl:=hR
   replace h:ZbR N a0_ r2 q_.2 a8 a6=some o:=h
   unfold ZbR at h
   refine sq (rgS ⟨[(0,.ptr p0_ 0),(3,iv r2.1),(10,iv a8),(50,.map (List.length H5)),(55,ae_),(56,iv ((List.length q_.2:Nat):Int)),(57,iv a6),(58,bv (decide (a6<((List.length q_.2:Nat):Int))))],[],(hIt H5 idm mapL [] 0 (zipE a0 as_) bs_ ck_ (sn_++[y_]))⟩ ZO.f (by rcases hfae_ with hae_e|⟨_,_,hae_e⟩<;>rw [hae_e]<;>kernel_rfl) (tq (sq (it h (λaL h=>?_) (λaL h=>?_)))))
   ·refine sk (tq (kq (sq (bk (sq ?_)))))
    obtain ⟨a5,aj,h⟩:=bs h
    obtain ⟨bj,ba,_,aX,ax,aY,ae⟩:=HP.elem (k:=2) (a:=ae_) (sz:=4) (frz:=false) Z2 hH rfl aj
    refine rgS ⟨[(0,.ptr p0_ 0),(3,iv r2.1),(10,iv a8),(12,.loc 12 0),(50,.map (List.length H5)),(55,ae_),(56,iv ((List.length q_.2:Nat):Int)),(57,iv a6)],[(12,(ZaJ a5))],(hIt H5 idm mapL [] 0 (zipE a0 as_) bs_ ck_ (sn_++[y_]))⟩ (ZO.u 0 (Z0 (ys:=[ae_,iv a6]) (by rcases hfae_ with hae_e|⟨_,_,hae_e⟩<;>rw [hae_e]<;>kernel_rfl) (ae .i64)) (ZO.u 0 (Zct (H:=(hIt H5 idm mapL [] 0 (zipE a0 as_) bs_ ck_ (sn_++[y_]))) (off:=0) (cs:=[.int .i64 a5.Stream,.int .i64 a5.Port,.int .i64 a5.From,.int .i64 a5.Long]) (r:=.agg (ZaJ a5)) Z2 aj ax) (ZO.f (h:=(by rcases hfae_ with hae_e|⟨_,_,hae_e⟩<;>rw [hae_e]<;>kernel_rfl))))) (by rcases hfae_ with hae_e|⟨_,_,hae_e⟩<;>rw [hae_e]<;>kernel_rfl) (tq ?_)
    have aq:=HP.get hH 0 rfl
    obtain ⟨al,ai,h⟩:=bs h
    obtain ⟨bi,b2,_,aV,aw,aW,ad⟩:=HP.elem (k:=1) (a:=bc0_0_) (sz:=1) (frz:=true) eI64 hH rfl ai
    obtain ⟨ay,aC,h⟩:=bs h
    refine rqS ⟨[(0,.ptr p0_ 0),(3,iv r2.1),(10,iv (w64 (a8+ay))),(50,.map (List.length H5)),(55,ae_),(56,iv ((List.length q_.2:Nat):Int)),(57,iv a6)],[],(hIt H5 idm mapL [] 0 (zipE a0 as_) bs_ ck_ (sn_++[y_]))⟩ (ZO.u 6 (Zaz (ZW (H:=(hIt H5 idm mapL [] 0 (zipE a0 as_) bs_ ck_ (sn_++[y_]))) (id:=p0_) (off:=0) (cs:=[bc0_0_,bc0_1_,bv a0_.late]) (c:=[bc0_0_]) (r:=bc0_0_) (by cases hfbc0_0_<;>kernel_rfl) (by cases hfbc0_0_<;>kernel_rfl) aq (by cases hfbc0_0_<;>kernel_rfl) (by cases hfbc0_0_<;>kernel_rfl) (by cases hfbc0_0_<;>kernel_rfl)) (by cases hfbc0_0_<;>kernel_rfl)) (ZO.u 2 (Z0 (ys:=[bc0_0_,iv a5.Stream]) (by cases hfbc0_0_<;>kernel_rfl) (ad .i64)) (ZO.u 0 (Zaz (Zct (H:=(hIt H5 idm mapL [] 0 (zipE a0 as_) bs_ ck_ (sn_++[y_]))) (off:=0) (cs:=[.int .i64 al]) (r:=iv al) eI64 ai aw)) (ZO.u 0 (Z0 (ys:=[iv r2.1,iv al]) (h:=Zez aC)) ZO.f)))) (by cases hfbc0_0_<;>rcases hfae_ with hae_e|⟨_,_,hae_e⟩<;>rw [hae_e]<;>kernel_rfl) (bn (tq (rgS ⟨[(0,.ptr p0_ 0),(3,iv r2.1),(10,iv (w64 (a8+ay))),(50,.map (List.length H5)),(55,ae_),(56,iv ((List.length q_.2:Nat):Int)),(57,iv (w64 (a6+1)))],[],(hIt H5 idm mapL [] 0 (zipE a0 as_) bs_ ck_ (sn_++[y_]))⟩ ZO.f (by rcases hfae_ with hae_e|⟨_,_,hae_e⟩<;>rw [hae_e]<;>kernel_rfl) ?_)))
    cases h
    exact ⟨_,rfl,(by show _=_;rcases hfae_ with hae_e|⟨_,_,hae_e⟩<;>rw [hae_e]<;>kernel_rfl)⟩
   refine kq (xq (tx ?_))
   cases h
   exact ⟨_,rfl,rfl,kr⟩
  rintro e s hq
  obtain ⟨rfl,hR⟩:=hq
  obtain rfl:=hR
  refine bx (tq (sq (rg ZO.f ?_)))
  have h:(if (decide (a7>63))=true then some true else some false)=some c_:=by
   rw [← hc_]
   cases decide (a7>63)<;>rfl
  refine tq (it h (λaK h=>?_) (λaK h=>?_))
  ·cases h
   refine sq (rg ZO.f (tq (rt (br ?_))))
   rw [ZM rfl]
   exact ⟨rfl,kr⟩
  cases h
  refine sk (bn ?_)
  rw [ZL (by simp)]
  exact ⟨rfl,kr⟩
 replace hH:=Fp.push hH (.lp itL [] .itd)
 rw [ZkY hl5,hb2]
 rcases Zau h with ⟨hcb,h⟩|⟨hcb,h⟩
 ·rw [ZM hcb]
  refine tr ?_
  cases h
  exact ⟨[iv 7],kr,kr,Fp.pk hH [0,1,2] rfl⟩
 rw [ZL (by rw [hcb];simp)]
 refine tq ?_
 replace hH:Fp _ _ _ [.cel p0_ [bc0_0_,bc0_1_,bv a0_.late],.arr bc0_0_ 1 true (List.map eI64 a0_.Problem.Periods),.arr bc0_1_ 4 true (List.map Z2 a0_.Problem.Uses)]:=Fp.pick hH [0,1,2] rfl
 refine Zm3 ⟨[(0,.ptr p0_ 0)],[],(hEnd H5)⟩ kr (sq (sq ?_))
 have ap:=Fp.get hH 0 rfl
 have am:=Fp.len (k:=2) (a:=bc0_1_) (sz:=4) (frz:=true) (l:=a0_.Problem.Uses) Z2 hH rfl
 refine rgS ⟨[(0,.ptr p0_ 0),(81,bc0_1_),(82,iv ((List.length a0_.Problem.Uses:Nat):Int)),(83,iv 0)],[],(hEnd H5)⟩ (ZO.u 4 (ZW (H:=(hEnd H5)) (id:=p0_) (off:=1) (cs:=[bc0_0_,bc0_1_,bv a0_.late]) (c:=[bc0_1_]) (r:=bc0_1_) (by cases hfbc0_1_<;>kernel_rfl) (by cases hfbc0_1_<;>kernel_rfl) ap (by cases hfbc0_1_<;>kernel_rfl) (by cases hfbc0_1_<;>kernel_rfl) (by cases hfbc0_1_<;>kernel_rfl)) (ZO.u 0 (Z0 (ys:=[bc0_1_]) (by cases hfbc0_1_<;>kernel_rfl) am) ZO.f)) (by cases hfbc0_1_<;>kernel_rfl) (tq (bk ?_))
 obtain ⟨az,a9,h⟩:=bs h
 refine ZaG ((Zat (λ(x:Int) s=>s=⟨[(0,.ptr p0_ 0),(81,bc0_1_),(82,iv ((List.length a0_.Problem.Uses:Nat):Int)),(83,iv x)],[],(hEnd H5)⟩) (λx:Int=>ZbQ N a0_ x) (λ(p:(Unit)⊕(Int)) e s=>match p with|(.inl p)=>e=.exit 6/\(s=⟨[(0,.ptr p0_ 0)],[],(hEnd H5)⟩)|(.inr p)=>e=.ret/\∃ xs,rawL (wS [] s) i23.res=some xs/\Zbd xs=iv p/\Fp H (weakH [] s.H) [.cel p0_ [bc0_0_,bc0_1_,bv a0_.late],.arr bc0_0_ 1 true (List.map eI64 a0_.Problem.Periods),.arr bc0_1_ 4 true (List.map Z2 a0_.Problem.Uses)] [.cel p0_ [bc0_0_,bc0_1_,bv a0_.late],.arr bc0_0_ 1 true (List.map eI64 a0_.Problem.Periods),.arr bc0_1_ 4 true (List.map Z2 a0_.Problem.Uses)]) ?_ N _ az _ a9 (by show _=_;cases hfbc0_1_<;>kernel_rfl)).mono ?_)
 ·clear h a9
  rintro a4 o s h hR
  obtain rfl:=hR
  replace h:ZbQ N a0_ a4=some o:=h
  unfold ZbQ at h
  refine sq (rgS ⟨[(0,.ptr p0_ 0),(81,bc0_1_),(82,iv ((List.length a0_.Problem.Uses:Nat):Int)),(83,iv a4),(84,bv (decide (a4<((List.length a0_.Problem.Uses:Nat):Int))))],[],(hEnd H5)⟩ ZO.f (by cases hfbc0_1_<;>kernel_rfl) (tq (sq (it h (λaJ h=>?_) (λaJ h=>?_)))))
  ·refine sk (tq (kq (sq (bk (sq ?_)))))
   obtain ⟨a2,ag,h⟩:=bs h
   obtain ⟨bf,b1,_,aT,av,aU,ac⟩:=Fp.elem (k:=2) (a:=bc0_1_) (sz:=4) (frz:=true) Z2 hH rfl ag
   refine rgS ⟨[(0,.ptr p0_ 0),(14,.loc 14 0),(81,bc0_1_),(82,iv ((List.length a0_.Problem.Uses:Nat):Int)),(83,iv a4)],[(14,(ZaJ a2))],(hEnd H5)⟩ (ZO.u 0 (Z0 (ys:=[bc0_1_,iv a4]) (by cases hfbc0_1_<;>kernel_rfl) (ac .i64)) (ZO.u 0 (Zct (H:=(hEnd H5)) (off:=0) (cs:=[.int .i64 a2.Stream,.int .i64 a2.Port,.int .i64 a2.From,.int .i64 a2.Long]) (r:=.agg (ZaJ a2)) Z2 ag av) (ZO.f (h:=(by cases hfbc0_1_<;>kernel_rfl))))) (by cases hfbc0_1_<;>kernel_rfl) (tq (sq ?_))
   have ao:=Fp.get hH 0 rfl
   obtain ⟨ak,af,h⟩:=bs h
   obtain ⟨be,b0,_,aR,au,aS,ab⟩:=Fp.elem (k:=1) (a:=bc0_0_) (sz:=1) (frz:=true) eI64 hH rfl af
   refine rqS ⟨[(0,.ptr p0_ 0),(81,bc0_1_),(82,iv ((List.length a0_.Problem.Uses:Nat):Int)),(83,iv a4),(98,bv (decide (a2.Long>ak)))],[],(hEnd H5)⟩ (ZO.u 6 (Zaz (ZW (H:=(hEnd H5)) (id:=p0_) (off:=0) (cs:=[bc0_0_,bc0_1_,bv a0_.late]) (c:=[bc0_0_]) (r:=bc0_0_) (by cases hfbc0_0_<;>cases hfbc0_1_<;>kernel_rfl) (by cases hfbc0_0_<;>cases hfbc0_1_<;>kernel_rfl) ao (by cases hfbc0_0_<;>cases hfbc0_1_<;>kernel_rfl) (by cases hfbc0_0_<;>cases hfbc0_1_<;>kernel_rfl) (by cases hfbc0_0_<;>cases hfbc0_1_<;>kernel_rfl)) (by cases hfbc0_0_<;>cases hfbc0_1_<;>kernel_rfl)) (ZO.u 2 (Z0 (ys:=[bc0_0_,iv a2.Stream]) (by cases hfbc0_0_<;>kernel_rfl) (ab .i64)) (ZO.u 0 (Zaz (Zct (H:=(hEnd H5)) (off:=0) (cs:=[.int .i64 ak]) (r:=iv ak) eI64 af au)) ZO.f))) (by cases hfbc0_0_<;>cases hfbc0_1_<;>kernel_rfl) (tq (it h (λaI h=>?_) (λaI h=>?_)))
   ·refine sq (rgS ⟨[(2,iv 341)],[],(hEnd H5)⟩ ZO.f kr (tq (rt (br (tr ?_)))))
    cases h
    exact ⟨_,rfl,rfl,⟨[iv 341],kr,kr,Fp.pk hH [0,1,2] rfl⟩⟩
   refine sk (bn (tq (kq (rgS ⟨[(0,.ptr p0_ 0),(81,bc0_1_),(82,iv ((List.length a0_.Problem.Uses:Nat):Int)),(83,iv (w64 (a4+1)))],[],(hEnd H5)⟩ ZO.f (by cases hfbc0_1_<;>kernel_rfl) ?_))))
   cases h
   exact ⟨_,rfl,(by show _=_;cases hfbc0_1_<;>kernel_rfl)⟩
  refine kq (xq (tx ?_))
  cases h
  exact ⟨_,rfl,rfl,kr⟩
 rintro e s hq
 rcases az with bm|bl
 ·dsimp only at h hq
  obtain ⟨rfl,hR⟩:=hq
  obtain rfl:=hR
  refine bx (tq (sq (sq ?_)))
  have an:=Fp.get hH 0 rfl
  refine rg (ZO.u 3 (ZW (H:=(hEnd H5)) (id:=p0_) (off:=2) (cs:=[bc0_0_,bc0_1_,bv a0_.late]) (c:=[bv a0_.late]) (r:=bv a0_.late) (hl:=an)) ZO.f) (tq (it h (λaG h=>?_) (λaG h=>?_)))
  ·refine sq (rg ZO.f (tq (rt (tr ?_))))
   cases h
   exact ⟨[iv 342],kr,kr,Fp.pk hH [0,1,2] rfl⟩
  refine sk (tq (kq (sq (rg ZO.f (tq (rt ?_))))))
  cases h
  exact ⟨[iv 0],kr,kr,Fp.pk hH [0,1,2] rfl⟩
 dsimp only at h hq
 obtain ⟨rfl,hq⟩:=hq
 refine br (tr ?_)
 cases h
 exact hq
theorem ZgQ (N:Nat)(a0_:Zaf)(r:Int)(h:ZfZ N a0_=some r):PCall Try.prog 24 [.agg (ZS a0_)] (iv r):=by
 unfold ZfZ at h
 have hH  := hp0
 refine Zal ZAD rfl rfl (Z5 _ _ _ ?_) rfl
 refine sq (rg ZO.f (tq (sq (sq (rgX ⟨[(1,.loc 1 0),(19,bv ((decide (((List.length a0_.Periods:Nat):Int)>12))||(decide (((List.length a0_.Uses:Nat):Int)>192))))],[(1,(ZS a0_))],[]⟩ ?_ ?_)))))
 ·refine (EP.u 2 (Z0 (ys:=[ZU false a0_.Periods]) (h:=Z6 eI64)) ?_)
  rcases Bool.eq_false_or_eq_true (decide (((List.length a0_.Periods:Nat):Int)>12)) with hc1|hc2
  ·exact (EP.u 0 (ZX (c:=(decide (((List.length a0_.Periods:Nat):Int)>12))) (h:=hc1)) (EP.f (by simp only [hc1];kernel_rfl)))
  exact (EP.u 0 (ZX (c:=(decide (((List.length a0_.Periods:Nat):Int)>12))) (h:=hc2)) (EP.u 3 (Z0 (ys:=[Zas false a0_.Uses]) (h:=Z6 Z2)) (EP.f (by simp only [hc2];kernel_rfl))))
 refine tq (it h (λhc3 h=>?_) (λhc3 h=>?_))
 ·refine sq (rg ZO.f (tq (rt (tr ?_))))
  cases h
  exact Zab kr
 refine sk (tq (kq (sq (sq (rg (ZO.u 2 (Z0 (ys:=[ZU false a0_.Periods]) (h:=Z6 eI64)) ZO.f) (tq (bk ?_)))))))
 obtain ⟨au,al,h⟩:=bs h
 refine ZaG ((Zat (λ(x:Int) s=>s=⟨[(1,.loc 1 0),(21,ZU false a0_.Periods),(22,iv ((List.length a0_.Periods:Nat):Int)),(23,iv x)],[(1,(ZS a0_))],[]⟩) (λx:Int=>ZdN N a0_ x) (λ(p:(Unit)⊕(Int)) e s=>match p with|(.inl p)=>e=.exit 0/\(s=⟨[(1,.loc 1 0)],[(1,(ZS a0_))],[]⟩)|(.inr p)=>e=.ret/\∃ xs,resL s i24.res=some xs/\Zbd xs=iv p) ?_ N _ au _ al kr).mono ?_)
 ·clear h al
  rintro i4 o s h hR
  obtain rfl:=hR
  replace h:ZdN N a0_ i4=some o:=h
  unfold ZdN at h
  refine sq (rg ZO.f (tq (sq (it h (λay h=>?_) (λay h=>?_)))))
  ·refine sk (tq (kq (sq (bk (sq ?_)))))
   obtain ⟨a6,am,h⟩:=bs h
   refine rg (ZO.u 0 (Z0 (ys:=[ZU false a0_.Periods,iv i4]) (h:=ZY eI64 am)) (ZO.u 0 (Zae (sz:=1) (off:=0) (cs:=[.int .i64 a6]) (r:=iv a6) eI64 am) ZO.f)) (tq (sq (rgX ⟨[(1,.loc 1 0),(21,ZU false a0_.Periods),(22,iv ((List.length a0_.Periods:Nat):Int)),(23,iv i4),(32,bv ((decide (a6<1))||(decide (a6>240))))],[(1,(ZS a0_))],[]⟩ ?_ ?_)))
   ·rcases Bool.eq_false_or_eq_true (decide (a6<1)) with ao|an
    ·exact (EP.u 1 (ZX (c:=(decide (a6<1))) (h:=ao)) (EP.f (by simp only [ao];kernel_rfl)))
    exact (EP.u 1 (ZX (c:=(decide (a6<1))) (h:=an)) (EP.f (by simp only [an];kernel_rfl)))
   refine tq (it h (λax h=>?_) (λax h=>?_))
   ·refine sq (rg ZO.f (tq (rt (br (tr ?_)))))
    cases h
    exact ⟨_,rfl,rfl,Zab kr⟩
   refine sk (bn (tq (kq (rg ZO.f ?_))))
   cases h
   exact ⟨_,rfl,kr⟩
  refine kq (xq (tx ?_))
  cases h
  exact ⟨_,rfl,rfl,kr⟩
 rintro e s hq
 rcases au with aD|aA
 ·dsimp only at h hq
  obtain ⟨rfl,hR⟩:=hq
  obtain rfl:=hR
  refine bx (tq (sq (sq ?_)))
  obtain ⟨az,av,h⟩:=bs h
  refine rg (ZO.v 2 (Z7 (hc:=Ze6 N a0_.Periods az av)) ZO.f) (tq (sq (rg ZO.f (tq (it h (λaw h=>?_) (λaw h=>?_))))))
  ·refine sq (rg ZO.f (tq (rt (tr ?_))))
   cases h
   exact Zab kr
  refine sk (tq (kq (sq (sq (rg (ZO.u 2 (Z0 (ys:=[Zas false a0_.Uses]) (h:=Z6 Z2)) ZO.f) (tq (bk ?_)))))))
  obtain ⟨ak,a7,h⟩:=bs h
  refine ZaG ((Zat (λ(x:Int) s=>s=⟨[(1,.loc 1 0),(43,Zas false a0_.Uses),(44,iv ((List.length a0_.Uses:Nat):Int)),(45,iv x)],[(1,(ZS a0_))],[]⟩) (λx:Int=>ZdM N a0_ x) (λ(p:(Unit)⊕(Int)) e s=>match p with|(.inl p)=>e=.exit 2/\(s=⟨[],[],[]⟩)|(.inr p)=>e=.ret/\∃ xs,resL s i24.res=some xs/\Zbd xs=iv p) ?_ N _ ak _ a7 kr).mono ?_)
  ·clear h a7
   rintro aj o s h hR
   obtain rfl:=hR
   replace h:ZdM N a0_ aj=some o:=h
   unfold ZdM at h
   refine sq (rg ZO.f (tq (sq (it h (λar h=>?_) (λar h=>?_)))))
   ·refine sk (tq (kq (sq (bk (sq ?_)))))
    obtain ⟨a0,a9,h⟩:=bs h
    refine rg (ZO.u 0 (Z0 (ys:=[Zas false a0_.Uses,iv aj]) (h:=ZY Z2 a9)) (ZO.u 0 (Zae (sz:=4) (off:=0) (cs:=[.int .i64 a0.Stream,.int .i64 a0.Port,.int .i64 a0.From,.int .i64 a0.Long]) (r:=.agg (ZaJ a0)) Z2 a9) ZO.f)) (tq (sq (sq (rgX ⟨[(1,.loc 1 0),(8,.loc 8 0),(43,Zas false a0_.Uses),(44,iv ((List.length a0_.Uses:Nat):Int)),(45,iv aj),(69,bv ((decide (a0.Stream<0))||((decide (a0.Stream≥((List.length a0_.Periods:Nat):Int)))||((decide (a0.Port<0))||(decide (a0.Port≥48))))))],[(1,(ZS a0_)),(8,(ZaJ a0))],[]⟩ ?_ ?_))))
    ·rcases Bool.eq_false_or_eq_true (decide (a0.Stream<0)) with ai|a3
     ·exact (EP.u 2 (ZX (c:=(decide (a0.Stream<0))) (h:=ai)) (EP.f (by simp only [ai];kernel_rfl)))
     refine (EP.u 2 (ZX (c:=(decide (a0.Stream<0))) (h:=a3)) (EP.u 5 (Z0 (ys:=[ZU false a0_.Periods]) (h:=Z6 eI64)) ?_))
     rcases Bool.eq_false_or_eq_true (decide (a0.Stream≥((List.length a0_.Periods:Nat):Int))) with ag|a5
     ·exact (EP.u 0 (ZX (c:=(decide (a0.Stream≥((List.length a0_.Periods:Nat):Int)))) (h:=ag)) (EP.f (by simp only [a3,ag];kernel_rfl)))
     refine (EP.u 0 (ZX (c:=(decide (a0.Stream≥((List.length a0_.Periods:Nat):Int)))) (h:=a5)) ?_)
     rcases Bool.eq_false_or_eq_true (decide (a0.Port<0)) with af|ae
     ·exact (EP.u 4 (ZX (c:=(decide (a0.Port<0))) (h:=af)) (EP.f (by simp only [a3,a5,af];kernel_rfl)))
     exact (EP.u 4 (ZX (c:=(decide (a0.Port<0))) (h:=ae)) (EP.f (by simp only [a3,a5,ae];kernel_rfl)))
    refine tq (it h (λaq h=>?_) (λaq h=>?_))
    ·refine sq (rg ZO.f (tq (rt (tr (br (tr ?_))))))
     cases h
     exact ⟨_,rfl,rfl,Zab kr⟩
    refine sk (tq (kq (sq ?_)))
    obtain ⟨a1,a8,h⟩:=bs h
    refine rg (ZO.u 4 (Z0 (ys:=[ZU false a0_.Periods,iv a0.Stream]) (h:=ZY eI64 a8)) (ZO.u 0 (Zae (sz:=1) (off:=0) (cs:=[.int .i64 a1]) (r:=iv a1) eI64 a8) ZO.f)) (tq (sq (rgX ⟨[(1,.loc 1 0),(43,Zas false a0_.Uses),(44,iv ((List.length a0_.Uses:Nat):Int)),(45,iv aj),(95,bv ((decide (a0.From<0))||((decide (a0.From≥a1))||((decide (a0.Long<1))||(decide (a0.Long>a1))))))],[(1,(ZS a0_))],[]⟩ ?_ ?_)))
    ·rcases Bool.eq_false_or_eq_true (decide (a0.From<0)) with ad|a2
     ·exact (EP.u 2 (ZX (c:=(decide (a0.From<0))) (h:=ad)) (EP.f (by simp only [ad];kernel_rfl)))
     refine (EP.u 2 (ZX (c:=(decide (a0.From<0))) (h:=a2)) ?_)
     rcases Bool.eq_false_or_eq_true (decide (a0.From≥a1)) with ac|a4
     ·exact (EP.u 4 (ZX (c:=(decide (a0.From≥a1))) (h:=ac)) (EP.f (by simp only [a2,ac];kernel_rfl)))
     refine (EP.u 4 (ZX (c:=(decide (a0.From≥a1))) (h:=a4)) ?_)
     rcases Bool.eq_false_or_eq_true (decide (a0.Long<1)) with ab|aa
     ·exact (EP.u 4 (ZX (c:=(decide (a0.Long<1))) (h:=ab)) (EP.f (by simp only [a2,a4,ab];kernel_rfl)))
     exact (EP.u 4 (ZX (c:=(decide (a0.Long<1))) (h:=aa)) (EP.f (by simp only [a2,a4,aa];kernel_rfl)))
    refine tq (it h (λap h=>?_) (λap h=>?_))
    ·refine sq (rg ZO.f (tq (rt (br (tr ?_)))))
     cases h
     exact ⟨_,rfl,rfl,Zab kr⟩
    refine sk (bn (tq (kq (rg ZO.f ?_))))
    cases h
    exact ⟨_,rfl,kr⟩
   refine kq (xq (tx ?_))
   cases h
   exact ⟨_,rfl,rfl,kr⟩
  rintro e s hq
  rcases ak with aC|aB
  ·dsimp only at h hq
   obtain ⟨rfl,hR⟩:=hq
   obtain rfl:=hR
   refine bx (tq (sq (rg ZO.f (tq (rt ?_)))))
   cases h
   exact Zab kr
  dsimp only at h hq
  obtain ⟨rfl,hq⟩:=hq
  refine br (tr ?_)
  cases h
  exact hq
 dsimp only at h hq
 obtain ⟨rfl,hq⟩:=hq
 refine br (tr ?_)
 cases h
 exact hq
theorem ZhX (N:Nat)(a0_:Zaf)(a1_:Int)(a2_:Int)(a3_:Int)(a4_:Int)(r:Bool)(h:Ze7 N a0_ a1_ a2_ a3_ a4_=some r):PCall Try.prog 26 [.agg (ZS a0_),iv a1_,iv a2_,iv a3_,iv a4_] (bv r):=by
 unfold Ze7 at h
 have hH  := hp0
 refine Zal ZAB rfl rfl (Z5 _ _ _ ?_) rfl
 refine sq ?_
 obtain ⟨id1,H2,hid1,hH2,hH⟩:=HP.newCell hH (ZS a0_)
 replace hH:HP _ [.cel id1 (ZS a0_)]:=hH
 obtain ⟨id3,H4,hid3,hH4,hH⟩:=HP.newCell hH [iv a2_]
 replace hH:HP _ [.cel id3 [iv a2_],.cel id1 (ZS a0_)]:=hH
 obtain ⟨id5,H6,hid5,hH6,hH⟩:=HP.newCell hH [iv a4_]
 replace hH:HP _ [.cel id5 [iv a4_],.cel id3 [iv a2_],.cel id1 (ZS a0_)]:=hH
 obtain ⟨id7,H8,hid7,hH8,hH⟩:=HP.newCell hH [bv false]
 replace hH:HP _ [.cel id7 [bv false],.cel id5 [iv a4_],.cel id3 [iv a2_],.cel id1 (ZS a0_)]:=hH
 refine rgS ⟨[(1,iv a1_),(3,iv a3_),(5,.ptr id1 0),(7,.ptr id3 0),(9,.ptr id5 0),(10,.ptr id7 0)],[],H8⟩ (ZO.h 0 (Zbb (H:=[]) (v:=.agg (ZS a0_)) (hid:=hid1) (hH:=hH2)) (ZO.h 0 (Zbb (H:=H2) (v:=iv a2_) (hid:=hid3) (hH:=hH4)) (ZO.h 0 (Zbb (H:=H4) (v:=iv a4_) (hid:=hid5) (hH:=hH6)) (ZO.h 0 (Zcz (H:=H6) kr hid7 hH8) ZO.f)))) kr (tq (sq (sq ?_)))
 have hlc9:=HP.get hH 3 rfl
 obtain ⟨a6,ay,h⟩:=bs h
 obtain ⟨a5,a4,a3,a2,ai,am⟩:=Zjz N a0_ a1_ a3_ H8 a6 ay
 replace hH:HP _ [.cel a5 (ZS a6.1),.cel a4 [iv a6.2.1],.cel a3 [iv a6.2.2],.cel id7 [bv false],.cel id5 [iv a4_],.cel id3 [iv a2_],.cel id1 (ZS a0_)]:=HP.callee (fp:=[]) (rest:=[.cel id7 [bv false],.cel id5 [iv a4_],.cel id3 [iv a2_],.cel id1 (ZS a0_)]) hH am
 refine rgS ⟨[(5,.ptr id1 0),(7,.ptr id3 0),(9,.ptr id5 0),(10,.ptr id7 0),(18,.fn 62 [] [.ptr a5 0,.ptr a4 0,.ptr a3 0])],[],a2⟩ (ZO.u 0 (ZW (H:=H8) (id:=id1) (off:=0) (cs:=(ZS a0_)) (c:=(ZS a0_)) (r:=.agg (ZS a0_)) (hl:=hlc9)) (ZO.v 2 (Zc7 (H:=H8) (ys:=[.agg (ZS a0_),iv a1_,iv a3_]) kr kr kr ai) ZO.f)) kr (tq (bk ?_))
 obtain ⟨a0,an,h⟩:=bs h
 have a9:∀ (x16:Zax) (x17:Zax) (s:(Bool)×Nat) (r:((Bool)×Nat)×Bool) (H:List HO) (its:List Zap),(λ(s:(Bool)×Nat) (its:List Zap)=>its=[.cel id7 [bv s.1],.cel id5 [iv a4_],.cel id3 [iv a2_],.cel id1 (ZS a0_)]++[.lp (List.length a2) (lcOf Try.prog i26.nt [19,20] Zef Zed) [(5,.ptr id1 0),(7,.ptr id3 0),(9,.ptr id5 0),(10,.ptr id7 0)] (stAt [.ready,.done .ret] s.2)]) s its->HP H its->(λ(s:(Bool)×Nat) (x16:Zax) (x17:Zax)=>Zfp (λv:Bool=>ZbV N a0_ a2_ a4_ v x16 x17) s) s x16 x17=some r->∃ H' its',Zd4 Try.prog (List.length a2) [.agg (ZaJ x16),.agg (ZaJ x17)] H r.2 H'/\(λ(s:(Bool)×Nat) (its:List Zap)=>its=[.cel id7 [bv s.1],.cel id5 [iv a4_],.cel id3 [iv a2_],.cel id1 (ZS a0_)]++[.lp (List.length a2) (lcOf Try.prog i26.nt [19,20] Zef Zed) [(5,.ptr id1 0),(7,.ptr id3 0),(9,.ptr id5 0),(10,.ptr id7 0)] (stAt [.ready,.done .ret] s.2)]) r.1 its'/\Fp H H' its its':=by
  clear h
  intro x16 x17 s r ae its hT hH h
  obtain ⟨h0,q,hb,rfl⟩:=Zgs h
  clear h
  obtain ⟨vs,e⟩:=s
  obtain rfl:e=0:=h0
  obtain ⟨b18,rfl⟩:∃ v,v=vs:=⟨vs,rfl⟩
  obtain rfl:=hT
  replace h:ZbV N a0_ a2_ a4_ b18 x16 x17=some q:=hb
  clear hb
  unfold ZbV at h
  replace hH:Fp _ _ _ [.cel id7 [bv b18],.cel id5 [iv a4_],.cel id3 [iv a2_],.cel id1 (ZS a0_),.lp (List.length a2) (lcOf Try.prog i26.nt [19,20] Zef Zed) [(5,.ptr id1 0),(7,.ptr id3 0),(9,.ptr id5 0),(10,.ptr id7 0)] .ready]:=Fp.refl hH
  suffices hs:∃ H',Zd4 Try.prog (List.length a2) [.agg (ZaJ x16),.agg (ZaJ x17)] ae (q.2==0) H'/\∃ its',(λ(s:(Bool)×Nat) (its:List Zap)=>its=[.cel id7 [bv s.1],.cel id5 [iv a4_],.cel id3 [iv a2_],.cel id1 (ZS a0_)]++[.lp (List.length a2) (lcOf Try.prog i26.nt [19,20] Zef Zed) [(5,.ptr id1 0),(7,.ptr id3 0),(9,.ptr id5 0),(10,.ptr id7 0)] (stAt [.ready,.done .ret] s.2)]) q its'/\Fp ae H' [.cel id7 [bv b18],.cel id5 [iv a4_],.cel id3 [iv a2_],.cel id1 (ZS a0_),.lp (List.length a2) (lcOf Try.prog i26.nt [19,20] Zef Zed) [(5,.ptr id1 0),(7,.ptr id3 0),(9,.ptr id5 0),(10,.ptr id7 0)] .ready] its' by
   obtain ⟨H',h1,its',h2,h3⟩:=hs
   exact ⟨H',its',h1,h2,h3⟩
  refine ZdV (id:=(List.length a2)) (args:=[.agg (ZaJ x16),.agg (ZaJ x17)]) (H:=ae) (n:=i26.nt) (ps:=[19,20]) (fr0:=[(5,.ptr id1 0),(7,.ptr id3 0),(9,.ptr id5 0),(10,.ptr id7 0)]) (ia:=Zef) (ib:=Zed) (q.2==0) (λH'=>∃ its',(λ(s:(Bool)×Nat) (its:List Zap)=>its=[.cel id7 [bv s.1],.cel id5 [iv a4_],.cel id3 [iv a2_],.cel id1 (ZS a0_)]++[.lp (List.length a2) (lcOf Try.prog i26.nt [19,20] Zef Zed) [(5,.ptr id1 0),(7,.ptr id3 0),(9,.ptr id5 0),(10,.ptr id7 0)] (stAt [.ready,.done .ret] s.2)]) q its'/\Fp ae H' [.cel id7 [bv b18],.cel id5 [iv a4_],.cel id3 [iv a2_],.cel id1 (ZS a0_),.lp (List.length a2) (lcOf Try.prog i26.nt [19,20] Zef Zed) [(5,.ptr id1 0),(7,.ptr id3 0),(9,.ptr id5 0),(10,.ptr id7 0)] .ready] its') (Fp.get hH 4 rfl) rfl (by decide +kernel) rfl ?_
  show vc _ _ _ _ ⟨[(5,.ptr id1 0),(7,.ptr id3 0),(9,.ptr id5 0),(10,.ptr id7 0),(19,.agg (ZaJ x16)),(20,.agg (ZaJ x17))],[],ae⟩
  refine sq (rgS ⟨[(5,.ptr id1 0),(7,.ptr id3 0),(9,.ptr id5 0),(10,.ptr id7 0),(11,.loc 11 0),(20,.agg (ZaJ x17))],[(11,(ZaJ x16))],ae⟩ ZO.f kr (tq (rgS ⟨[(5,.ptr id1 0),(7,.ptr id3 0),(9,.ptr id5 0),(10,.ptr id7 0),(11,.loc 11 0),(12,.loc 12 0)],[(11,(ZaJ x16)),(12,(ZaJ x17))],ae⟩ ZO.f kr (ZgH (k:=4) hH rfl ?_))))
  intro a1 hH
  replace hH:Fp _ _ _ [.cel id7 [bv b18],.cel id5 [iv a4_],.cel id3 [iv a2_],.cel id1 (ZS a0_),.lp (List.length a2) (lcOf Try.prog i26.nt [19,20] Zef Zed) [(5,.ptr id1 0),(7,.ptr id3 0),(9,.ptr id5 0),(10,.ptr id7 0)] .busy]:=hH
  show vc _ _ _ _ ⟨[(5,.ptr id1 0),(7,.ptr id3 0),(9,.ptr id5 0),(10,.ptr id7 0),(11,.loc 11 0),(12,.loc 12 0)],[(11,(ZaJ x16)),(12,(ZaJ x17))],a1⟩
  refine bk (sq (sq (rgS ⟨[(5,.ptr id1 0),(7,.ptr id3 0),(9,.ptr id5 0),(10,.ptr id7 0),(11,.loc 11 0),(12,.loc 12 0),(23,bv ((x16.Stream==x17.Stream)&&((x16.Port==x17.Port)&&((x16.From==x17.From)&&((x16.Long==x17.Long)&&true)))))],[(11,(ZaJ x16)),(12,(ZaJ x17))],a1⟩ ZO.f kr (tq (it h (λar h=>?_) (λar h=>?_))))))
  ·refine sq ?_
   obtain ⟨aA,aw,hH⟩:=Fp.setCell (k:=0) (off:=0) (cs:=[bv b18]) (vs:=[bv true]) (cs':=[bv true]) hH rfl kr
   replace hH:Fp _ _ _ [.cel id7 [bv true],.cel id5 [iv a4_],.cel id3 [iv a2_],.cel id1 (ZS a0_),.lp (List.length a2) (lcOf Try.prog i26.nt [19,20] Zef Zed) [(5,.ptr id1 0),(7,.ptr id3 0),(9,.ptr id5 0),(10,.ptr id7 0)] .busy]:=hH
   refine rgS ⟨[],[],aA⟩ (ZO.o 0 (Zam (H:=a1) (v:=bv true) (hw:=aw)) ZO.f) kr (tq (rt (tr (br ?_))))
   cases h
   exact rbd (k:=4) (.done .ret) hH rfl rfl (λH6 hH=>⟨_,(Eq.refl _),(Fp.pick hH [0,1,2,3,4] rfl)⟩)
  refine sk (tq (kq (sq ?_)))
  have ad:=Fp.get hH 3 rfl
  have ac:=Fp.get hH 2 rfl
  obtain ⟨ag,al,h⟩:=bs h
  have ab:=Fp.get hH 3 rfl
  have aa:=Fp.get hH 1 rfl
  obtain ⟨af,ak,h⟩:=bs h
  obtain ⟨a8,aj,h⟩:=bs h
  refine rqS ⟨[(10,.ptr id7 0),(13,bv a8.1)],[],a1⟩ (ZO.u 0 (Zaz (ZW (H:=a1) (id:=id1) (off:=0) (cs:=(ZS a0_)) (c:=(ZS a0_)) (r:=.agg (ZS a0_)) (hl:=ad))) (ZO.u 1 (Zaz (ZW (H:=a1) (id:=id3) (off:=0) (cs:=[iv a2_]) (c:=[iv a2_]) (r:=iv a2_) (hl:=ac))) (ZO.u 0 (Zbl (hc:=Zfk N a0_ x16 a2_ ag al)) (ZO.u 0 (Zaz (ZW (H:=a1) (id:=id1) (off:=0) (cs:=(ZS a0_)) (c:=(ZS a0_)) (r:=.agg (ZS a0_)) (hl:=ab))) (ZO.u 1 (Zaz (ZW (H:=a1) (id:=id5) (off:=0) (cs:=[iv a4_]) (c:=[iv a4_]) (r:=iv a4_) (hl:=aa))) (ZO.v 0 (Z7 (hc:=Zfk N a0_ x17 a4_ af ak)) (ZO.v 0 (Z7 (hc:=ZhV N ag af a8 aj)) ZO.f))))))) kr (tq (sq (rgS ⟨[(10,.ptr id7 0),(37,bv (!a8.1))],[],a1⟩ ZO.f kr (tq (it h (λaq h=>?_) (λaq h=>?_))))))
  ·refine sq ?_
   obtain ⟨az,av,hH⟩:=Fp.setCell (k:=0) (off:=0) (cs:=[bv b18]) (vs:=[bv true]) (cs':=[bv true]) hH rfl kr
   replace hH:Fp _ _ _ [.cel id7 [bv true],.cel id5 [iv a4_],.cel id3 [iv a2_],.cel id1 (ZS a0_),.lp (List.length a2) (lcOf Try.prog i26.nt [19,20] Zef Zed) [(5,.ptr id1 0),(7,.ptr id3 0),(9,.ptr id5 0),(10,.ptr id7 0)] .busy]:=hH
   refine rgS ⟨[],[],az⟩ (ZO.o 0 (Zam (H:=a1) (v:=bv true) (hw:=av)) ZO.f) kr (tq (rt (br ?_)))
   cases h
   exact rbd (k:=4) (.done .ret) hH rfl rfl (λH6 hH=>⟨_,(Eq.refl _),(Fp.pick hH [0,1,2,3,4] rfl)⟩)
  refine sk (bn ?_)
  cases h
  exact rbd (k:=4) (.ready) hH rfl rfl (λH6 hH=>⟨_,(Eq.refl _),(Fp.pick hH [0,1,2,3,4] rfl)⟩)
 refine ZeR (s:=⟨[(5,.ptr id1 0),(7,.ptr id3 0),(9,.ptr id5 0),(10,.ptr id7 0),(18,.fn 62 [] [.ptr a5 0,.ptr a4 0,.ptr a3 0])],[],a2⟩) [(5,.ptr id1 0),(7,.ptr id3 0),(9,.ptr id5 0),(10,.ptr id7 0)] (FrOK.cons kr kr (FrOK.cons kr kr (FrOK.cons kr kr (FrOK.cons kr kr FrOK.nil)))) kr (λH=>rfl) (capT:=[.cel a5 (ZS a6.1),.cel a4 [iv a6.2.1],.cel a3 [iv a6.2.2]]) (cells0:=[.cel id7 [bv false],.cel id5 [iv a4_],.cel id3 [iv a2_],.cel id1 (ZS a0_)]) (rest:=[]) (HP.now (HP.pick hH [0,1,2,3,4,5,6] rfl)) (λ(s:(Bool)×Nat) (its:List Zap)=>its=[.cel id7 [bv s.1],.cel id5 [iv a4_],.cel id3 [iv a2_],.cel id1 (ZS a0_)]++[.lp (List.length a2) (lcOf Try.prog i26.nt [19,20] Zef Zed) [(5,.ptr id1 0),(7,.ptr id3 0),(9,.ptr id5 0),(10,.ptr id7 0)] (stAt [.ready,.done .ret] s.2)]) (false,0) a0 (by exact (Eq.refl _)) (λH its hT hH=>Ziv N (λ(s:(Bool)×Nat) (x16:Zax) (x17:Zax)=>Zfp (λv:Bool=>ZbV N a0_ a2_ a4_ v x16 x17) s) a6.1 a6.2.1 a6.2.2 (false,0) a5 a4 a3 (List.length a2) (λ(s:(Bool)×Nat) (its:List Zap)=>its=[.cel id7 [bv s.1],.cel id5 [iv a4_],.cel id3 [iv a2_],.cel id1 (ZS a0_)]++[.lp (List.length a2) (lcOf Try.prog i26.nt [19,20] Zef Zed) [(5,.ptr id1 0),(7,.ptr id3 0),(9,.ptr id5 0),(10,.ptr id7 0)] (stAt [.ready,.done .ret] s.2)]) a9 H its hT hH a0 an) ?_
 rintro its hT
 obtain rfl:=hT
 refine ⟨_,_,rfl,?_⟩
 intro a7 hF
 replace hH:HP _ [.cel a5 (ZS a6.1),.cel a4 [iv a6.2.1],.cel a3 [iv a6.2.2],.cel id7 [bv a0.1],.cel id5 [iv a4_],.cel id3 [iv a2_],.cel id1 (ZS a0_)]:=HP.after (HP.pick hH [0,1,2,3,4,5,6] rfl) hF
 rcases Zau h with ⟨ap,h⟩|⟨_,h⟩
 ·refine Zho (S:=⟨[(5,.ptr id1 0),(7,.ptr id3 0),(9,.ptr id5 0),(10,.ptr id7 0),(18,.fn 62 [] [.ptr a5 0,.ptr a4 0,.ptr a3 0])],[],a7⟩) (e:=.normal) ap rfl (bn (tq (kq ?_)))
  replace hH:HP _ [.cel id7 [bv a0.1]]:=HP.pick hH [3] rfl
  refine sq ?_
  obtain ⟨ax,au,hH⟩:=HP.setCell (k:=0) (off:=0) (cs:=[bv a0.1]) (vs:=[bv false]) (cs':=[bv false]) hH rfl kr
  replace hH:HP _ [.cel id7 [bv false]]:=hH
  refine rgS ⟨[(10,.ptr id7 0)],[],ax⟩ (ZO.o 0 (Zam (H:=a7) (v:=bv false) (hw:=au)) ZO.f) kr (tq (rt ?_))
  obtain rfl:=Zaa h
  exact Zb8 (H:=ax) (ys:=[bv false]) (xs:=[bv false]) kr (Zbz (r:=.cell 10 1 false) (v:=bv false) (Zby (id:=id7) (off:=0) (cs:=[bv false]) (c:=[bv false]) kr (HP.get hH 0 rfl) kr kr) Zda) (ZaA rfl Za3) kr
 rcases Zau h with ⟨ao,h⟩|⟨_,h⟩
 ·refine Zho (S:=⟨[(5,.ptr id1 0),(7,.ptr id3 0),(9,.ptr id5 0),(10,.ptr id7 0),(18,.fn 62 [] [.ptr a5 0,.ptr a4 0,.ptr a3 0])],[],a7⟩) (e:=.ret) ao rfl (br (tr ?_))
  obtain rfl:=Zaa h
  exact Zb8 (H:=a7) (ys:=[bv a0.1]) (xs:=[bv a0.1]) kr (Zbz (r:=.cell 10 1 false) (v:=bv a0.1) (Zby (id:=id7) (off:=0) (cs:=[bv a0.1]) (c:=[bv a0.1]) kr (HP.get hH 3 rfl) kr kr) Zda) (ZaA rfl Za3) kr
 cases h
theorem Zhg (N:Nat)(a0_:Z8)(a1_:(List Int))(a2_:ZaD->Option (Bool×Int))(a2_f:Nat)(a2_p a2_c:List AV)(ha2_n:(noLocL a2_p&&noLocL a2_c)=true)(its:List Zap)(ha2_:∀ (H:List HO) (x0:ZaD) (r:Bool×Int),HP H its->a2_ x0=some r->Zd1 Try.prog (.fn a2_f a2_p a2_c) [.agg [iv x0.Topo.Nodes,s_eB false x0.Topo.Station,ZZ false x0.Topo.Links]] H (.tup [bv r.1,iv r.2]) H)(H:List HO)(hH:HP H (its))(r:Bool×Int)(h:Zew N a0_ a1_ a2_=some r):Za4 Try.prog 76 [.agg (ZP a0_),ZU false a1_,.fn a2_f a2_p a2_c] H (.tup [bv r.1,iv r.2]) H:=by
 unfold Zew at h
 refine Zbf ZzN rfl (by simpa [noLocL,Zaw.noLocL,Zaw] using ha2_n) rfl (Z5 _ _ _ (sq (rg ZO.f (tq (sq (rg ZO.f (tq (sq (sq ?_)))))))))
 obtain ⟨r1,hr1,h⟩:=bs h
 refine rg (ZO.v 2 (Z7 (hc:=Zgm N a0_ a1_ r1 hr1)) ZO.f) (tq (sq (rg ZO.f (tq (it h (λhc2 h=>?_) (λhc2 h=>?_))))))
 ·refine sq (rg ZO.f (tq (rt (tr ?_))))
  cases h
  exact Za0 kr kr
 refine sk (tq (kq (sq ?_)))
 obtain ⟨r3,hr3,h⟩:=bs h
 have hvr3:=ha2_ _ (ZaD.mk a0_) _ hH hr3
 refine rg (ZO.v 3 (ZbF (H:=H) (ys:=[.agg (ZP a0_)]) (hc:=hvr3)) ZO.f) (tq (rt ?_))
 cases h
 exact Za0 kr kr
theorem ZiY (N:Nat)(a0_:Z8)(a1_:(List Int))(r:(List Int)×Int)(h:Zgx N a0_ a1_=some r):PCall Try.prog 84 [.agg (ZP a0_),ZU false a1_] (.tup [ZU false r.1,iv r.2]):=by
 unfold Zgx at h
 have hH  := hp0
 refine Zal ZzF rfl rfl (Z5 _ _ _ ?_) rfl
 refine sq ?_
 obtain ⟨id1,H2,hid1,hH2,hH⟩:=HP.newCell hH [ZU false a1_]
 replace hH:HP _ [.cel id1 [ZU false a1_]]:=hH
 refine rg (ZO.h 1 (Zbb (H:=[]) (v:=ZU false a1_) (hid:=hid1) (hH:=hH2)) ZO.f) (tq (sq ?_))
 have hlc3:=HP.get hH 0 rfl
 obtain ⟨r4,hr4,h⟩:=bs h
 have hvr4:=(Zhh N a0_ a1_ (λx0=>ZdF N x0 a1_)   90 [] [.ptr id1 0] kr [.cel id1 [ZU false a1_]] (λH x0 r hH h=>Zd1.of kr (ZhR N  x0 a1_ id1 H hH r h)) H2 (HP.now (HP.pick hH [0] rfl)) r4 hr4)
 refine rg (ZO.u 1 (ZW (H:=H2) (id:=id1) (off:=0) (cs:=[ZU false a1_]) (c:=[ZU false a1_]) (r:=ZU false a1_) (hl:=hlc3)) (ZO.v 1 (Zc7 (H:=H2) (ys:=[.agg (ZP a0_),ZU false a1_,.fn 90 [] [.ptr id1 0]]) kr kr kr hvr4) ZO.f)) ?_
 replace hH:HP _ []:=HP.pick hH [] rfl
 refine tq (rt ?_)
 cases h
 exact Zab kr
theorem ZhG (N:Nat)(a0_:Zaf)(a1_:(List Int))(r:Bool×Int)(h:ZgO N a0_ a1_=some r):PCall Try.prog 13 [.agg (ZS a0_),ZU false a1_] (.tup [bv r.1,iv r.2]):=by
 unfold ZgO at h
 have hH  := hp0
 refine Zal ZAO rfl rfl (Z5 _ _ _ ?_) rfl
 refine sq (rg ZO.f (tq (sq (sq ?_))))
 obtain ⟨r1,hr1,h⟩:=bs h
 refine rg (ZO.v 1 (Z7 (hc:=ZgQ N a0_ r1 hr1)) ZO.f) (tq (sq (rg ZO.f (tq (it h (λhc2 h=>?_) (λhc2 h=>?_))))))
 ·refine sq (rg ZO.f (tq (rt (tr ?_))))
  cases h
  exact Zab kr
 refine sk (tq (kq (sq (sq (rg (ZO.u 1 (Z0 (ys:=[ZU false a1_]) (h:=Z6 eI64)) (ZO.u 2 (Z0 (ys:=[ZU false a0_.Periods]) (h:=Z6 eI64)) ZO.f)) (tq (it h (λhc3 h=>?_) (λhc3 h=>?_))))))))
 ·refine sq (rg ZO.f (tq (rt (tr ?_))))
  cases h
  exact Zab kr
 refine sk (tq (kq (sq (sq (rg (ZO.u 1 (Z0 (ys:=[ZU false a1_]) (h:=Z6 eI64)) ZO.f) (tq (bk ?_)))))))
 obtain ⟨al,ab,h⟩:=bs h
 refine ZaG ((Zat (λ(x:Int) s=>s=⟨[(1,ZU false a1_),(2,.loc 2 0),(24,ZU false a1_),(25,iv ((List.length a1_:Nat):Int)),(26,iv x)],[(2,(ZS a0_))],[]⟩) (λx:Int=>Zei N a0_ a1_ x) (λ(p:(Unit)⊕(Bool×Int)) e s=>match p with|(.inl p)=>e=.exit 0/\(s=⟨[(1,ZU false a1_),(2,.loc 2 0)],[(2,(ZS a0_))],[]⟩)|(.inr p)=>e=.ret/\∃ xs,resL s i13.res=some xs/\Zbd xs=.tup [bv p.1,iv p.2]) ?_ N _ al _ ab kr).mono ?_)
 ·clear h ab
  rintro i4 o s h hR
  obtain rfl:=hR
  replace h:Zei N a0_ a1_ i4=some o:=h
  unfold Zei at h
  refine sq (rg ZO.f (tq (sq (it h (λao h=>?_) (λao h=>?_)))))
  ·refine sk (tq (kq (sq (bk (sq ?_)))))
   obtain ⟨aj,ac,h⟩:=bs h
   refine rg (ZO.u 1 (Z0 (ys:=[ZU false a1_,iv i4]) (h:=ZY eI64 ac)) (ZO.u 0 (Zae (sz:=1) (off:=0) (cs:=[.int .i64 aj]) (r:=iv aj) eI64 ac) ZO.f)) (tq (sq ?_))
   obtain ⟨ap,am,h⟩:=bs h
   refine rg (ZO.v 3 (Z7 (hc:=Zi1 N a0_ i4 aj ap am)) ZO.f) (tq (it h (λan h=>?_) (λan h=>?_)))
   ·refine sq (rg ZO.f (tq (rt (br (tr ?_)))))
    cases h
    exact ⟨_,rfl,rfl,Zab kr⟩
   refine sk (bn (tq (kq (rg ZO.f ?_))))
   cases h
   exact ⟨_,rfl,kr⟩
  refine kq (xq (tx ?_))
  cases h
  exact ⟨_,rfl,rfl,kr⟩
 rintro e s hq
 rcases al with ax|aq
 ·dsimp only at h hq
  obtain ⟨rfl,hR⟩:=hq
  obtain rfl:=hR
  refine bx (tq (sq (sq (rg (ZO.u 1 (Z0 (ys:=[ZU false a1_]) (h:=Z6 eI64)) ZO.f) (tq (bk ?_))))))
  obtain ⟨a9,a4,h⟩:=bs h
  refine ZaG ((Zat (λ(x:Int) s=>s=⟨[(1,ZU false a1_),(2,.loc 2 0),(37,ZU false a1_),(38,iv ((List.length a1_:Nat):Int)),(39,iv x)],[(2,(ZS a0_))],[]⟩) (λx:Int=>Zeh N a0_ a1_ x) (λ(p:(Unit)⊕(Bool×Int)) e s=>match p with|(.inl p)=>e=.exit 2/\(s=⟨[],[],[]⟩)|(.inr p)=>e=.ret/\∃ xs,resL s i13.res=some xs/\Zbd xs=.tup [bv p.1,iv p.2]) ?_ N _ a9 _ a4 kr).mono ?_)
  ·clear h a4
   rintro a2 o s h hR
   obtain rfl:=hR
   replace h:Zeh N a0_ a1_ a2=some o:=h
   unfold Zeh at h
   refine sq (rg ZO.f (tq (sq (it h (λai h=>?_) (λai h=>?_)))))
   ·refine sk (tq (kq (sq (bk (sq ?_)))))
    obtain ⟨a1,a7,h⟩:=bs h
    refine rg (ZO.u 1 (Z0 (ys:=[ZU false a1_,iv a2]) (h:=ZY eI64 a7)) (ZO.u 0 (Zae (sz:=1) (off:=0) (cs:=[.int .i64 a1]) (r:=iv a1) eI64 a7) ZO.f)) (tq (sq ?_))
    obtain ⟨a0,ae,h⟩:=bs h
    refine rg (ZO.u 3 (Z0 (ys:=[ZU false a1_,iv (w64 (a2+1))]) (h:=Zdw eI64 ae)) (ZO.u 0 (Z0 (ys:=[ZU false a0]) (h:=Z6 eI64)) ZO.f)) (tq (bk ?_))
    obtain ⟨aa,a5,h⟩:=bs h
    refine ZaG ((Zat (λ(x:Int) s=>s=⟨[(1,ZU false a1_),(2,.loc 2 0),(9,iv a2),(10,iv a1),(37,ZU false a1_),(38,iv ((List.length a1_:Nat):Int)),(39,iv a2),(47,ZU false a0),(48,iv ((List.length a0:Nat):Int)),(49,iv x)],[(2,(ZS a0_))],[]⟩) (λx:Int=>Zeg N a0_ a2 a1 a0 x) (λ(p:(Unit)⊕(Bool×Int)) e s=>match p with|(.inl p)=>e=.exit 4/\(s=⟨[(1,ZU false a1_),(2,.loc 2 0),(37,ZU false a1_),(38,iv ((List.length a1_:Nat):Int)),(39,iv a2)],[(2,(ZS a0_))],[]⟩)|(.inr p)=>e=.ret/\∃ xs,resL s i13.res=some xs/\Zbd xs=.tup [bv p.1,iv p.2]) ?_ N _ aa _ a5 kr).mono ?_)
    ·clear h a5
     rintro a3 o s h hR
     obtain rfl:=hR
     replace h:Zeg N a0_ a2 a1 a0 a3=some o:=h
     unfold Zeg at h
     refine sq (rg ZO.f (tq (sq (it h (λag h=>?_) (λag h=>?_)))))
     ·refine sk (tq (kq (sq (bk (sq ?_)))))
      obtain ⟨a8,a6,h⟩:=bs h
      refine rg (ZO.u 1 (Z0 (ys:=[ZU false a0,iv a3]) (h:=ZY eI64 a6)) (ZO.u 0 (Zae (sz:=1) (off:=0) (cs:=[.int .i64 a8]) (r:=iv a8) eI64 a6) ZO.f)) (tq (sq ?_))
      obtain ⟨ak,ad,h⟩:=bs h
      refine rg (ZO.v 5 (Z7 (hc:=ZhX N a0_ a3 a8 a2 a1 ak ad)) ZO.f) (tq (it h (λaf h=>?_) (λaf h=>?_)))
      ·refine sq (rg ZO.f (tq (rt (br (tr ?_)))))
       cases h
       exact ⟨_,rfl,rfl,Zab kr⟩
      refine sk (bn (tq (kq (rg ZO.f ?_))))
      cases h
      exact ⟨_,rfl,kr⟩
     refine kq (xq (tx ?_))
     cases h
     exact ⟨_,rfl,rfl,kr⟩
    rintro e s hq
    rcases aa with aw|av
    ·dsimp only at h hq
     obtain ⟨rfl,hR⟩:=hq
     obtain rfl:=hR
     refine bx (bn (tq (rg ZO.f ?_)))
     cases h
     exact ⟨_,rfl,kr⟩
    dsimp only at h hq
    obtain ⟨rfl,hq⟩:=hq
    refine br (br (tr ?_))
    cases h
    exact ⟨_,rfl,rfl,hq⟩
   refine kq (xq (tx ?_))
   cases h
   exact ⟨_,rfl,rfl,kr⟩
  rintro e s hq
  rcases a9 with au|ar
  ·dsimp only at h hq
   obtain ⟨rfl,hR⟩:=hq
   obtain rfl:=hR
   refine bx (tq (sq (rg ZO.f (tq (rt ?_)))))
   cases h
   exact Zab kr
  dsimp only at h hq
  obtain ⟨rfl,hq⟩:=hq
  refine br (tr ?_)
  cases h
  exact hq
 dsimp only at h hq
 obtain ⟨rfl,hq⟩:=hq
 refine br (tr ?_)
 cases h
 exact hq
theorem ZgP (N:Nat)(a0_:Zaf)(r:Int×Int)(h:ZfY N a0_=some r):PCall Try.prog 14 [.agg (ZS a0_)] (.tup [iv r.1,iv r.2]):=by
 unfold ZfY at h
 have hH  := hp0
 refine Zal ZAN rfl rfl (Z5 _ _ _ ?_) rfl
 refine sq (rg ZO.f (tq (sq (sq ?_))))
 obtain ⟨r1,hr1,h⟩:=bs h
 refine rg (ZO.v 1 (Z7 (hc:=ZgQ N a0_ r1 hr1)) ZO.f) (tq (sq (rg ZO.f (tq (it h (λhc2 h=>?_) (λhc2 h=>?_))))))
 ·refine sq (rg ZO.f (tq (rt (tr ?_))))
  cases h
  exact Zab kr
 refine sk (tq (kq (sq ?_)))
 obtain ⟨r3,hr3,h⟩:=bs h
 refine rg (ZO.v 2 (Z7 (hc:=Ze6 N a0_.Periods r3 hr3)) ZO.f) (tq (rt ?_))
 cases h
 exact Zab kr
theorem ZiZ (N:Nat)(a0_:Z8)(a1_:(List Int))(a2_:(List Int))(r:Bool×Int)(h:Zgy N a0_ a1_ a2_=some r):PCall Try.prog 61 [.agg (ZP a0_),ZU false a1_,ZU false a2_] (.tup [bv r.1,iv r.2]):=by
 unfold Zgy at h
 have hH  := hp0
 refine Zal Zz2 rfl rfl (Z5 _ _ _ ?_) rfl
 refine sq ?_
 obtain ⟨id1,H2,hid1,hH2,hH⟩:=HP.newCell hH [ZU false a1_]
 replace hH:HP _ [.cel id1 [ZU false a1_]]:=hH
 obtain ⟨id3,H4,hid3,hH4,hH⟩:=HP.newCell hH [ZU false a2_]
 replace hH:HP _ [.cel id3 [ZU false a2_],.cel id1 [ZU false a1_]]:=hH
 refine rg (ZO.h 1 (Zbb (H:=[]) (v:=ZU false a1_) (hid:=hid1) (hH:=hH2)) (ZO.h 0 (Zbb (H:=H2) (v:=ZU false a2_) (hid:=hid3) (hH:=hH4)) ZO.f)) (tq (sq ?_))
 have hlc5:=HP.get hH 1 rfl
 obtain ⟨r6,hr6,h⟩:=bs h
 have hvr6:=(Zhg N a0_ a1_ (λx0=>ZdG N x0 a2_ a1_)   77 [] [.ptr id3 0,.ptr id1 0] kr [.cel id3 [ZU false a2_],.cel id1 [ZU false a1_]] (λH x0 r hH h=>Zd1.of kr (ZhS N  x0 a2_ a1_ id3 id1 H hH r h)) H4 (HP.now (HP.pick hH [0,1] rfl)) r6 hr6)
 refine rg (ZO.u 1 (ZW (H:=H4) (id:=id1) (off:=0) (cs:=[ZU false a1_]) (c:=[ZU false a1_]) (r:=ZU false a1_) (hl:=hlc5)) (ZO.v 1 (Zc7 (H:=H4) (ys:=[.agg (ZP a0_),ZU false a1_,.fn 77 [] [.ptr id3 0,.ptr id1 0]]) kr kr kr hvr6) ZO.f)) ?_
 replace hH:HP _ []:=HP.pick hH [] rfl
 refine tq (rt ?_)
 cases h
 exact Zab kr
theorem Zjy (N:Nat)(a0_:Z8)(a1_:(List Int))(r:Int×Int×Int)(h:Zhi N a0_ a1_=some r):PCall Try.prog 75 [.agg (ZP a0_),ZU false a1_] (.tup [iv r.1,iv r.2.1,iv r.2.2]):=by
 unfold Zhi at h
 have hH  := hp0
 refine Zal ZzO rfl rfl (Z5 _ _ _ ?_) rfl
 refine sq (rg ZO.f (tq (sq ?_)))
 obtain ⟨r1,hr1,h⟩:=bs h
 refine rg (ZO.v 2 (Z7 (hc:=ZiY N a0_ a1_ r1 hr1)) ZO.f) (tq (sq (sq (rg ZO.f (tq (it h (λhc2 h=>?_) (λhc2 h=>?_)))))))
 ·refine sq (rg ZO.f (tq (rt (tr ?_))))
  cases h
  exact Zab kr
 refine sk (tq (kq (sq ?_)))
 obtain ⟨e3,he3,h⟩:=bs h
 obtain ⟨e4,he4,h⟩:=bs h
 refine rq (ZO.u 1 (Z0 (ys:=[ZU false r1.1,iv 0]) (h:=ZY eI64 he3)) (ZO.u 0 (Zaz (Zae (sz:=1) (off:=0) (cs:=[.int .i64 e3]) (r:=iv e3) eI64 he3)) (ZO.u 2 (Z0 (ys:=[ZU false r1.1]) (h:=Z6 eI64)) (ZO.u 1 (Z0 (ys:=[ZU false r1.1,iv (w64 (((List.length r1.1:Nat):Int)-1))]) (h:=ZY eI64 he4)) (ZO.u 0 (Zaz (Zae (sz:=1) (off:=0) (cs:=[.int .i64 e4]) (r:=iv e4) eI64 he4)) ZO.f))))) (tq (rt ?_))
 cases h
 exact Zab kr
theorem Zig (N:Nat)(a0_:Z8)(a1_:(List Int))(a2_:Int)(a3_:Int)(r:Bool)(h:Zfw N a0_ a1_ a2_ a3_=some r):PCall Try.prog 59 [.agg (ZP a0_),ZU false a1_,iv a2_,iv a3_] (bv r):=by
 unfold Zfw at h
 have hH  := hp0
 refine Zal Zz4 rfl rfl (Z5 _ _ _ ?_) rfl
 refine sq (rg ZO.f (tq (sq ?_)))
 obtain ⟨r1,hr1,h⟩:=bs h
 refine rg (ZO.v 2 (Z7 (hc:=Zjy N a0_ a1_ r1 hr1)) ZO.f) (tq (sq (rgX ⟨[(8,bv ((r1.2.2==0)&&((r1.1==a2_)&&(r1.2.1==a3_))))],[],[]⟩ ?_ ?_)))
 ·rcases Bool.eq_false_or_eq_true (r1.2.2==0) with hc2|hc5
  ·refine (EP.u 1 (ZX (c:=(r1.2.2==0)) (h:=hc2)) ?_)
   rcases Bool.eq_false_or_eq_true (r1.1==a2_) with hc3|hc4
   ·exact (EP.u 3 (ZX (c:=(r1.1==a2_)) (h:=hc3)) (EP.f (by simp only [hc2,hc3];kernel_rfl)))
   exact (EP.u 3 (ZX (c:=(r1.1==a2_)) (h:=hc4)) (EP.f (by simp only [hc2,hc4];kernel_rfl)))
  exact (EP.u 1 (ZX (c:=(r1.2.2==0)) (h:=hc5)) (EP.f (by simp only [hc5];kernel_rfl)))
 refine tq (rt ?_)
 cases h
 exact Zab kr
theorem Zg6 (N:Nat)(c0_:Z9)(c1_:Z8)(k0_:Nat)(k1_:Nat)(H:List HO)(hH:HP H [.cel k0_ (ZV c0_),.cel k1_ (ZP c1_)])(r:Bool)(h:Zeo N c0_ c1_=some r):Za4 Try.prog 60 [.ptr k0_ 0,.ptr k1_ 0] H (bv r) H:=by
 unfold Zeo at h
 refine Zbf Zz3 rfl rfl rfl (Z5 _ _ _ (sq (rg ZO.f (tq (sq (sq ?_))))))
 have hlc1:=HP.get hH 0 rfl
 refine rg (ZO.u 1 (ZW (H:=H) (id:=k0_) (off:=9) (cs:=(ZV c0_)) (c:=[Zar false c0_.Routes]) (r:=Zar false c0_.Routes) (hl:=hlc1)) (ZO.u 0 (Z0 (ys:=[Zar false c0_.Routes]) (h:=Z6 (eSl 1 eI64))) ZO.f)) (tq (it h (λhc2 h=>?_) (λhc2 h=>?_)))
 ·refine sq (rg ZO.f ?_)
  replace hH:HP _ []:=HP.pick hH [] rfl
  refine tq (rt (tr ?_))
  cases h
  exact Za0 kr kr
 refine sk (tq (kq (sq ?_)))
 have hlc3:=HP.get hH 1 rfl
 have hlc4:=HP.get hH 0 rfl
 obtain ⟨e5,he5,h⟩:=bs h
 have hlc6:=HP.get hH 0 rfl
 obtain ⟨e7,he7,h⟩:=bs h
 obtain ⟨r8,hr8,h⟩:=bs h
 refine rq (ZO.u 0 (Zaz (ZW (H:=H) (id:=k1_) (off:=0) (cs:=(ZP c1_)) (c:=(ZP c1_)) (r:=.agg (ZP c1_)) (hl:=hlc3))) (ZO.u 1 (Zaz (ZW (H:=H) (id:=k0_) (off:=9) (cs:=(ZV c0_)) (c:=[Zar false c0_.Routes]) (r:=Zar false c0_.Routes) (hl:=hlc4))) (ZO.u 0 (Z0 (ys:=[Zar false c0_.Routes,iv 0]) (h:=ZY (eSl 1 eI64) he5)) (ZO.u 0 (Zaz (Zae (sz:=1) (off:=0) (cs:=[.sl 1 false (List.map eI64 e5)]) (r:=ZU false e5) (eSl 1 eI64) he5)) (ZO.u 1 (Zaz (ZW (H:=H) (id:=k0_) (off:=9) (cs:=(ZV c0_)) (c:=[Zar false c0_.Routes]) (r:=Zar false c0_.Routes) (hl:=hlc6))) (ZO.u 0 (Z0 (ys:=[Zar false c0_.Routes,iv 1]) (h:=ZY (eSl 1 eI64) he7)) (ZO.u 0 (Zaz (Zae (sz:=1) (off:=0) (cs:=[.sl 1 false (List.map eI64 e7)]) (r:=ZU false e7) (eSl 1 eI64) he7)) (ZO.v 0 (Z7 (hc:=ZiZ N c1_ e5 e7 r8 hr8)) ZO.f)))))))) ?_
 replace hH:HP _ []:=HP.pick hH [] rfl
 refine tq (sq (rgX ⟨[(2,bv ((r8.2==0)&&r8.1))],[],H⟩ ?_ ?_))
 ·rcases Bool.eq_false_or_eq_true (r8.2==0) with hc9|a0
  ·exact (EP.u 1 (ZX (c:=(r8.2==0)) (h:=hc9)) (EP.f (by simp only [hc9];kernel_rfl)))
  exact (EP.u 1 (ZX (c:=(r8.2==0)) (h:=a0)) (EP.f (by simp only [a0];kernel_rfl)))
 refine tq (rt ?_)
 cases h
 exact Za0 kr kr
theorem Zg7 (N:Nat)(c0_:Z9)(c1_:Z8)(k0_:Nat)(k1_:Nat)(H:List HO)(hH:HP H [.cel k0_ (ZV c0_),.cel k1_ (ZP c1_)])(r:Bool)(h:Zep N c0_ c1_=some r):Za4 Try.prog 58 [.ptr k0_ 0,.ptr k1_ 0] H (bv r) H:=by
 unfold Zep at h
 refine Zbf Zz5 rfl rfl rfl (Z5 _ _ _ (sq (rg ZO.f (tq (sq (sq ?_))))))
 have hlc1:=HP.get hH 0 rfl
 refine rg (ZO.u 1 (ZW (H:=H) (id:=k0_) (off:=9) (cs:=(ZV c0_)) (c:=[Zar false c0_.Routes]) (r:=Zar false c0_.Routes) (hl:=hlc1)) (ZO.u 0 (Z0 (ys:=[Zar false c0_.Routes]) (h:=Z6 (eSl 1 eI64))) ZO.f)) (tq (bk ?_))
 obtain ⟨a6,a0,h⟩:=bs h
 refine ZaG ((Zat (λ(x:Int) s=>s=⟨[(0,.ptr k0_ 0),(1,.ptr k1_ 0),(6,Zar false c0_.Routes),(7,iv ((List.length c0_.Routes:Nat):Int)),(8,iv x)],[],H⟩) (λx:Int=>Zcc N c0_ c1_ x) (λ(p:(Unit)⊕(Bool)) e s=>match p with|(.inl p)=>e=.exit 0/\(s=⟨[],[],H⟩)|(.inr p)=>e=.ret/\∃ xs,rawL s i58.res=some xs/\Zbd (weakVs xs)=bv p/\s.H=H) ?_ N _ a6 _ a0 kr).mono ?_)
 ·clear h a0
  rintro i2 o s h hR
  obtain rfl:=hR
  replace h:Zcc N c0_ c1_ i2=some o:=h
  unfold Zcc at h
  refine sq (rg ZO.f (tq (sq (it h (λa9 h=>?_) (λa9 h=>?_)))))
  ·refine sk (tq (kq (sq (bk (sq ?_)))))
   obtain ⟨a5,a1,h⟩:=bs h
   refine rg (ZO.u 0 (Z0 (ys:=[Zar false c0_.Routes,iv i2]) (h:=ZY (eSl 1 eI64) a1)) (ZO.u 0 (Zae (sz:=1) (off:=0) (cs:=[.sl 1 false (List.map eI64 a5)]) (r:=ZU false a5) (eSl 1 eI64) a1) ZO.f)) (tq (sq ?_))
   have a4:=HP.get hH 1 rfl
   have a3:=HP.get hH 0 rfl
   have a2:=HP.get hH 0 rfl
   obtain ⟨aa,a7,h⟩:=bs h
   refine rg (ZO.u 0 (ZW (H:=H) (id:=k1_) (off:=0) (cs:=(ZP c1_)) (c:=(ZP c1_)) (r:=.agg (ZP c1_)) (hl:=a4)) (ZO.u 2 (ZW (H:=H) (id:=k0_) (off:=1) (cs:=(ZV c0_)) (c:=[iv c0_.Talker]) (r:=iv c0_.Talker) (hl:=a3)) (ZO.u 1 (ZW (H:=H) (id:=k0_) (off:=2) (cs:=(ZV c0_)) (c:=[iv c0_.Listener]) (r:=iv c0_.Listener) (hl:=a2)) (ZO.v 0 (Z7 (hc:=Zig N c1_ a5 c0_.Talker c0_.Listener aa a7)) ZO.f)))) (tq (it h (λa8 h=>?_) (λa8 h=>?_)))
   ·refine sq (rg ZO.f ?_)
    replace hH:HP _ []:=HP.pick hH [] rfl
    refine tq (rt (br (tr ?_)))
    cases h
    exact ⟨_,rfl,rfl,Za0 kr kr⟩
   refine sk (bn (tq (kq (rg ZO.f ?_))))
   cases h
   exact ⟨_,rfl,kr⟩
  refine kq ?_
  replace hH:HP _ []:=HP.pick hH [] rfl
  refine xq (tx ?_)
  cases h
  exact ⟨_,rfl,rfl,kr⟩
 rintro e s hq
 rcases a6 with ac|ab
 ·dsimp only at h hq
  obtain ⟨rfl,hR⟩:=hq
  obtain rfl:=hR
  replace hH:HP _ []:=HP.pick hH [] rfl
  refine bx (tq (sq (rg ZO.f (tq (rt ?_)))))
  cases h
  exact Za0 kr kr
 dsimp only at h hq
 obtain ⟨rfl,hq⟩:=hq
 refine br (tr ?_)
 cases h
 exact hq
theorem Zfv (N:Nat)(a0_:Z8)(a1_:Z9)(r:Bool)(h:Zd9 N a0_ a1_=some r):PCall Try.prog 33 [.agg (ZP a0_),.agg (ZV a1_)] (bv r):=by
 unfold Zd9 at h
 have hH  := hp0
 refine Zal ZAu rfl rfl (Z5 _ _ _ ?_) rfl
 refine sq ?_
 obtain ⟨id1,H2,hid1,hH2,hH⟩:=HP.newCell hH (ZP a0_)
 replace hH:HP _ [.cel id1 (ZP a0_)]:=hH
 obtain ⟨id3,H4,hid3,hH4,hH⟩:=HP.newCell hH (ZV a1_)
 replace hH:HP _ [.cel id3 (ZV a1_),.cel id1 (ZP a0_)]:=hH
 refine rg (ZO.h 0 (Zbb (H:=[]) (v:=.agg (ZP a0_)) (hid:=hid1) (hH:=hH2)) (ZO.h 0 (Zbb (H:=H2) (v:=.agg (ZV a1_)) (hid:=hid3) (hH:=hH4)) ZO.f)) (tq (sq ?_))
 obtain ⟨id5,H6,hid5,hH6,hH⟩:=HP.newCell hH [.fn 50 [] [.ptr id3 0],.fn 51 [] [.ptr id1 0,.ptr id3 0],.fn 53 [] [.ptr id3 0],.fn 54 [] [.ptr id3 0],.fn 55 [] [.ptr id3 0],.fn 57 [] [.ptr id3 0],.fn 58 [] [.ptr id3 0,.ptr id1 0],.fn 60 [] [.ptr id3 0,.ptr id1 0]]
 replace hH:HP _ [.cel id5 [.fn 50 [] [.ptr id3 0],.fn 51 [] [.ptr id1 0,.ptr id3 0],.fn 53 [] [.ptr id3 0],.fn 54 [] [.ptr id3 0],.fn 55 [] [.ptr id3 0],.fn 57 [] [.ptr id3 0],.fn 58 [] [.ptr id3 0,.ptr id1 0],.fn 60 [] [.ptr id3 0,.ptr id1 0]],.cel id3 (ZV a1_),.cel id1 (ZP a0_)]:=hH
 refine rg (ZO.h 8 (ZmO (H:=H4) (ys:=[.fn 50 [] [.ptr id3 0],.fn 51 [] [.ptr id1 0,.ptr id3 0],.fn 53 [] [.ptr id3 0],.fn 54 [] [.ptr id3 0],.fn 55 [] [.ptr id3 0],.fn 57 [] [.ptr id3 0],.fn 58 [] [.ptr id3 0,.ptr id1 0],.fn 60 [] [.ptr id3 0,.ptr id1 0]]) kr kr kr hid5 hH6) ZO.f) (tq (sq (sq (rg ZO.f (tq (bk (ZjY 18 (ZbX (sq (rg ZO.f (tq (sq (Zdk kr (sk (tq (kq (sq (bk (sq ?_)))))))))))))))))))
 have hlc7:=HP.get hH 0 rfl
 refine rg (ZO.u 1 (ZW (H:=H6) (id:=id5) (off:=0) (cs:=[.fn 50 [] [.ptr id3 0],.fn 51 [] [.ptr id1 0,.ptr id3 0],.fn 53 [] [.ptr id3 0],.fn 54 [] [.ptr id3 0],.fn 55 [] [.ptr id3 0],.fn 57 [] [.ptr id3 0],.fn 58 [] [.ptr id3 0,.ptr id1 0],.fn 60 [] [.ptr id3 0,.ptr id1 0]]) (c:=[.fn 50 [] [.ptr id3 0]]) (r:=.fn 50 [] [.ptr id3 0]) (hl:=hlc7)) ZO.f) (tq (sq ?_))
 obtain ⟨r8,hr8,h⟩:=bs h
 have hvr8:=(Zhd N  a1_ id3 H6 (HP.now (HP.pick hH [1] rfl)) r8 hr8)
 refine rg (ZO.v 1 (ZbF (H:=H6) (fv:=.fn 50 [] [.ptr id3 0]) (ys:=[]) (hc:=Zd1.of kr hvr8)) ZO.f) (tq (it h (λhc9 h=>?_) (λhc9 h=>?_)))
 ·refine sq (rg ZO.f ?_)
  replace hH:HP _ []:=HP.pick hH [] rfl
  refine tq (rt (br (tr (tr (br (tr ?_))))))
  cases h
  exact Zab kr
 refine sk (bn (tq (kq (rg ZO.f (tq (ZbX (sq (rg ZO.f (tq (sq (Zdk kr (sk (tq (kq (sq (bk (sq ?_)))))))))))))))))
 have ad:=HP.get hH 0 rfl
 refine rg (ZO.u 1 (ZW (H:=H6) (id:=id5) (off:=1) (cs:=[.fn 50 [] [.ptr id3 0],.fn 51 [] [.ptr id1 0,.ptr id3 0],.fn 53 [] [.ptr id3 0],.fn 54 [] [.ptr id3 0],.fn 55 [] [.ptr id3 0],.fn 57 [] [.ptr id3 0],.fn 58 [] [.ptr id3 0,.ptr id1 0],.fn 60 [] [.ptr id3 0,.ptr id1 0]]) (c:=[.fn 51 [] [.ptr id1 0,.ptr id3 0]]) (r:=.fn 51 [] [.ptr id1 0,.ptr id3 0]) (hl:=ad)) ZO.f) (tq (sq ?_))
 obtain ⟨aB,al,h⟩:=bs h
 have a6:=(Zhc N  a0_ a1_ id1 id3 H6 (HP.now (HP.pick hH [2,1] rfl)) aB al)
 refine rg (ZO.v 1 (ZbF (H:=H6) (fv:=.fn 51 [] [.ptr id1 0,.ptr id3 0]) (ys:=[]) (hc:=Zd1.of kr a6)) ZO.f) (tq (it h (λau h=>?_) (λau h=>?_)))
 ·refine sq (rg ZO.f ?_)
  replace hH:HP _ []:=HP.pick hH [] rfl
  refine tq (rt (br (tr (tr (br (tr ?_))))))
  cases h
  exact Zab kr
 refine sk (bn (tq (kq (rg ZO.f (tq (ZbX (sq (rg ZO.f (tq (sq (Zdk kr (sk (tq (kq (sq (bk (sq ?_)))))))))))))))))
 have ac:=HP.get hH 0 rfl
 refine rg (ZO.u 1 (ZW (H:=H6) (id:=id5) (off:=2) (cs:=[.fn 50 [] [.ptr id3 0],.fn 51 [] [.ptr id1 0,.ptr id3 0],.fn 53 [] [.ptr id3 0],.fn 54 [] [.ptr id3 0],.fn 55 [] [.ptr id3 0],.fn 57 [] [.ptr id3 0],.fn 58 [] [.ptr id3 0,.ptr id1 0],.fn 60 [] [.ptr id3 0,.ptr id1 0]]) (c:=[.fn 53 [] [.ptr id3 0]]) (r:=.fn 53 [] [.ptr id3 0]) (hl:=ac)) ZO.f) (tq (sq ?_))
 obtain ⟨aA,ak,h⟩:=bs h
 have a5:=(Zhb N  a1_ id3 H6 (HP.now (HP.pick hH [1] rfl)) aA ak)
 refine rg (ZO.v 1 (ZbF (H:=H6) (fv:=.fn 53 [] [.ptr id3 0]) (ys:=[]) (hc:=Zd1.of kr a5)) ZO.f) (tq (it h (λar h=>?_) (λar h=>?_)))
 ·refine sq (rg ZO.f ?_)
  replace hH:HP _ []:=HP.pick hH [] rfl
  refine tq (rt (br (tr (tr (br (tr ?_))))))
  cases h
  exact Zab kr
 refine sk (bn (tq (kq (rg ZO.f (tq (ZbX (sq (rg ZO.f (tq (sq (Zdk kr (sk (tq (kq (sq (bk (sq ?_)))))))))))))))))
 have ab:=HP.get hH 0 rfl
 refine rg (ZO.u 1 (ZW (H:=H6) (id:=id5) (off:=3) (cs:=[.fn 50 [] [.ptr id3 0],.fn 51 [] [.ptr id1 0,.ptr id3 0],.fn 53 [] [.ptr id3 0],.fn 54 [] [.ptr id3 0],.fn 55 [] [.ptr id3 0],.fn 57 [] [.ptr id3 0],.fn 58 [] [.ptr id3 0,.ptr id1 0],.fn 60 [] [.ptr id3 0,.ptr id1 0]]) (c:=[.fn 54 [] [.ptr id3 0]]) (r:=.fn 54 [] [.ptr id3 0]) (hl:=ab)) ZO.f) (tq (sq ?_))
 obtain ⟨az,aj,h⟩:=bs h
 have a4:=(Zha N  a1_ id3 H6 (HP.now (HP.pick hH [1] rfl)) az aj)
 refine rg (ZO.v 1 (ZbF (H:=H6) (fv:=.fn 54 [] [.ptr id3 0]) (ys:=[]) (hc:=Zd1.of kr a4)) ZO.f) (tq (it h (λaq h=>?_) (λaq h=>?_)))
 ·refine sq (rg ZO.f ?_)
  replace hH:HP _ []:=HP.pick hH [] rfl
  refine tq (rt (br (tr (tr (br (tr ?_))))))
  cases h
  exact Zab kr
 refine sk (bn (tq (kq (rg ZO.f (tq (ZbX (sq (rg ZO.f (tq (sq (Zdk kr (sk (tq (kq (sq (bk (sq ?_)))))))))))))))))
 have aa:=HP.get hH 0 rfl
 refine rg (ZO.u 1 (ZW (H:=H6) (id:=id5) (off:=4) (cs:=[.fn 50 [] [.ptr id3 0],.fn 51 [] [.ptr id1 0,.ptr id3 0],.fn 53 [] [.ptr id3 0],.fn 54 [] [.ptr id3 0],.fn 55 [] [.ptr id3 0],.fn 57 [] [.ptr id3 0],.fn 58 [] [.ptr id3 0,.ptr id1 0],.fn 60 [] [.ptr id3 0,.ptr id1 0]]) (c:=[.fn 55 [] [.ptr id3 0]]) (r:=.fn 55 [] [.ptr id3 0]) (hl:=aa)) ZO.f) (tq (sq ?_))
 obtain ⟨ay,ai,h⟩:=bs h
 have a3:=(Zg9 N  a1_ id3 H6 (HP.now (HP.pick hH [1] rfl)) ay ai)
 refine rg (ZO.v 1 (ZbF (H:=H6) (fv:=.fn 55 [] [.ptr id3 0]) (ys:=[]) (hc:=Zd1.of kr a3)) ZO.f) (tq (it h (λap h=>?_) (λap h=>?_)))
 ·refine sq (rg ZO.f ?_)
  replace hH:HP _ []:=HP.pick hH [] rfl
  refine tq (rt (br (tr (tr (br (tr ?_))))))
  cases h
  exact Zab kr
 refine sk (bn (tq (kq (rg ZO.f (tq (ZbX (sq (rg ZO.f (tq (sq (Zdk kr (sk (tq (kq (sq (bk (sq ?_)))))))))))))))))
 have a9:=HP.get hH 0 rfl
 refine rg (ZO.u 1 (ZW (H:=H6) (id:=id5) (off:=5) (cs:=[.fn 50 [] [.ptr id3 0],.fn 51 [] [.ptr id1 0,.ptr id3 0],.fn 53 [] [.ptr id3 0],.fn 54 [] [.ptr id3 0],.fn 55 [] [.ptr id3 0],.fn 57 [] [.ptr id3 0],.fn 58 [] [.ptr id3 0,.ptr id1 0],.fn 60 [] [.ptr id3 0,.ptr id1 0]]) (c:=[.fn 57 [] [.ptr id3 0]]) (r:=.fn 57 [] [.ptr id3 0]) (hl:=a9)) ZO.f) (tq (sq ?_))
 obtain ⟨ax,ag,h⟩:=bs h
 have a2:=(Zg8 N  a1_ id3 H6 (HP.now (HP.pick hH [1] rfl)) ax ag)
 refine rg (ZO.v 1 (ZbF (H:=H6) (fv:=.fn 57 [] [.ptr id3 0]) (ys:=[]) (hc:=Zd1.of kr a2)) ZO.f) (tq (it h (λao h=>?_) (λao h=>?_)))
 ·refine sq (rg ZO.f ?_)
  replace hH:HP _ []:=HP.pick hH [] rfl
  refine tq (rt (br (tr (tr (br (tr ?_))))))
  cases h
  exact Zab kr
 refine sk (bn (tq (kq (rg ZO.f (tq (ZbX (sq (rg ZO.f (tq (sq (Zdk kr (sk (tq (kq (sq (bk (sq ?_)))))))))))))))))
 have a8:=HP.get hH 0 rfl
 refine rg (ZO.u 1 (ZW (H:=H6) (id:=id5) (off:=6) (cs:=[.fn 50 [] [.ptr id3 0],.fn 51 [] [.ptr id1 0,.ptr id3 0],.fn 53 [] [.ptr id3 0],.fn 54 [] [.ptr id3 0],.fn 55 [] [.ptr id3 0],.fn 57 [] [.ptr id3 0],.fn 58 [] [.ptr id3 0,.ptr id1 0],.fn 60 [] [.ptr id3 0,.ptr id1 0]]) (c:=[.fn 58 [] [.ptr id3 0,.ptr id1 0]]) (r:=.fn 58 [] [.ptr id3 0,.ptr id1 0]) (hl:=a8)) ZO.f) (tq (sq ?_))
 obtain ⟨aw,af,h⟩:=bs h
 have a1:=(Zg7 N  a1_ a0_ id3 id1 H6 (HP.now (HP.pick hH [1,2] rfl)) aw af)
 refine rg (ZO.v 1 (ZbF (H:=H6) (fv:=.fn 58 [] [.ptr id3 0,.ptr id1 0]) (ys:=[]) (hc:=Zd1.of kr a1)) ZO.f) (tq (it h (λan h=>?_) (λan h=>?_)))
 ·refine sq (rg ZO.f ?_)
  replace hH:HP _ []:=HP.pick hH [] rfl
  refine tq (rt (br (tr (tr (br (tr ?_))))))
  cases h
  exact Zab kr
 refine sk (bn (tq (kq (rg ZO.f (tq (ZbX (sq (rg ZO.f (tq (sq (Zdk kr (sk (tq (kq (sq (bk (sq ?_)))))))))))))))))
 have a7:=HP.get hH 0 rfl
 refine rg (ZO.u 1 (ZW (H:=H6) (id:=id5) (off:=7) (cs:=[.fn 50 [] [.ptr id3 0],.fn 51 [] [.ptr id1 0,.ptr id3 0],.fn 53 [] [.ptr id3 0],.fn 54 [] [.ptr id3 0],.fn 55 [] [.ptr id3 0],.fn 57 [] [.ptr id3 0],.fn 58 [] [.ptr id3 0,.ptr id1 0],.fn 60 [] [.ptr id3 0,.ptr id1 0]]) (c:=[.fn 60 [] [.ptr id3 0,.ptr id1 0]]) (r:=.fn 60 [] [.ptr id3 0,.ptr id1 0]) (hl:=a7)) ZO.f) (tq (sq ?_))
 obtain ⟨av,ae,h⟩:=bs h
 have a0:=(Zg6 N  a1_ a0_ id3 id1 H6 (HP.now (HP.pick hH [1,2] rfl)) av ae)
 refine rg (ZO.v 1 (ZbF (H:=H6) (fv:=.fn 60 [] [.ptr id3 0,.ptr id1 0]) (ys:=[]) (hc:=Zd1.of kr a0)) ZO.f) (tq (it h (λam h=>?_) (λam h=>?_)))
 ·refine sq (rg ZO.f ?_)
  replace hH:HP _ []:=HP.pick hH [] rfl
  refine tq (rt (br (tr (tr (br (tr ?_))))))
  cases h
  exact Zab kr
 refine sk (bn (tq (kq (rg ZO.f (tq (ZbX (sq (rg ZO.f (tq (sq (Zk1 kr (kq ?_))))))))))))
 replace hH:HP _ []:=HP.pick hH [] rfl
 refine xq (tx (tx (bx (tq (sq (rg ZO.f (tq (rt ?_))))))))
 cases h
 exact Zab kr
theorem ZgM (N:Nat)(a0_:Z8)(a1_:Zan)(a2_:Z9)(a3_:Int)(r:Int)(h:ZfV N a0_ a1_ a2_ a3_=some r):PCall Try.prog 41 [.agg (ZP a0_),.agg (ZQ a1_),.agg (ZV a2_),iv a3_] (iv r):=by
 unfold ZfV at h
 have hH  := hp0
 refine Zal ZAm rfl rfl (Z5 _ _ _ ?_) rfl
 refine sq (rg ZO.f (tq (sq (sq ?_))))
 obtain ⟨r1,hr1,h⟩:=bs h
 refine rg (ZO.v 1 (Z7 (hc:=ZeS N a0_ r1 hr1)) ZO.f) (tq (sq (rg ZO.f (tq (it h (λhc2 h=>?_) (λhc2 h=>?_))))))
 ·refine sq (rg ZO.f (tq (rt (tr ?_))))
  cases h
  exact Zab kr
 refine sk (tq (kq (sq (sq ?_))))
 obtain ⟨r3,hr3,h⟩:=bs h
 refine rg (ZO.v 1 (Z7 (hc:=Zds N a1_ r3 hr3)) ZO.f) (tq (sq (rg ZO.f (tq (it h (λhc4 h=>?_) (λhc4 h=>?_))))))
 ·refine sq (rg ZO.f (tq (rt (tr ?_))))
  cases h
  exact Zab kr
 refine sk (tq (kq (sq (sq ?_))))
 obtain ⟨r5,hr5,h⟩:=bs h
 refine rg (ZO.v 2 (Z7 (hc:=Zfv N a0_ a2_ r5 hr5)) ZO.f) (tq (it h (λhc6 h=>?_) (λhc6 h=>?_)))
 ·refine sq (rg ZO.f (tq (rt (tr ?_))))
  cases h
  exact Zab kr
 refine sk (tq (kq (sq (sq ?_))))
 obtain ⟨a1,hj,h⟩:=bs h
 refine rgR (λs=>s=⟨[(36,bv a1)],[],[]⟩) ?_ ?_
 ·clear h
  rcases Zau hj with ⟨hc7,hj⟩|⟨hc8,hj⟩
  ·obtain rfl:=Zaa hj
   exact (EP.u 2 (ZX (c:=(a2_.Class != 7)) (h:=hc7)) (EP.f kr))
  refine (EP.u 2 (ZX (c:=(a2_.Class != 7)) (h:=hc8)) (EP.u 4 (Z0 (ys:=[Zar false a2_.Routes]) (h:=Z6 (eSl 1 eI64))) ?_))
  obtain ⟨r9,hr9,hj⟩:=bs hj
  obtain rfl:=Zaa hj
  exact (EP.v 1 (Z7 (hc:=ZaK N a3_ 0 (w64 (((List.length a2_.Routes:Nat):Int)-1)) r9 hr9)) (EP.f kr))
 clear hj
 rintro s hR
 obtain rfl:=hR
 refine tq (it h (λa0 h=>?_) (λa0 h=>?_))
 ·refine sq (rg ZO.f (tq (rt (tr ?_))))
  cases h
  exact Zab kr
 refine sk (tq (kq (sq (rg ZO.f (tq (rt ?_))))))
 cases h
 exact Zab kr
theorem Zea (N:Nat)(a0_:Z8)(a1_:(List Z9))(r:Int)(h:ZcH N a0_ a1_=some r):PCall Try.prog 20 [.agg (ZP a0_),ZR false a1_] (iv r):=by
 unfold ZcH at h
 have hH  := hp0
 refine Zal ZAH rfl rfl (Z5 _ _ _ ?_) rfl
 refine sq (rg ZO.f (tq (sq (sq ?_))))
 obtain ⟨r1,hr1,h⟩:=bs h
 refine rg (ZO.v 1 (Z7 (hc:=ZeS N a0_ r1 hr1)) ZO.f) (tq (sq (rg ZO.f (tq (it h (λhc2 h=>?_) (λhc2 h=>?_))))))
 ·refine sq (rg ZO.f (tq (rt (tr ?_))))
  cases h
  exact Zab kr
 refine sk (tq (kq (sq (sq (rg (ZO.u 1 (Z0 (ys:=[ZR false a1_]) (h:=Z6 Za1)) ZO.f) (tq (it h (λhc3 h=>?_) (λhc3 h=>?_))))))))
 ·refine sq (rg ZO.f (tq (rt (tr ?_))))
  cases h
  exact Zab kr
 refine sk (tq (kq (sq (sq (rg (ZO.u 1 (Z0 (ys:=[ZR false a1_]) (h:=Z6 Za1)) ZO.f) (tq (bk ?_)))))))
 obtain ⟨ai,ab,h⟩:=bs h
 refine ZaG ((Zat (λ(x:Int) s=>s=⟨[(1,ZR false a1_),(2,.loc 2 0),(19,ZR false a1_),(20,iv ((List.length a1_:Nat):Int)),(21,iv x)],[(2,(ZP a0_))],[]⟩) (λx:Int=>Zb2 N a0_ a1_ x) (λ(p:(Unit)⊕(Int)) e s=>match p with|(.inl p)=>e=.exit 0/\(s=⟨[(1,ZR false a1_)],[],[]⟩)|(.inr p)=>e=.ret/\∃ xs,resL s i20.res=some xs/\Zbd xs=iv p) ?_ N _ ai _ ab kr).mono ?_)
 ·clear h ab
  rintro i4 o s h hR
  obtain rfl:=hR
  replace h:Zb2 N a0_ a1_ i4=some o:=h
  unfold Zb2 at h
  refine sq (rg ZO.f (tq (sq (it h (λam h=>?_) (λam h=>?_)))))
  ·refine sk (tq (kq (sq (bk (sq ?_)))))
   obtain ⟨a1,ac,h⟩:=bs h
   refine rg (ZO.u 0 (Z0 (ys:=[ZR false a1_,iv i4]) (h:=ZY Za1 ac)) (ZO.u 0 (Zae (sz:=10) (off:=0) (cs:=[.int .i64 a1.Id,.int .i64 a1.Talker,.int .i64 a1.Listener,.int .i64 a1.Class,.int .i64 a1.Size,.int .i64 a1.Period,.int .i64 a1.Bucket.Burst,.int .i64 a1.Bucket.Rate,.int .i64 a1.Deadline,.sl 1 false (List.map (eSl 1 eI64) a1.Routes)]) (r:=.agg (ZV a1)) Za1 ac) ZO.f)) (tq (sq ?_))
   obtain ⟨ap,ak,h⟩:=bs h
   refine rg (ZO.v 2 (Z7 (hc:=Zfv N a0_ a1 ap ak)) ZO.f) (tq (it h (λal h=>?_) (λal h=>?_)))
   ·refine sq (rg ZO.f (tq (rt (br (tr ?_)))))
    cases h
    exact ⟨_,rfl,rfl,Zab kr⟩
   refine sk (bn (tq (kq (rg ZO.f ?_))))
   cases h
   exact ⟨_,rfl,kr⟩
  refine kq (xq (tx ?_))
  cases h
  exact ⟨_,rfl,rfl,kr⟩
 rintro e s hq
 rcases ai with aw|ar
 ·dsimp only at h hq
  obtain ⟨rfl,hR⟩:=hq
  obtain rfl:=hR
  refine bx (tq (sq ?_))
  obtain ⟨a2,aq,ad,an,hH⟩:=HP.newMp hH 0
  replace hH:HP _ [mpT a2 0 (encE ke1 bv [])]:=hH
  refine rg (ZO.h 0 (st_mkMap' (H:=[]) 0 kr ad an) ZO.f) (tq (sq (sq (rg (ZO.u 1 (Z0 (ys:=[ZR false a1_]) (h:=Z6 Za1)) ZO.f) (tq (bk ?_))))))
  obtain ⟨aa,a5,h⟩:=bs h
  refine ZaG ((Zat (λ(x:Int×(List (Int×Bool))) s=>∃ (a4:List HO),s=⟨[(8,.map a2),(31,ZR false a1_),(32,iv ((List.length a1_:Nat):Int)),(33,iv x.1)],[],a4⟩/\HP a4 [mpT a2 0 (encE ke1 bv x.2)]) (λx:Int×(List (Int×Bool))=>Zb1 N a1_ x.1 x.2) (λ(p:(Unit)⊕(Int)) e s=>match p with|(.inl p)=>e=.exit 2/\(∃ (a7:List HO),s=⟨[],[],a7⟩/\HP a7 [])|(.inr p)=>e=.ret/\∃ xs,resL s i20.res=some xs/\Zbd xs=iv p) ?_ N _ aa _ a5 ⟨aq,kr,(HP.pick hH [0] rfl)⟩).mono ?_)
  ·clear h a5
   rintro ⟨aj,a3⟩ o s h hR
   obtain ⟨a4,rfl,hH⟩:=hR
   replace hH:HP _ [mpT a2 0 (encE ke1 bv a3)]:=hH
   replace h:Zb1 N a1_ aj a3=some o:=h
   unfold Zb1 at h
   refine sq (rg ZO.f (tq (sq (it h (λaf h=>?_) (λaf h=>?_)))))
   ·refine sk (tq (kq (sq (bk (sq ?_)))))
    obtain ⟨a0,a6,h⟩:=bs h
    refine rg (ZO.u 0 (Z0 (ys:=[ZR false a1_,iv aj]) (h:=ZY Za1 a6)) (ZO.u 0 (Zae (sz:=10) (off:=0) (cs:=[.int .i64 a0.Id,.int .i64 a0.Talker,.int .i64 a0.Listener,.int .i64 a0.Class,.int .i64 a0.Size,.int .i64 a0.Period,.int .i64 a0.Bucket.Burst,.int .i64 a0.Bucket.Rate,.int .i64 a0.Deadline,.sl 1 false (List.map (eSl 1 eI64) a0.Routes)]) (r:=.agg (ZV a0)) Za1 a6) ZO.f)) (tq (sq (sq ?_)))
    have a9:=HP.get hH 0 rfl
    refine rg (ZO.u 3 (ZmN (H:=a4) (id:=a2) (kn:=0) (ke:=ke1) (ve:=bv) (l:=a3) (x:=a0.Id) (z:=false) (r:=bv (Zi3 a3 a0.Id false)) kr kr a9 kr kr (λ_=>rfl)) ZO.f) (tq (it h (λae h=>?_) (λae h=>?_)))
    ·refine sq (rg ZO.f ?_)
     replace hH:HP _ []:=HP.pick hH [] rfl
     refine tq (rt (tr (br (tr ?_))))
     cases h
     exact ⟨_,rfl,rfl,Zab kr⟩
    refine sk (tq (kq ?_))
    have a8:=HP.get hH 0 rfl
    obtain ⟨ao,ag,hH⟩:=HP.setMp (k:=0) hH rfl (encE ke1 bv (ZdO a3 a0.Id true))
    replace hH:HP _ [mpT a2 0 (encE ke1 bv (ZdO a3 a0.Id true))]:=hH
    refine rg (ZO.o 3 (ZmM (H:=a4) (id:=a2) (kn:=0) (ke:=ke1) (ve:=bv) (l:=a3) (x:=a0.Id) (v:=true) (y:=bv true) kr kr a8 kr kr ag) ZO.f) (bn (tq (kq (rg ZO.f ?_))))
    cases h
    exact ⟨_,rfl,⟨ao,kr,(HP.pick hH [0] rfl)⟩⟩
   refine kq ?_
   replace hH:HP _ []:=HP.pick hH [] rfl
   refine xq (tx ?_)
   cases h
   exact ⟨_,rfl,rfl,⟨a4,kr,(HP.pick hH [] rfl)⟩⟩
  rintro e s hq
  rcases aa with av|au
  ·dsimp only at h hq
   obtain ⟨rfl,hR⟩:=hq
   obtain ⟨a7,rfl,hH⟩:=hR
   replace hH:HP _ []:=hH
   refine bx (tq (sq (rg ZO.f (tq (rt ?_)))))
   cases h
   exact Zab kr
  dsimp only at h hq
  obtain ⟨rfl,hq⟩:=hq
  refine br (tr ?_)
  cases h
  exact hq
 dsimp only at h hq
 obtain ⟨rfl,hq⟩:=hq
 refine br (tr ?_)
 cases h
 exact hq
theorem Zgi (N:Nat)(a0_:Z8)(a1_:Zan)(a2_:Z9)(a3_:Int)(r:(List ZaT)×Int)(h:ZeV N a0_ a1_ a2_ a3_=some r):PCall Try.prog 29 [.agg (ZP a0_),.agg (ZQ a1_),.agg (ZV a2_),iv a3_] (.tup [Za6 false r.1,iv r.2]):=by
 unfold ZeV at h
 have hH  := hp0
 refine Zal ZAy rfl rfl (Z5 _ _ _ ?_) rfl
 refine sq (rgS ⟨[(3,iv a3_),(4,.loc 4 0),(5,.loc 5 0),(6,.loc 6 0)],[(4,(ZP a0_)),(5,(ZQ a1_)),(6,(ZV a2_))],[]⟩ ZO.f kr (tq (sq (sq ?_))))
 obtain ⟨r1,hr1,h⟩:=bs h
 refine rgS ⟨[(3,iv a3_),(4,.loc 4 0),(5,.loc 5 0),(6,.loc 6 0),(10,iv r1)],[(4,(ZP a0_)),(5,(ZQ a1_)),(6,(ZV a2_))],[]⟩ (ZO.v 4 (Z7 (hc:=ZgM N a0_ a1_ a2_ a3_ r1 hr1)) ZO.f) kr (tq (sq (rgS ⟨[(3,iv a3_),(4,.loc 4 0),(5,.loc 5 0),(6,.loc 6 0),(10,iv r1),(19,bv (r1 != 0))],[(4,(ZP a0_)),(5,(ZQ a1_)),(6,(ZV a2_))],[]⟩ ZO.f kr (tq (it h (λhc2 h=>?_) (λhc2 h=>?_))))))
 ·refine sq (rgS ⟨[(8,Za6 true []),(9,iv r1)],[],[]⟩ ZO.f kr (tq (rt (tr ?_))))
  cases h
  exact Zab kr
 refine sk (tq (kq (sq ?_)))
 obtain ⟨id3,H4,hid3,hH4,hH⟩:=HP.newCell hH [Za6 true []]
 replace hH:HP _ [.cel id3 [Za6 true []]]:=hH
 refine rgS ⟨[(3,iv a3_),(4,.loc 4 0),(5,.loc 5 0),(6,.loc 6 0),(11,.ptr id3 0)],[(4,(ZP a0_)),(5,(ZQ a1_)),(6,(ZV a2_))],H4⟩ (ZO.h 0 (Zcz (H:=[]) kr hid3 hH4) ZO.f) kr (tq (sq (sq ?_)))
 obtain ⟨r5,hr5,h⟩:=bs h
 obtain ⟨id7,id8,id9,a4,H6,hvr5,hpr5⟩:=Zgh N a0_ a1_ a2_ a3_ H4 r5 hr5
 replace hH:HP _ [.cel id7 (ZV r5.1),.cel id8 [iv r5.2.1],.cel id9 (ZP r5.2.2.1),.cel a4 (ZQ r5.2.2.2),.cel id3 [Za6 true []]]:=HP.callee (fp:=[]) (rest:=[.cel id3 [Za6 true []]]) hH hpr5
 refine rgS ⟨[(11,.ptr id3 0),(25,.fn 67 [] [.ptr id7 0,.ptr id8 0,.ptr id9 0,.ptr a4 0])],[],H6⟩ (ZO.v 4 (Zc7 (H:=H4) (ys:=[.agg (ZP a0_),.agg (ZQ a1_),.agg (ZV a2_),iv a3_]) kr kr kr hvr5) ZO.f) kr (tq (bk ?_))
 obtain ⟨a5,ae,h⟩:=bs h
 have a7:∀ (x12:ZaT) (s:(List ZaT)) (r:((List ZaT))×Bool) (H:List HO) (its:List Zap),(λ(s:(List ZaT)) (its:List Zap)=>∃ (a1:AV),its=[.arr a1 5 false (List.map ZaQ s),.cel id3 [a1]]++[.lp (List.length H6) (lcOf Try.prog i29.nt [26] Zee Zec) [(11,.ptr id3 0)] .ready]) s its->HP H its->(λ(s:(List ZaT)) (x12:ZaT)=>Zd5 (λv:(List ZaT)=>Zco N v x12) s) s x12=some r->∃ H' its',Zd4 Try.prog (List.length H6) [.agg (ZbD x12)] H r.2 H'/\(λ(s:(List ZaT)) (its:List Zap)=>∃ (a1:AV),its=[.arr a1 5 false (List.map ZaQ s),.cel id3 [a1]]++[.lp (List.length H6) (lcOf Try.prog i29.nt [26] Zee Zec) [(11,.ptr id3 0)] .ready]) r.1 its'/\Fp H H' its its':=by
  clear h
  intro x12 s r ab its hT hH h
  obtain ⟨q,hb,rfl⟩:=ZeQ h
  clear h
  obtain ⟨vs,rfl⟩:∃ v,v=s:=⟨s,rfl⟩
  obtain ⟨ad,rfl⟩:∃ v,v=vs:=⟨vs,rfl⟩
  obtain ⟨a1,rfl⟩:=hT
  replace h:Zco N ad x12=some q:=hb
  clear hb
  unfold Zco at h
  replace hH:Fp _ _ _ [.arr a1 5 false (List.map ZaQ ad),.cel id3 [a1],.lp (List.length H6) (lcOf Try.prog i29.nt [26] Zee Zec) [(11,.ptr id3 0)] .ready]:=Fp.refl hH
  have a0:=Za5 (Fp.get hH 0 rfl)
  suffices hs:∃ H',Zd4 Try.prog (List.length H6) [.agg (ZbD x12)] ab true H'/\∃ its',(λ(s:(List ZaT)) (its:List Zap)=>∃ (a1:AV),its=[.arr a1 5 false (List.map ZaQ s),.cel id3 [a1]]++[.lp (List.length H6) (lcOf Try.prog i29.nt [26] Zee Zec) [(11,.ptr id3 0)] .ready]) q its'/\Fp ab H' [.arr a1 5 false (List.map ZaQ ad),.cel id3 [a1],.lp (List.length H6) (lcOf Try.prog i29.nt [26] Zee Zec) [(11,.ptr id3 0)] .ready] its' by
   obtain ⟨H',h1,its',h2,h3⟩:=hs
   exact ⟨H',its',h1,h2,h3⟩
  refine ZdV (id:=(List.length H6)) (args:=[.agg (ZbD x12)]) (H:=ab) (n:=i29.nt) (ps:=[26]) (fr0:=[(11,.ptr id3 0)]) (ia:=Zee) (ib:=Zec) true (λH'=>∃ its',(λ(s:(List ZaT)) (its:List Zap)=>∃ (a1:AV),its=[.arr a1 5 false (List.map ZaQ s),.cel id3 [a1]]++[.lp (List.length H6) (lcOf Try.prog i29.nt [26] Zee Zec) [(11,.ptr id3 0)] .ready]) q its'/\Fp ab H' [.arr a1 5 false (List.map ZaQ ad),.cel id3 [a1],.lp (List.length H6) (lcOf Try.prog i29.nt [26] Zee Zec) [(11,.ptr id3 0)] .ready] its') (Fp.get hH 2 rfl) rfl (by decide +kernel) rfl ?_
  show vc _ _ _ _ ⟨[(11,.ptr id3 0),(26,.agg (ZbD x12))],[],ab⟩
  refine rgS ⟨[(11,.ptr id3 0),(12,.loc 12 0)],[(12,(ZbD x12))],ab⟩ ZO.f kr (ZgH (k:=2) hH rfl ?_)
  intro aa hH
  replace hH:Fp _ _ _ [.arr a1 5 false (List.map ZaQ ad),.cel id3 [a1],.lp (List.length H6) (lcOf Try.prog i29.nt [26] Zee Zec) [(11,.ptr id3 0)] .busy]:=hH
  show vc _ _ _ _ ⟨[(11,.ptr id3 0),(12,.loc 12 0)],[(12,(ZbD x12))],aa⟩
  refine bk ?_
  have a9:=Fp.get hH 1 rfl
  obtain ⟨ac,af,h⟩:=bs h
  obtain ⟨a3,ak,ag,hH⟩:=Fp.app (k:=0) (a:=a1) (sz:=5) (frz:=false) ZaQ hH rfl af
  replace hH:Fp _ _ _ [.arr a3 5 false (List.map ZaQ ac),.cel id3 [a1],.lp (List.length H6) (lcOf Try.prog i29.nt [26] Zee Zec) [(11,.ptr id3 0)] .busy]:=hH
  have a2:=Za5 (Fp.get hH 0 rfl)
  obtain ⟨aj,ai,hH⟩:=Fp.setCell (k:=1) (off:=0) (cs:=[a1]) (vs:=[a3]) (cs':=[a3]) hH rfl kr
  replace hH:Fp _ _ _ [.arr a3 5 false (List.map ZaQ ac),.cel id3 [a3],.lp (List.length H6) (lcOf Try.prog i29.nt [26] Zee Zec) [(11,.ptr id3 0)] .busy]:=hH
  refine rgS ⟨[],[],aj⟩ (ZO.u 0 (ZW (H:=aa) (id:=id3) (off:=0) (cs:=[a1]) (c:=[a1]) (r:=a1) (by cases a0<;>kernel_rfl) (by cases a0<;>kernel_rfl) a9 (by cases a0<;>kernel_rfl) (by cases a0<;>kernel_rfl) (by cases a0<;>kernel_rfl)) (ZO.h 2 (ZhC (H:=aa) (a:=a1) (b:=Za6 true [x12]) (by cases a0<;>kernel_rfl) (by cases a0<;>kernel_rfl) (by cases a0<;>kernel_rfl) (by cases a0<;>kernel_rfl) ag) (ZO.o 0 (ZdW (H:=ak) (v:=a3) (cs:=[a3]) (by cases a2<;>kernel_rfl) (by cases a2<;>kernel_rfl) (by cases a2<;>kernel_rfl) (by cases a2<;>kernel_rfl) (by cases a2<;>kernel_rfl) ai) ZO.f))) kr (bn ?_)
  cases h
  exact rbd (k:=2) (.ready) hH rfl rfl (λH6 hH=>⟨_,⟨a3,Eq.refl _⟩,(Fp.pick hH [0,1,2] rfl)⟩)
 refine ZeR (s:=⟨[(11,.ptr id3 0),(25,.fn 67 [] [.ptr id7 0,.ptr id8 0,.ptr id9 0,.ptr a4 0])],[],H6⟩) [(11,.ptr id3 0)] (FrOK.cons kr kr FrOK.nil) kr (λH=>rfl) (capT:=[.cel id7 (ZV r5.1),.cel id8 [iv r5.2.1],.cel id9 (ZP r5.2.2.1),.cel a4 (ZQ r5.2.2.2)]) (cells0:=[.arr (.p (.sl 5 true [])) 5 false (List.map ZaQ []),.cel id3 [Za6 true []]]) (rest:=[]) (HP.now (HP.pick (HP.nilArr hH 5 false) [1,2,3,4,0,5] rfl)) (λ(s:(List ZaT)) (its:List Zap)=>∃ (a1:AV),its=[.arr a1 5 false (List.map ZaQ s),.cel id3 [a1]]++[.lp (List.length H6) (lcOf Try.prog i29.nt [26] Zee Zec) [(11,.ptr id3 0)] .ready]) [] a5 (by exact ⟨(.p (.sl 5 true [])),Eq.refl _⟩) (λH its hT hH=>Zfj N (λ(s:(List ZaT)) (x12:ZaT)=>Zd5 (λv:(List ZaT)=>Zco N v x12) s) r5.1 r5.2.1 r5.2.2.1 r5.2.2.2 [] id7 id8 id9 a4 (List.length H6) (λ(s:(List ZaT)) (its:List Zap)=>∃ (a1:AV),its=[.arr a1 5 false (List.map ZaQ s),.cel id3 [a1]]++[.lp (List.length H6) (lcOf Try.prog i29.nt [26] Zee Zec) [(11,.ptr id3 0)] .ready]) a7 H its hT hH a5 ae) ?_
 rintro its hT
 obtain ⟨a1,rfl⟩:=hT
 refine ⟨_,_,rfl,?_⟩
 intro a6 hF
 replace hH:HP _ [.cel id7 (ZV r5.1),.cel id8 [iv r5.2.1],.cel id9 (ZP r5.2.2.1),.cel a4 (ZQ r5.2.2.2),.arr a1 5 false (List.map ZaQ a5),.cel id3 [a1]]:=HP.after (HP.pick (HP.nilArr hH 5 false) [1,2,3,4,0,5] rfl) hF
 have a0:=Za5 (HP.get hH 4 rfl)
 refine Zf0 (S:=⟨[(11,.ptr id3 0),(25,.fn 67 [] [.ptr id7 0,.ptr id8 0,.ptr id9 0,.ptr a4 0])],[],a6⟩) (bn (tq (kq ?_)))
 replace hH:HP _ [.arr a1 5 false (List.map ZaQ a5),.cel id3 [a1]]:=HP.pick hH [4,5] rfl
 refine sq ?_
 have a8:=HP.get hH 1 rfl
 refine rgS ⟨[(8,a1),(9,iv 0)],[],a6⟩ (ZO.u 0 (ZW (H:=a6) (id:=id3) (off:=0) (cs:=[a1]) (c:=[a1]) (r:=a1) (by cases a0<;>kernel_rfl) (by cases a0<;>kernel_rfl) a8 (by cases a0<;>kernel_rfl) (by cases a0<;>kernel_rfl) (by cases a0<;>kernel_rfl)) ZO.f) (by cases a0<;>kernel_rfl) ?_
 replace hH:HP _ [.arr a1 5 false (List.map ZaQ a5)]:=HP.pick hH [0] rfl
 refine tq (rt ?_)
 obtain rfl:=Zaa h
 exact Zb8 (H:=a6) (ys:=[a1,iv 0]) (xs:=[.p (.sl 5 false (List.map ZaQ a5)),iv 0]) (by cases a0<;>kernel_rfl) (by cases a0<;>kernel_rfl) (ZaA (HP.pure (k:=0) (frz:=false) ZaQ hH rfl).2 (ZaA rfl Za3)) kr
theorem ZiW (N:Nat)(a0_:Z8)(a1_:Zan)(a2_:Z9)(a3_:Int)(r:Int×Int)(h:Zgv N a0_ a1_ a2_ a3_=some r):PCall Try.prog 36 [.agg (ZP a0_),.agg (ZQ a1_),.agg (ZV a2_),iv a3_] (.tup [iv r.1,iv r.2]):=by
 unfold Zgv at h
 have hH  := hp0
 refine Zal ZAr rfl rfl (Z5 _ _ _ ?_) rfl
 refine sq ?_
 obtain ⟨id1,H2,hid1,hH2,hH⟩:=HP.newCell hH (ZP a0_)
 replace hH:HP _ [.cel id1 (ZP a0_)]:=hH
 obtain ⟨id3,H4,hid3,hH4,hH⟩:=HP.newCell hH (ZQ a1_)
 replace hH:HP _ [.cel id3 (ZQ a1_),.cel id1 (ZP a0_)]:=hH
 refine rgS ⟨[(3,iv a3_),(4,.ptr id1 0),(5,.ptr id3 0),(6,.loc 6 0)],[(6,(ZV a2_))],H4⟩ (ZO.h 0 (Zbb (H:=[]) (v:=.agg (ZP a0_)) (hid:=hid1) (hH:=hH2)) (ZO.h 0 (Zbb (H:=H2) (v:=.agg (ZQ a1_)) (hid:=hid3) (hH:=hH4)) ZO.f)) kr (tq (sq (sq ?_)))
 have hlc5:=HP.get hH 1 rfl
 have hlc6:=HP.get hH 0 rfl
 obtain ⟨r7,hr7,h⟩:=bs h
 refine rgS ⟨[(3,iv a3_),(4,.ptr id1 0),(5,.ptr id3 0),(6,.loc 6 0),(10,iv r7)],[(6,(ZV a2_))],H4⟩ (ZO.u 0 (ZW (H:=H4) (id:=id1) (off:=0) (cs:=(ZP a0_)) (c:=(ZP a0_)) (r:=.agg (ZP a0_)) (hl:=hlc5)) (ZO.u 0 (ZW (H:=H4) (id:=id3) (off:=0) (cs:=(ZQ a1_)) (c:=(ZQ a1_)) (r:=.agg (ZQ a1_)) (hl:=hlc6)) (ZO.v 2 (Z7 (hc:=ZgM N a0_ a1_ a2_ a3_ r7 hr7)) ZO.f))) kr (tq (sq (rgS ⟨[(3,iv a3_),(4,.ptr id1 0),(5,.ptr id3 0),(6,.loc 6 0),(10,iv r7),(19,bv (r7 != 0))],[(6,(ZV a2_))],H4⟩ ZO.f kr (tq (it h (λhc8 h=>?_) (λhc8 h=>?_))))))
 ·refine sq (rgS ⟨[(8,iv 0),(9,iv r7)],[],H4⟩ ZO.f kr ?_)
  replace hH:HP _ []:=HP.pick hH [] rfl
  refine tq (rt (tr ?_))
  cases h
  exact Zab kr
 refine sk (tq (kq (sq ?_)))
 obtain ⟨id9,au,hid9,aq,hH⟩:=HP.newCell hH [iv 0]
 replace hH:HP _ [.cel id9 [iv 0],.cel id3 (ZQ a1_),.cel id1 (ZP a0_)]:=hH
 obtain ⟨an,ap,hH⟩:=HP.setCell (k:=0) (off:=0) (cs:=[iv 0]) (vs:=[iv 0]) (cs':=[iv 0]) hH rfl kr
 replace hH:HP _ [.cel id9 [iv 0],.cel id3 (ZQ a1_),.cel id1 (ZP a0_)]:=hH
 refine rgS ⟨[(3,iv a3_),(4,.ptr id1 0),(5,.ptr id3 0),(6,.loc 6 0),(11,.ptr id9 0)],[(6,(ZV a2_))],an⟩ (ZO.h 0 (Zcz (H:=H4) kr hid9 aq) (ZO.o 0 (Zam (H:=au) (v:=iv 0) (hw:=ap)) ZO.f)) kr (tq (sq (sq ?_)))
 have al:=HP.get hH 2 rfl
 have ak:=HP.get hH 1 rfl
 obtain ⟨a0,ao,h⟩:=bs h
 obtain ⟨a6,a5,a4,a3,a2,ag,ai⟩:=Zgh N a0_ a1_ a2_ a3_ an a0 ao
 replace hH:HP _ [.cel a6 (ZV a0.1),.cel a5 [iv a0.2.1],.cel a4 (ZP a0.2.2.1),.cel a3 (ZQ a0.2.2.2),.cel id9 [iv 0],.cel id3 (ZQ a1_),.cel id1 (ZP a0_)]:=HP.callee (fp:=[]) (rest:=[.cel id9 [iv 0],.cel id3 (ZQ a1_),.cel id1 (ZP a0_)]) hH ai
 refine rgS ⟨[(4,.ptr id1 0),(5,.ptr id3 0),(11,.ptr id9 0),(25,.fn 67 [] [.ptr a6 0,.ptr a5 0,.ptr a4 0,.ptr a3 0])],[],a2⟩ (ZO.u 0 (ZW (H:=an) (id:=id1) (off:=0) (cs:=(ZP a0_)) (c:=(ZP a0_)) (r:=.agg (ZP a0_)) (hl:=al)) (ZO.u 0 (ZW (H:=an) (id:=id3) (off:=0) (cs:=(ZQ a1_)) (c:=(ZQ a1_)) (r:=.agg (ZQ a1_)) (hl:=ak)) (ZO.v 2 (Zc7 (H:=an) (ys:=[.agg (ZP a0_),.agg (ZQ a1_),.agg (ZV a2_),iv a3_]) kr kr kr ag) ZO.f))) kr (tq (bk ?_))
 obtain ⟨a1,aj,h⟩:=bs h
 have aa:∀ (x21:ZaT) (s:Int) (r:(Int)×Bool) (H:List HO) (its:List Zap),(λ(s:Int) (its:List Zap)=>its=[.cel id9 [iv s],.cel id3 (ZQ a1_),.cel id1 (ZP a0_)]++[.lp (List.length a2) (lcOf Try.prog i36.nt [26] ZeI ZeG) [(4,.ptr id1 0),(5,.ptr id3 0),(11,.ptr id9 0)] .ready]) s its->HP H its->(λ(s:Int) (x21:ZaT)=>Zd5 (λv:Int=>Zcn N a0_ a1_ v x21) s) s x21=some r->∃ H' its',Zd4 Try.prog (List.length a2) [.agg (ZbD x21)] H r.2 H'/\(λ(s:Int) (its:List Zap)=>its=[.cel id9 [iv s],.cel id3 (ZQ a1_),.cel id1 (ZP a0_)]++[.lp (List.length a2) (lcOf Try.prog i36.nt [26] ZeI ZeG) [(4,.ptr id1 0),(5,.ptr id3 0),(11,.ptr id9 0)] .ready]) r.1 its'/\Fp H H' its its':=by
  clear h
  intro x21 s r af its hT hH h
  obtain ⟨q,hb,rfl⟩:=ZeQ h
  clear h
  obtain ⟨vs,rfl⟩:∃ v,v=s:=⟨s,rfl⟩
  obtain ⟨i22,rfl⟩:∃ v,v=vs:=⟨vs,rfl⟩
  obtain rfl:=hT
  replace h:Zcn N a0_ a1_ i22 x21=some q:=hb
  clear hb
  unfold Zcn at h
  replace hH:Fp _ _ _ [.cel id9 [iv i22],.cel id3 (ZQ a1_),.cel id1 (ZP a0_),.lp (List.length a2) (lcOf Try.prog i36.nt [26] ZeI ZeG) [(4,.ptr id1 0),(5,.ptr id3 0),(11,.ptr id9 0)] .ready]:=Fp.refl hH
  suffices hs:∃ H',Zd4 Try.prog (List.length a2) [.agg (ZbD x21)] af true H'/\∃ its',(λ(s:Int) (its:List Zap)=>its=[.cel id9 [iv s],.cel id3 (ZQ a1_),.cel id1 (ZP a0_)]++[.lp (List.length a2) (lcOf Try.prog i36.nt [26] ZeI ZeG) [(4,.ptr id1 0),(5,.ptr id3 0),(11,.ptr id9 0)] .ready]) q its'/\Fp af H' [.cel id9 [iv i22],.cel id3 (ZQ a1_),.cel id1 (ZP a0_),.lp (List.length a2) (lcOf Try.prog i36.nt [26] ZeI ZeG) [(4,.ptr id1 0),(5,.ptr id3 0),(11,.ptr id9 0)] .ready] its' by
   obtain ⟨H',h1,its',h2,h3⟩:=hs
   exact ⟨H',its',h1,h2,h3⟩
  refine ZdV (id:=(List.length a2)) (args:=[.agg (ZbD x21)]) (H:=af) (n:=i36.nt) (ps:=[26]) (fr0:=[(4,.ptr id1 0),(5,.ptr id3 0),(11,.ptr id9 0)]) (ia:=ZeI) (ib:=ZeG) true (λH'=>∃ its',(λ(s:Int) (its:List Zap)=>its=[.cel id9 [iv s],.cel id3 (ZQ a1_),.cel id1 (ZP a0_)]++[.lp (List.length a2) (lcOf Try.prog i36.nt [26] ZeI ZeG) [(4,.ptr id1 0),(5,.ptr id3 0),(11,.ptr id9 0)] .ready]) q its'/\Fp af H' [.cel id9 [iv i22],.cel id3 (ZQ a1_),.cel id1 (ZP a0_),.lp (List.length a2) (lcOf Try.prog i36.nt [26] ZeI ZeG) [(4,.ptr id1 0),(5,.ptr id3 0),(11,.ptr id9 0)] .ready] its') (Fp.get hH 3 rfl) rfl (by decide +kernel) rfl ?_
  show vc _ _ _ _ ⟨[(4,.ptr id1 0),(5,.ptr id3 0),(11,.ptr id9 0),(26,.agg (ZbD x21))],[],af⟩
  refine rgS ⟨[(4,.ptr id1 0),(5,.ptr id3 0),(11,.ptr id9 0),(12,.loc 12 0)],[(12,(ZbD x21))],af⟩ ZO.f kr (ZgH (k:=3) hH rfl ?_)
  intro a8 hH
  replace hH:Fp _ _ _ [.cel id9 [iv i22],.cel id3 (ZQ a1_),.cel id1 (ZP a0_),.lp (List.length a2) (lcOf Try.prog i36.nt [26] ZeI ZeG) [(4,.ptr id1 0),(5,.ptr id3 0),(11,.ptr id9 0)] .busy]:=hH
  show vc _ _ _ _ ⟨[(4,.ptr id1 0),(5,.ptr id3 0),(11,.ptr id9 0),(12,.loc 12 0)],[(12,(ZbD x21))],a8⟩
  refine bk ?_
  have ad:=Fp.get hH 2 rfl
  obtain ⟨a7,a9,h⟩:=bs h
  have ac:=Fp.get hH 1 rfl
  obtain ⟨ar,am,hH⟩:=Fp.setCell (k:=0) (off:=0) (cs:=[iv i22]) (vs:=[iv (w64 ((w64 ((w64 (x21.Open+x21.Long))+a7.Delay))+a1_.Proc))]) (cs':=[iv (w64 ((w64 ((w64 (x21.Open+x21.Long))+a7.Delay))+a1_.Proc))]) hH rfl kr
  replace hH:Fp _ _ _ [.cel id9 [iv (w64 ((w64 ((w64 (x21.Open+x21.Long))+a7.Delay))+a1_.Proc))],.cel id3 (ZQ a1_),.cel id1 (ZP a0_),.lp (List.length a2) (lcOf Try.prog i36.nt [26] ZeI ZeG) [(4,.ptr id1 0),(5,.ptr id3 0),(11,.ptr id9 0)] .busy]:=hH
  refine rqS ⟨[],[],ar⟩ (ZO.u 6 (Zaz (ZW (H:=a8) (id:=id1) (off:=2) (cs:=(ZP a0_)) (c:=[ZZ false a0_.Links]) (r:=ZZ false a0_.Links) (hl:=ad))) (ZO.u 3 (Z0 (ys:=[ZZ false a0_.Links,iv (w64 (Int.tdiv x21.Port 2))]) (h:=ZY ZaB a9)) (ZO.u 1 (Zaz (Zae (sz:=4) (off:=3) (cs:=[.int .i64 a7.Delay]) (r:=iv a7.Delay) ZaB a9)) (ZO.u 2 (Zaz (ZW (H:=a8) (id:=id3) (off:=2) (cs:=(ZQ a1_)) (c:=[iv a1_.Proc]) (r:=iv a1_.Proc) (hl:=ac))) (ZO.o 1 (ZhB (Zam (H:=a8) (v:=iv (w64 ((w64 ((w64 (x21.Open+x21.Long))+a7.Delay))+a1_.Proc))) (hw:=am)) kr) ZO.f))))) kr (bn ?_)
  cases h
  exact rbd (k:=3) (.ready) hH rfl rfl (λH6 hH=>⟨_,(Eq.refl _),(Fp.pick hH [0,1,2,3] rfl)⟩)
 refine ZeR (s:=⟨[(4,.ptr id1 0),(5,.ptr id3 0),(11,.ptr id9 0),(25,.fn 67 [] [.ptr a6 0,.ptr a5 0,.ptr a4 0,.ptr a3 0])],[],a2⟩) [(4,.ptr id1 0),(5,.ptr id3 0),(11,.ptr id9 0)] (FrOK.cons kr kr (FrOK.cons kr kr (FrOK.cons kr kr FrOK.nil))) kr (λH=>rfl) (capT:=[.cel a6 (ZV a0.1),.cel a5 [iv a0.2.1],.cel a4 (ZP a0.2.2.1),.cel a3 (ZQ a0.2.2.2)]) (cells0:=[.cel id9 [iv 0],.cel id3 (ZQ a1_),.cel id1 (ZP a0_)]) (rest:=[]) (HP.now (HP.pick hH [0,1,2,3,4,5,6] rfl)) (λ(s:Int) (its:List Zap)=>its=[.cel id9 [iv s],.cel id3 (ZQ a1_),.cel id1 (ZP a0_)]++[.lp (List.length a2) (lcOf Try.prog i36.nt [26] ZeI ZeG) [(4,.ptr id1 0),(5,.ptr id3 0),(11,.ptr id9 0)] .ready]) 0 a1 (by exact (Eq.refl _)) (λH its hT hH=>Zfj N (λ(s:Int) (x21:ZaT)=>Zd5 (λv:Int=>Zcn N a0_ a1_ v x21) s) a0.1 a0.2.1 a0.2.2.1 a0.2.2.2 0 a6 a5 a4 a3 (List.length a2) (λ(s:Int) (its:List Zap)=>its=[.cel id9 [iv s],.cel id3 (ZQ a1_),.cel id1 (ZP a0_)]++[.lp (List.length a2) (lcOf Try.prog i36.nt [26] ZeI ZeG) [(4,.ptr id1 0),(5,.ptr id3 0),(11,.ptr id9 0)] .ready]) aa H its hT hH a1 aj) ?_
 rintro its hT
 obtain rfl:=hT
 refine ⟨_,_,rfl,?_⟩
 intro ae hF
 replace hH:HP _ [.cel a6 (ZV a0.1),.cel a5 [iv a0.2.1],.cel a4 (ZP a0.2.2.1),.cel a3 (ZQ a0.2.2.2),.cel id9 [iv a1],.cel id3 (ZQ a1_),.cel id1 (ZP a0_)]:=HP.after (HP.pick hH [0,1,2,3,4,5,6] rfl) hF
 refine Zf0 (S:=⟨[(4,.ptr id1 0),(5,.ptr id3 0),(11,.ptr id9 0),(25,.fn 67 [] [.ptr a6 0,.ptr a5 0,.ptr a4 0,.ptr a3 0])],[],ae⟩) (bn (tq (kq ?_)))
 replace hH:HP _ [.cel id9 [iv a1]]:=HP.pick hH [4] rfl
 refine sq ?_
 have ab:=HP.get hH 0 rfl
 refine rgS ⟨[(8,iv a1),(9,iv 0)],[],ae⟩ (ZO.u 0 (ZW (H:=ae) (id:=id9) (off:=0) (cs:=[iv a1]) (c:=[iv a1]) (r:=iv a1) (hl:=ab)) ZO.f) kr ?_
 replace hH:HP _ []:=HP.pick hH [] rfl
 refine tq (rt ?_)
 cases h
 exact Zab kr
theorem Zhm (N:Nat)(a0_:ZaV)(a1_:Z8)(a2_:Zan)(a3_:Z9)(p0_:Nat)(bc0_0_:AV)(bc0_1_:AV)(H:List HO)(hH:HP H [.cel p0_ [bc0_0_,bc0_1_,bv a0_.late],.arr bc0_0_ 1 true (List.map eI64 a0_.Problem.Periods),.arr bc0_1_ 4 true (List.map Z2 a0_.Problem.Uses)])(r:Int×ZaV)(h:Zey N a0_ a1_ a2_ a3_=some r):∃ (oc_0_0_:AV) (oc_0_1_:AV) (H':List HO),Za4 Try.prog 22 [.ptr p0_ 0,.agg (ZP a1_),.agg (ZQ a2_),.agg (ZV a3_)] H (iv r.1) H'/\Fp H H' [.cel p0_ [bc0_0_,bc0_1_,bv a0_.late],.arr bc0_0_ 1 true (List.map eI64 a0_.Problem.Periods),.arr bc0_1_ 4 true (List.map Z2 a0_.Problem.Uses)] [.cel p0_ [oc_0_0_,oc_0_1_,bv r.2.late],.arr oc_0_0_ 1 true (List.map eI64 r.2.Problem.Periods),.arr oc_0_1_ 4 true (List.map Z2 r.2.Problem.Uses)]:=by
 suffices hs:∃ r' H',Za4 Try.prog 22 [.ptr p0_ 0,.agg (ZP a1_),.agg (ZQ a2_),.agg (ZV a3_)] H r' H'/\∃ (oc_0_0_:AV) (oc_0_1_:AV),r'=iv r.1/\Fp H H' [.cel p0_ [bc0_0_,bc0_1_,bv a0_.late],.arr bc0_0_ 1 true (List.map eI64 a0_.Problem.Periods),.arr bc0_1_ 4 true (List.map Z2 a0_.Problem.Uses)] [.cel p0_ [oc_0_0_,oc_0_1_,bv r.2.late],.arr oc_0_0_ 1 true (List.map eI64 r.2.Problem.Periods),.arr oc_0_1_ 4 true (List.map Z2 r.2.Problem.Uses)] by
  obtain ⟨_,H',h1,oc_0_0_,oc_0_1_,he,h2⟩:=hs
  exact ⟨oc_0_0_,oc_0_1_,H',he ▸ h1,h2⟩
 unfold Zey at h
 replace hH:=Fp.refl hH
 have hfbc0_0_:=Za5 (Fp.get hH 1 rfl)
 have hfbc0_1_:=Za5 (Fp.get hH 2 rfl)
 refine ZiT ZAF [] (λr' H'=>∃ (oc_0_0_:AV) (oc_0_1_:AV),r'=iv r.1/\Fp H H' [.cel p0_ [bc0_0_,bc0_1_,bv a0_.late],.arr bc0_0_ 1 true (List.map eI64 a0_.Problem.Periods),.arr bc0_1_ 4 true (List.map Z2 a0_.Problem.Uses)] [.cel p0_ [oc_0_0_,oc_0_1_,bv r.2.late],.arr oc_0_0_ 1 true (List.map eI64 r.2.Problem.Periods),.arr oc_0_1_ 4 true (List.map Z2 r.2.Problem.Uses)]) (λr' H' q=>by obtain ⟨oc_0_0_,oc_0_1_,e,hp⟩:=q;subst e;have hfoc_0_0_:=Za5 (Fp.get hp 1 rfl);have hfoc_0_1_:=Za5 (Fp.get hp 2 rfl);show Zaw _=true;cases hfoc_0_0_<;>cases hfoc_0_1_<;>rfl) rfl (by cases hfbc0_0_<;>cases hfbc0_1_<;>kernel_rfl) (sq (rg ZO.f (tq (sq ?_))))
 have hlc1:=Fp.get hH 0 rfl
 have hln2:=Fp.len (k:=1) (a:=bc0_0_) (sz:=1) (frz:=true) (l:=a0_.Problem.Periods) eI64 hH rfl
 refine rg (ZO.u 4 (ZW (H:=H) (id:=p0_) (off:=0) (cs:=[bc0_0_,bc0_1_,bv a0_.late]) (c:=[bc0_0_]) (r:=bc0_0_) (by cases hfbc0_0_<;>kernel_rfl) (by cases hfbc0_0_<;>kernel_rfl) hlc1 (by cases hfbc0_0_<;>kernel_rfl) (by cases hfbc0_0_<;>kernel_rfl) (by cases hfbc0_0_<;>kernel_rfl)) (ZO.u 0 (Z0 (ys:=[bc0_0_]) (by cases hfbc0_0_<;>kernel_rfl) hln2) ZO.f)) (tq (sq ?_))
 have hlc3:=Fp.get hH 0 rfl
 obtain ⟨l6,hl6,h⟩:=bs h
 obtain ⟨a4,H5,ha4,hH⟩:=Fp.app (k:=1) (a:=bc0_0_) (sz:=1) (frz:=true) eI64 hH rfl hl6
 replace hH:Fp _ _ _ [.cel p0_ [bc0_0_,bc0_1_,bv a0_.late],.arr a4 1 true (List.map eI64 l6),.arr bc0_1_ 4 true (List.map Z2 a0_.Problem.Uses)]:=hH
 have hfa4:=Za5 (Fp.get hH 1 rfl)
 obtain ⟨H7,hH7,hH⟩:=Fp.setCell (k:=0) (off:=0) (cs:=[bc0_0_,bc0_1_,bv a0_.late]) (vs:=[a4]) (cs':=[a4,bc0_1_,bv a0_.late]) hH rfl kr
 replace hH:Fp _ _ _ [.cel p0_ [a4,bc0_1_,bv a0_.late],.arr a4 1 true (List.map eI64 l6),.arr bc0_1_ 4 true (List.map Z2 a0_.Problem.Uses)]:=hH
 refine rq (ZO.u 5 (Zaz (ZW (H:=H) (id:=p0_) (off:=0) (cs:=[bc0_0_,bc0_1_,bv a0_.late]) (c:=[bc0_0_]) (r:=bc0_0_) (by cases hfbc0_0_<;>kernel_rfl) (by cases hfbc0_0_<;>kernel_rfl) hlc3 (by cases hfbc0_0_<;>kernel_rfl) (by cases hfbc0_0_<;>kernel_rfl) (by cases hfbc0_0_<;>kernel_rfl)) (by cases hfbc0_0_<;>kernel_rfl)) (ZO.h 3 (ZhC (H:=H) (a:=bc0_0_) (b:=ZU true [a3_.Period]) (by cases hfbc0_0_<;>kernel_rfl) (by cases hfbc0_0_<;>kernel_rfl) (by cases hfbc0_0_<;>kernel_rfl) (by cases hfbc0_0_<;>kernel_rfl) ha4) (ZO.o 3 (ZhB (ZdW (H:=H5) (v:=a4) (cs:=[a4]) (by cases hfa4<;>kernel_rfl) (by cases hfa4<;>kernel_rfl) (by cases hfa4<;>kernel_rfl) (by cases hfa4<;>kernel_rfl) (by cases hfa4<;>kernel_rfl) hH7) (by cases hfa4<;>kernel_rfl)) ZO.f))) (tq (sq (sq (rg (ZO.u 2 (Z0 (ys:=[Zar false a3_.Routes]) (h:=Z6 (eSl 1 eI64))) ZO.f) (tq (bk ?_))))))
 obtain ⟨ax,ao,h⟩:=bs h
 refine ZaG ((Zat (λ(x:Int×Bool×(List Zax)) s=>∃ (a8:AV) (a9:AV) (b2:List HO),s=⟨[(0,.ptr p0_ 0),(5,.loc 5 0),(6,.loc 6 0),(7,.loc 7 0),(9,iv ((List.length a0_.Problem.Periods:Nat):Int)),(40,iv ((List.length a3_.Routes:Nat):Int)),(41,iv x.1)],[(5,(ZP a1_)),(6,(ZQ a2_)),(7,(ZV a3_))],b2⟩/\Fp H b2 [.cel p0_ [bc0_0_,bc0_1_,bv a0_.late],.arr bc0_0_ 1 true (List.map eI64 a0_.Problem.Periods),.arr bc0_1_ 4 true (List.map Z2 a0_.Problem.Uses)] [.arr a8 1 true (List.map eI64 l6),.arr a9 4 true (List.map Z2 x.2.2),.cel p0_ [a8,a9,bv x.2.1]]) (λx:Int×Bool×(List Zax)=>Zch N a0_ a1_ a2_ a3_ l6 x.1 x.2.1 x.2.2) (λ(p:(Bool×(List Zax))⊕(Int×ZaV)) e s=>match p with|(.inl p)=>e=.exit 0/\(∃ (am:AV) (al:AV) (aS:List HO),s=⟨[],[],aS⟩/\Fp H aS [.cel p0_ [bc0_0_,bc0_1_,bv a0_.late],.arr bc0_0_ 1 true (List.map eI64 a0_.Problem.Periods),.arr bc0_1_ 4 true (List.map Z2 a0_.Problem.Uses)] [.arr am 1 true (List.map eI64 l6),.arr al 4 true (List.map Z2 p.2),.cel p0_ [am,al,bv p.1]])|(.inr p)=>e=.ret/\∃ xs,rawL (wS [] s) i22.res=some xs/\∃ (oc_0_0_:AV) (oc_0_1_:AV),Zbd xs=iv p.1/\Fp H (weakH [] s.H) [.cel p0_ [bc0_0_,bc0_1_,bv a0_.late],.arr bc0_0_ 1 true (List.map eI64 a0_.Problem.Periods),.arr bc0_1_ 4 true (List.map Z2 a0_.Problem.Uses)] [.cel p0_ [oc_0_0_,oc_0_1_,bv p.2.late],.arr oc_0_0_ 1 true (List.map eI64 p.2.Problem.Periods),.arr oc_0_1_ 4 true (List.map Z2 p.2.Problem.Uses)]) ?_ N _ ax _ ao ⟨a4,bc0_1_,H7,kr,(Fp.pick hH [1,2,0] rfl)⟩).mono ?_)
 ·clear h ao
  rintro ⟨i11,b12,bl⟩ o s h hR
  obtain ⟨a8,a9,b2,rfl,hH⟩:=hR
  replace hH:Fp _ _ _ [.arr a8 1 true (List.map eI64 l6),.arr a9 4 true (List.map Z2 bl),.cel p0_ [a8,a9,bv b12]]:=hH
  have hfa8:=Za5 (Fp.get hH 0 rfl)
  have hfa9:=Za5 (Fp.get hH 1 rfl)
  replace h:Zch N a0_ a1_ a2_ a3_ l6 i11 b12 bl=some o:=h
  unfold Zch at h
  refine sq (rg ZO.f (tq (sq (it h (λaX h=>?_) (λaX h=>?_)))))
  ·refine sk (tq (kq (sq (bk (sq (rg ZO.f (tq (sq ?_))))))))
   obtain ⟨ag,aV,h⟩:=bs h
   refine rg (ZO.v 4 (Z7 (hc:=Zgi N a1_ a2_ a3_ i11 ag aV)) ZO.f) (tq (sq (sq (rg ZO.f (tq (it h (λaW h=>?_) (λaW h=>?_)))))))
   ·refine sq (rg ZO.f (tq (rt (tr (br (tr ?_))))))
    cases h
    exact ⟨_,rfl,rfl,⟨[iv ag.2],kr,a8,a9,kr,Fp.pk hH [2,0,1] rfl⟩⟩
   refine sk (tq (kq (sq (sq (rg (ZO.u 1 (Z0 (ys:=[Za6 false ag.1]) (h:=Z6 ZaQ)) ZO.f) (tq (bk ?_)))))))
   obtain ⟨ad,ap,h⟩:=bs h
   refine ZaG ((Zat (λ(x:Int×(List Zax)) s=>∃ (a6:AV) (a7:AV) (an:List HO),s=⟨[(0,.ptr p0_ 0),(5,.loc 5 0),(6,.loc 6 0),(7,.loc 7 0),(9,iv ((List.length a0_.Problem.Periods:Nat):Int)),(10,iv i11),(40,iv ((List.length a3_.Routes:Nat):Int)),(41,iv i11),(55,Za6 false ag.1),(56,iv ((List.length ag.1:Nat):Int)),(57,iv x.1)],[(5,(ZP a1_)),(6,(ZQ a2_)),(7,(ZV a3_))],an⟩/\Fp H an [.cel p0_ [bc0_0_,bc0_1_,bv a0_.late],.arr bc0_0_ 1 true (List.map eI64 a0_.Problem.Periods),.arr bc0_1_ 4 true (List.map Z2 a0_.Problem.Uses)] [.arr a6 1 true (List.map eI64 l6),.arr a7 4 true (List.map Z2 x.2),.cel p0_ [a6,a7,bv b12]]) (λx:Int×(List Zax)=>Zcg N a0_ a2_ a3_ ag x.1 x.2) (λ(p:(List Zax)) e s=>e=.exit 2/\(∃ (a1:AV) (a0:AV) (ab:List HO),s=⟨[(0,.ptr p0_ 0),(5,.loc 5 0),(6,.loc 6 0),(7,.loc 7 0),(9,iv ((List.length a0_.Problem.Periods:Nat):Int)),(10,iv i11),(40,iv ((List.length a3_.Routes:Nat):Int)),(41,iv i11)],[(5,(ZP a1_)),(6,(ZQ a2_)),(7,(ZV a3_))],ab⟩/\Fp H ab [.cel p0_ [bc0_0_,bc0_1_,bv a0_.late],.arr bc0_0_ 1 true (List.map eI64 a0_.Problem.Periods),.arr bc0_1_ 4 true (List.map Z2 a0_.Problem.Uses)] [.arr a1 1 true (List.map eI64 l6),.arr a0 4 true (List.map Z2 p),.cel p0_ [a1,a0,bv b12]])) ?_ N _ ad _ ap ⟨a8,a9,b2,kr,(Fp.pick hH [0,1,2] rfl)⟩).mono ?_)
   ·clear h ap
    rintro ⟨aU,aT⟩ o s h hR
    obtain ⟨a6,a7,an,rfl,hH⟩:=hR
    replace hH:Fp _ _ _ [.arr a6 1 true (List.map eI64 l6),.arr a7 4 true (List.map Z2 aT),.cel p0_ [a6,a7,bv b12]]:=hH
    have be:=Za5 (Fp.get hH 0 rfl)
    have a2:=Za5 (Fp.get hH 1 rfl)
    replace h:Zcg N a0_ a2_ a3_ ag aU aT=some o:=h
    unfold Zcg at h
    refine sq (rg ZO.f (tq (sq (it h (λaK h=>?_) (λaK h=>?_)))))
    ·refine sk (tq (kq (sq (bk (sq ?_)))))
     obtain ⟨a5,aq,h⟩:=bs h
     refine rg (ZO.u 0 (Z0 (ys:=[Za6 false ag.1,iv aU]) (h:=ZY ZaQ aq)) (ZO.u 0 (Zae (sz:=5) (off:=0) (cs:=[.int .i64 a5.Port,.int .i64 a5.Early,.int .i64 a5.Late,.int .i64 a5.Open,.int .i64 a5.Long]) (r:=.agg (ZbD a5)) ZaQ aq) ZO.f)) (tq (sq ?_))
     obtain ⟨ai,aD,h⟩:=bs h
     refine rg (ZO.v 4 (Z7 (hc:=Ze5 N a5.Early a2_.Grid ai aD)) ZO.f) (tq (sq ?_))
     obtain ⟨av,aC,h⟩:=bs h
     refine rg (ZO.v 11 (Z7 (hc:=Ze5 N (w64 ((w64 ((w64 (a5.Open+a5.Long))+a2_.Grid))-1)) a2_.Grid av aC)) ZO.f) (tq (sq ?_))
     obtain ⟨au,aB,h⟩:=bs h
     refine rq (ZO.u 4 (Zbl (hc:=Ze5 N ai a3_.Period au aB)) ZO.f) (tq ?_)
     have ar:=Fp.get hH 2 rfl
     obtain ⟨ay,aE,h⟩:=bs h
     obtain ⟨aa,b1,aL,hH⟩:=Fp.app (k:=1) (a:=a7) (sz:=4) (frz:=true) Z2 hH rfl aE
     replace hH:Fp _ _ _ [.arr a6 1 true (List.map eI64 l6),.arr aa 4 true (List.map Z2 ay),.cel p0_ [a6,a7,bv b12]]:=hH
     have a3:=Za5 (Fp.get hH 1 rfl)
     obtain ⟨b0,aR,hH⟩:=Fp.setCell (k:=2) (off:=1) (cs:=[a6,a7,bv b12]) (vs:=[aa]) (cs':=[a6,aa,bv b12]) hH rfl kr
     replace hH:Fp _ _ _ [.arr a6 1 true (List.map eI64 l6),.arr aa 4 true (List.map Z2 ay),.cel p0_ [a6,aa,bv b12]]:=hH
     refine rq (ZO.u 5 (Zaz (ZW (H:=an) (id:=p0_) (off:=1) (cs:=[a6,a7,bv b12]) (c:=[a7]) (r:=a7) (by cases a2<;>kernel_rfl) (by cases a2<;>kernel_rfl) ar (by cases a2<;>kernel_rfl) (by cases a2<;>kernel_rfl) (by cases a2<;>kernel_rfl)) (by cases a2<;>kernel_rfl)) (ZO.h 9 (ZhC (H:=an) (a:=a7) (b:=Zas true [(Zax.mk ((List.length a0_.Problem.Periods:Nat):Int) a5.Port (w64 (ai-(w64 (au*a3_.Period)))) (w64 (av-ai)))]) (by cases a2<;>kernel_rfl) (by cases a2<;>kernel_rfl) (by cases a2<;>kernel_rfl) (by cases a2<;>kernel_rfl) aL) (ZO.o 3 (ZhB (ZdW (H:=b1) (v:=aa) (cs:=[aa]) (by cases a3<;>kernel_rfl) (by cases a3<;>kernel_rfl) (by cases a3<;>kernel_rfl) (by cases a3<;>kernel_rfl) (by cases a3<;>kernel_rfl) aR) (by cases a3<;>kernel_rfl)) ZO.f))) (bn (tq (rg ZO.f ?_)))
     cases h
     exact ⟨_,rfl,⟨a6,aa,b0,kr,(Fp.pick hH [0,1,2] rfl)⟩⟩
    refine kq (xq (tx ?_))
    cases h
    exact ⟨_,rfl,rfl,⟨a6,a7,an,kr,(Fp.pick hH [0,1,2] rfl)⟩⟩
   rintro e s hq
   obtain ⟨rfl,hR⟩:=hq
   obtain ⟨a1,a0,ab,rfl,hH⟩:=hR
   replace hH:Fp _ _ _ [.arr a1 1 true (List.map eI64 l6),.arr a0 4 true (List.map Z2 ad),.cel p0_ [a1,a0,bv b12]]:=hH
   have bd:=Za5 (Fp.get hH 0 rfl)
   have bc:=Za5 (Fp.get hH 1 rfl)
   refine bx (tq (sq ?_))
   obtain ⟨ac,aA,h⟩:=bs h
   refine rg (ZO.v 4 (Z7 (hc:=ZiW N a1_ a2_ a3_ i11 ac aA)) ZO.f) (tq (sq (sq (rg ZO.f (tq (it h (λaJ h=>?_) (λaJ h=>?_)))))))
   ·refine sq (rg ZO.f (tq (rt (tr (br (tr ?_))))))
    cases h
    exact ⟨_,rfl,rfl,⟨[iv ac.2],kr,a1,a0,kr,Fp.pk hH [2,0,1] rfl⟩⟩
   refine sk (tq (kq ?_))
   obtain ⟨az,hj,h⟩:=bs h
   refine rgR (λs=>∃ (af:AV) (ae:AV) (ak:List HO),s=⟨[(0,.ptr p0_ 0),(5,.loc 5 0),(6,.loc 6 0),(7,.loc 7 0),(9,iv ((List.length a0_.Problem.Periods:Nat):Int)),(40,iv ((List.length a3_.Routes:Nat):Int)),(41,iv i11)],[(5,(ZP a1_)),(6,(ZQ a2_)),(7,(ZV a3_))],ak⟩/\Fp H ak [.cel p0_ [bc0_0_,bc0_1_,bv a0_.late],.arr bc0_0_ 1 true (List.map eI64 a0_.Problem.Periods),.arr bc0_1_ 4 true (List.map Z2 a0_.Problem.Uses)] [.arr af 1 true (List.map eI64 l6),.arr ae 4 true (List.map Z2 ad),.cel p0_ [af,ae,bv az]]) ?_ ?_
   ·clear h
    have aj:=Fp.get hH 2 rfl
    rcases Zau hj with ⟨aI,hj⟩|⟨aG,hj⟩
    ·refine (EP.u 4 (Zai.bool (ZW (H:=ab) (id:=p0_) (off:=2) (cs:=[a1,a0,bv b12]) (c:=[bv b12]) (r:=bv b12) (hl:=aj)) aI) ?_)
     obtain ⟨aZ,aQ,hH⟩:=Fp.setCell (k:=2) (off:=2) (cs:=[a1,a0,bv b12]) (vs:=[bv true]) (cs':=[a1,a0,bv true]) hH rfl kr
     replace hH:Fp _ _ _ [.arr a1 1 true (List.map eI64 l6),.arr a0 4 true (List.map Z2 ad),.cel p0_ [a1,a0,bv true]]:=hH
     obtain rfl:=Zaa hj
     exact (EP.o 12 (Zam (H:=ab) (v:=bv true) (hw:=aQ)) (EP.f ⟨a1,a0,aZ,kr,(Fp.pick hH [0,1,2] rfl)⟩))
    refine (EP.u 4 (Zai.bool (ZW (H:=ab) (id:=p0_) (off:=2) (cs:=[a1,a0,bv b12]) (c:=[bv b12]) (r:=bv b12) (hl:=aj)) aG) ?_)
    obtain ⟨aY,aM,hH⟩:=Fp.setCell (k:=2) (off:=2) (cs:=[a1,a0,bv b12]) (vs:=[bv (decide ((w64 (ac.1+(w64 (2*a2_.Slack))))>a3_.Deadline))]) (cs':=[a1,a0,bv (decide ((w64 (ac.1+(w64 (2*a2_.Slack))))>a3_.Deadline))]) hH rfl kr
    replace hH:Fp _ _ _ [.arr a1 1 true (List.map eI64 l6),.arr a0 4 true (List.map Z2 ad),.cel p0_ [a1,a0,bv (decide ((w64 (ac.1+(w64 (2*a2_.Slack))))>a3_.Deadline))]]:=hH
    obtain rfl:=Zaa hj
    exact (EP.o 12 (Zam (H:=ab) (v:=bv (decide ((w64 (ac.1+(w64 (2*a2_.Slack))))>a3_.Deadline))) (hw:=aM)) (EP.f ⟨a1,a0,aY,kr,(Fp.pick hH [0,1,2] rfl)⟩))
   clear hj
   rintro s hR
   obtain ⟨af,ae,ak,rfl,hH⟩:=hR
   replace hH:Fp _ _ _ [.arr af 1 true (List.map eI64 l6),.arr ae 4 true (List.map Z2 ad),.cel p0_ [af,ae,bv az]]:=hH
   have bb:=Za5 (Fp.get hH 0 rfl)
   have ba:=Za5 (Fp.get hH 1 rfl)
   refine bn (tq (kq (rg ZO.f ?_)))
   cases h
   exact ⟨_,rfl,⟨af,ae,ak,kr,(Fp.pick hH [0,1,2] rfl)⟩⟩
  refine kq (xq (tx ?_))
  cases h
  exact ⟨_,rfl,rfl,⟨a8,a9,b2,kr,(Fp.pick hH [0,1,2] rfl)⟩⟩
 rintro e s hq
 rcases ax with aw|bj
 ·dsimp only at h hq
  obtain ⟨rfl,hR⟩:=hq
  obtain ⟨am,al,aS,rfl,hH⟩:=hR
  replace hH:Fp _ _ _ [.arr am 1 true (List.map eI64 l6),.arr al 4 true (List.map Z2 aw.2),.cel p0_ [am,al,bv aw.1]]:=hH
  have bi:=Za5 (Fp.get hH 0 rfl)
  have bf:=Za5 (Fp.get hH 1 rfl)
  refine bx (tq (sq (rg ZO.f (tq (rt ?_)))))
  cases h
  exact ⟨[iv 0],kr,am,al,kr,Fp.pk hH [2,0,1] rfl⟩
 dsimp only at h hq
 obtain ⟨rfl,hq⟩:=hq
 refine br (tr ?_)
 cases h
 exact hq
theorem Zd8 {σ:Type}(N:Nat)(y_:σ->ZaI->Option (σ×Bool))(c0_:(List Z9))(c1_:(List Int))(c2_:Z8)(c3_:Zan)(s_:σ)(k0_:Nat)(k1_:Nat)(k2_:Nat)(k3_:Nat)(yid_:Nat)(T_:σ->List Zap->Prop)(hy_:∀ (x0:ZaI) (s:σ) (r:σ×Bool) (H:List HO) (its:List Zap),T_ s its->HP H its->y_ s x0=some r->∃ H' its',Zd4 Try.prog yid_ [.agg [iv x0.port,iv x0.from_,iv x0.long,iv x0.period]] H r.2 H'/\T_ r.1 its'/\Fp H H' its its')(H:List HO)(its:List Zap)(hT:T_ s_ its)(hH:HP H (.cel k0_ [ZR false c0_]::.cel k1_ [ZU false c1_]::.cel k2_ (ZP c2_)::.cel k3_ (ZQ c3_)::its))(r:σ)(h:ZcG N y_ c0_ c1_ c2_ c3_ s_=some r):∃ H' its',Za4 Try.prog 28 [.yl yid_,.ptr k0_ 0,.ptr k1_ 0,.ptr k2_ 0,.ptr k3_ 0] H (.tup []) H'/\T_ r its'/\Fp H H' (.cel k0_ [ZR false c0_]::.cel k1_ [ZU false c1_]::.cel k2_ (ZP c2_)::.cel k3_ (ZQ c3_)::its) (.cel k0_ [ZR false c0_]::.cel k1_ [ZU false c1_]::.cel k2_ (ZP c2_)::.cel k3_ (ZQ c3_)::its'):=by
 suffices hs:∃ H',Za4 Try.prog 28 [.yl yid_,.ptr k0_ 0,.ptr k1_ 0,.ptr k2_ 0,.ptr k3_ 0] H (.tup []) H'/\∃ its',T_ r its'/\Fp H H' (.cel k0_ [ZR false c0_]::.cel k1_ [ZU false c1_]::.cel k2_ (ZP c2_)::.cel k3_ (ZQ c3_)::its) (.cel k0_ [ZR false c0_]::.cel k1_ [ZU false c1_]::.cel k2_ (ZP c2_)::.cel k3_ (ZQ c3_)::its') by
  obtain ⟨H',h1,its',h2,h3⟩:=hs
  exact ⟨H',its',h1,h2,h3⟩
 unfold ZcG at h
 replace hH:Fp H H (.cel k0_ [ZR false c0_]::.cel k1_ [ZU false c1_]::.cel k2_ (ZP c2_)::.cel k3_ (ZQ c3_)::its) (.cel k0_ [ZR false c0_]::.cel k1_ [ZU false c1_]::.cel k2_ (ZP c2_)::.cel k3_ (ZQ c3_)::its):=Fp.refl hH
 refine ZfU ZAz (λH'=>∃ its',T_ r its'/\Fp H H' (.cel k0_ [ZR false c0_]::.cel k1_ [ZU false c1_]::.cel k2_ (ZP c2_)::.cel k3_ (ZQ c3_)::its) (.cel k0_ [ZR false c0_]::.cel k1_ [ZU false c1_]::.cel k2_ (ZP c2_)::.cel k3_ (ZQ c3_)::its')) rfl rfl rfl (sq (rg ZO.f (tq (sq ?_))))
 have hlc1:=Fp.get hH 0 rfl
 refine rg (ZO.u 0 (ZW (H:=H) (id:=k0_) (off:=0) (cs:=[ZR false c0_]) (c:=[ZR false c0_]) (r:=ZR false c0_) (hl:=hlc1)) (ZO.u 0 (Z0 (ys:=[ZR false c0_]) (h:=Z6 Za1)) ZO.f)) (tq (bk ?_))
 obtain ⟨ar,ae,h⟩:=bs h
 refine ZaG ((Zat (λ(x:Int×Int×σ) s=>∃ (its2:List Zap) (H3:List HO),s=⟨[(0,.yl yid_),(2,.ptr k1_ 0),(3,.ptr k2_ 0),(4,.ptr k3_ 0),(6,iv x.1),(15,ZR false c0_),(16,iv ((List.length c0_:Nat):Int)),(17,iv x.2.1)],[],H3⟩/\T_ x.2.2 its2/\Fp H H3 (.cel k0_ [ZR false c0_]::.cel k1_ [ZU false c1_]::.cel k2_ (ZP c2_)::.cel k3_ (ZQ c3_)::its) (.cel k0_ [ZR false c0_]::.cel k1_ [ZU false c1_]::.cel k2_ (ZP c2_)::.cel k3_ (ZQ c3_)::its2)) (λx:Int×Int×σ=>Zb0 N y_ c0_ c1_ c2_ c3_ x.1 x.2.1 x.2.2) (λ(p:(σ)⊕(σ)) e s=>match p with|(.inl p)=>e=.exit 0/\(∃ (a8:List Zap) (aq:List HO),s=⟨[],[],aq⟩/\T_ p a8/\Fp H aq (.cel k0_ [ZR false c0_]::.cel k1_ [ZU false c1_]::.cel k2_ (ZP c2_)::.cel k3_ (ZQ c3_)::its) (.cel k0_ [ZR false c0_]::.cel k1_ [ZU false c1_]::.cel k2_ (ZP c2_)::.cel k3_ (ZQ c3_)::a8))|(.inr p)=>e=.ret/\∃ xs,rawL s i28.res=some xs/\Zbd xs=.tup []/\∃ its',T_ p its'/\Fp H s.H (.cel k0_ [ZR false c0_]::.cel k1_ [ZU false c1_]::.cel k2_ (ZP c2_)::.cel k3_ (ZQ c3_)::its) (.cel k0_ [ZR false c0_]::.cel k1_ [ZU false c1_]::.cel k2_ (ZP c2_)::.cel k3_ (ZQ c3_)::its')) ?_ N _ ar _ ae ⟨its,H,kr,hT,Fp.at hH⟩).mono ?_)
 ·clear h ae
  rintro ⟨i4,i5,g6⟩ o s h hR
  obtain ⟨its2,H3,rfl,hT,hH⟩:=hR
  replace hH:Fp H H3 (.cel k0_ [ZR false c0_]::.cel k1_ [ZU false c1_]::.cel k2_ (ZP c2_)::.cel k3_ (ZQ c3_)::its) (.cel k0_ [ZR false c0_]::.cel k1_ [ZU false c1_]::.cel k2_ (ZP c2_)::.cel k3_ (ZQ c3_)::its2):=hH
  replace h:Zb0 N y_ c0_ c1_ c2_ c3_ i4 i5 g6=some o:=h
  unfold Zb0 at h
  refine sq (rg ZO.f (tq (sq (it h (λaL h=>?_) (λaL h=>?_)))))
  ·refine sk (tq (kq (sq (bk (sq ?_)))))
   obtain ⟨a0,ay,h⟩:=bs h
   refine rg (ZO.u 0 (Z0 (ys:=[ZR false c0_,iv i5]) (h:=ZY Za1 ay)) (ZO.u 0 (Zae (sz:=10) (off:=0) (cs:=[.int .i64 a0.Id,.int .i64 a0.Talker,.int .i64 a0.Listener,.int .i64 a0.Class,.int .i64 a0.Size,.int .i64 a0.Period,.int .i64 a0.Bucket.Burst,.int .i64 a0.Bucket.Rate,.int .i64 a0.Deadline,.sl 1 false (List.map (eSl 1 eI64) a0.Routes)]) (r:=.agg (ZV a0)) Za1 ay) ZO.f)) (tq (sq (sq (rg ZO.f (tq (it h (λaK h=>?_) (λaK h=>?_)))))))
   ·refine kq (xq (tx (bx (tq (kq (rg ZO.f ?_))))))
    cases h
    exact ⟨_,rfl,⟨its2,H3,kr,hT,Fp.at hH⟩⟩
   refine sk (tq (kq (sq ?_)))
   have aD:=Fp.get hH 1 rfl
   obtain ⟨a9,ax,h⟩:=bs h
   refine rg (ZO.u 0 (ZW (H:=H3) (id:=k1_) (off:=0) (cs:=[ZU false c1_]) (c:=[ZU false c1_]) (r:=ZU false c1_) (hl:=aD)) (ZO.u 1 (Z0 (ys:=[ZU false c1_,iv i4]) (h:=ZY eI64 ax)) (ZO.u 0 (Zae (sz:=1) (off:=0) (cs:=[.int .i64 a9]) (r:=iv a9) eI64 ax) ZO.f))) (tq (sq (rg ZO.f (tq (sq (rg (ZO.u 2 (Z0 (ys:=[Zar false a0.Routes]) (h:=Z6 (eSl 1 eI64))) ZO.f) (tq (bk ?_))))))))
   obtain ⟨au,af,h⟩:=bs h
   refine ZaG ((Zat (λ(x:Int×σ) s=>∃ (a6:List Zap) (ab:List HO),s=⟨[(0,.yl yid_),(2,.ptr k1_ 0),(3,.ptr k2_ 0),(4,.ptr k3_ 0),(6,iv (w64 (i4+1))),(8,.loc 8 0),(9,iv a9),(15,ZR false c0_),(16,iv ((List.length c0_:Nat):Int)),(17,iv i5),(32,iv ((List.length a0.Routes:Nat):Int)),(33,iv x.1)],[(8,(ZV a0))],ab⟩/\T_ x.2 a6/\Fp H ab (.cel k0_ [ZR false c0_]::.cel k1_ [ZU false c1_]::.cel k2_ (ZP c2_)::.cel k3_ (ZQ c3_)::its) (.cel k0_ [ZR false c0_]::.cel k1_ [ZU false c1_]::.cel k2_ (ZP c2_)::.cel k3_ (ZQ c3_)::a6)) (λx:Int×σ=>ZbZ N y_ c2_ c3_ a0 a9 x.1 x.2) (λ(p:(σ)⊕(σ)) e s=>match p with|(.inl p)=>e=.exit 2/\(∃ (a4:List Zap) (ad:List HO),s=⟨[(0,.yl yid_),(2,.ptr k1_ 0),(3,.ptr k2_ 0),(4,.ptr k3_ 0),(6,iv (w64 (i4+1))),(15,ZR false c0_),(16,iv ((List.length c0_:Nat):Int)),(17,iv i5)],[],ad⟩/\T_ p a4/\Fp H ad (.cel k0_ [ZR false c0_]::.cel k1_ [ZU false c1_]::.cel k2_ (ZP c2_)::.cel k3_ (ZQ c3_)::its) (.cel k0_ [ZR false c0_]::.cel k1_ [ZU false c1_]::.cel k2_ (ZP c2_)::.cel k3_ (ZQ c3_)::a4))|(.inr p)=>e=.ret/\∃ xs,rawL s i28.res=some xs/\Zbd xs=.tup []/\∃ its',T_ p its'/\Fp H s.H (.cel k0_ [ZR false c0_]::.cel k1_ [ZU false c1_]::.cel k2_ (ZP c2_)::.cel k3_ (ZQ c3_)::its) (.cel k0_ [ZR false c0_]::.cel k1_ [ZU false c1_]::.cel k2_ (ZP c2_)::.cel k3_ (ZQ c3_)::its')) ?_ N _ au _ af ⟨its2,H3,kr,hT,Fp.at hH⟩).mono ?_)
   ·clear h af
    rintro ⟨aj,aM⟩ o s h hR
    obtain ⟨a6,ab,rfl,hT,hH⟩:=hR
    replace hH:Fp H ab (.cel k0_ [ZR false c0_]::.cel k1_ [ZU false c1_]::.cel k2_ (ZP c2_)::.cel k3_ (ZQ c3_)::its) (.cel k0_ [ZR false c0_]::.cel k1_ [ZU false c1_]::.cel k2_ (ZP c2_)::.cel k3_ (ZQ c3_)::a6):=hH
    replace h:ZbZ N y_ c2_ c3_ a0 a9 aj aM=some o:=h
    unfold ZbZ at h
    refine sq (rg ZO.f (tq (sq (it h (λaI h=>?_) (λaI h=>?_)))))
    ·refine sk (tq (kq (sq (bk (sq (rg ZO.f (tq (sq ?_))))))))
     have ao:=Fp.get hH 2 rfl
     have an:=Fp.get hH 3 rfl
     obtain ⟨a7,aC,h⟩:=bs h
     refine rg (ZO.u 0 (ZW (H:=ab) (id:=k2_) (off:=0) (cs:=(ZP c2_)) (c:=(ZP c2_)) (r:=.agg (ZP c2_)) (hl:=ao)) (ZO.u 0 (ZW (H:=ab) (id:=k3_) (off:=0) (cs:=(ZQ c3_)) (c:=(ZQ c3_)) (r:=.agg (ZQ c3_)) (hl:=an)) (ZO.v 2 (Z7 (hc:=Zgi N c2_ c3_ a0 aj a7 aC)) ZO.f))) (tq (sq (rg (ZO.u 1 (Z0 (ys:=[Za6 false a7.1]) (h:=Z6 ZaQ)) ZO.f) (tq (bk ?_)))))
     obtain ⟨av,ag,h⟩:=bs h
     refine ZaG ((Zat (λ(x:Int×σ) s=>∃ (a1:List Zap) (a5:List HO),s=⟨[(0,.yl yid_),(2,.ptr k1_ 0),(3,.ptr k2_ 0),(4,.ptr k3_ 0),(6,iv (w64 (i4+1))),(8,.loc 8 0),(9,iv a9),(15,ZR false c0_),(16,iv ((List.length c0_:Nat):Int)),(17,iv i5),(32,iv ((List.length a0.Routes:Nat):Int)),(33,iv aj),(44,Za6 false a7.1),(45,iv ((List.length a7.1:Nat):Int)),(46,iv x.1)],[(8,(ZV a0))],a5⟩/\T_ x.2 a1/\Fp H a5 (.cel k0_ [ZR false c0_]::.cel k1_ [ZU false c1_]::.cel k2_ (ZP c2_)::.cel k3_ (ZQ c3_)::its) (.cel k0_ [ZR false c0_]::.cel k1_ [ZU false c1_]::.cel k2_ (ZP c2_)::.cel k3_ (ZQ c3_)::a1)) (λx:Int×σ=>ZbY N y_ c3_ a0 a9 a7 x.1 x.2) (λ(p:(σ)⊕(σ)) e s=>match p with|(.inl p)=>e=.exit 4/\(∃ (a3:List Zap) (ac:List HO),s=⟨[(0,.yl yid_),(2,.ptr k1_ 0),(3,.ptr k2_ 0),(4,.ptr k3_ 0),(6,iv (w64 (i4+1))),(8,.loc 8 0),(9,iv a9),(15,ZR false c0_),(16,iv ((List.length c0_:Nat):Int)),(17,iv i5),(32,iv ((List.length a0.Routes:Nat):Int)),(33,iv aj)],[(8,(ZV a0))],ac⟩/\T_ p a3/\Fp H ac (.cel k0_ [ZR false c0_]::.cel k1_ [ZU false c1_]::.cel k2_ (ZP c2_)::.cel k3_ (ZQ c3_)::its) (.cel k0_ [ZR false c0_]::.cel k1_ [ZU false c1_]::.cel k2_ (ZP c2_)::.cel k3_ (ZQ c3_)::a3))|(.inr p)=>e=.ret/\∃ xs,rawL s i28.res=some xs/\Zbd xs=.tup []/\∃ its',T_ p its'/\Fp H s.H (.cel k0_ [ZR false c0_]::.cel k1_ [ZU false c1_]::.cel k2_ (ZP c2_)::.cel k3_ (ZQ c3_)::its) (.cel k0_ [ZR false c0_]::.cel k1_ [ZU false c1_]::.cel k2_ (ZP c2_)::.cel k3_ (ZQ c3_)::its')) ?_ N _ av _ ag ⟨a6,ab,kr,hT,Fp.at hH⟩).mono ?_)
     ·clear h ag
      rintro ⟨aw,az⟩ o s h hR
      obtain ⟨a1,a5,rfl,hT,hH⟩:=hR
      replace hH:Fp H a5 (.cel k0_ [ZR false c0_]::.cel k1_ [ZU false c1_]::.cel k2_ (ZP c2_)::.cel k3_ (ZQ c3_)::its) (.cel k0_ [ZR false c0_]::.cel k1_ [ZU false c1_]::.cel k2_ (ZP c2_)::.cel k3_ (ZQ c3_)::a1):=hH
      replace h:ZbY N y_ c3_ a0 a9 a7 aw az=some o:=h
      unfold ZbY at h
      refine sq (rg ZO.f (tq (sq (it h (λaG h=>?_) (λaG h=>?_)))))
      ·refine sk (tq (kq (sq (bk (sq ?_)))))
       obtain ⟨a2,ai,h⟩:=bs h
       refine rg (ZO.u 0 (Z0 (ys:=[Za6 false a7.1,iv aw]) (h:=ZY ZaQ ai)) (ZO.u 0 (Zae (sz:=5) (off:=0) (cs:=[.int .i64 a2.Port,.int .i64 a2.Early,.int .i64 a2.Late,.int .i64 a2.Open,.int .i64 a2.Long]) (r:=.agg (ZbD a2)) ZaQ ai) ZO.f)) (tq (sq ?_))
       have am:=Fp.get hH 3 rfl
       have al:=Fp.get hH 3 rfl
       obtain ⟨aJ,aB,h⟩:=bs h
       obtain ⟨aA,aa,ak,hT,ap⟩:=hy_ (ZaI.mk a2.Port (w64 (a2.Open+(w64 (a9*c3_.Grid)))) a2.Long (w64 (a0.Period*c3_.Grid))) az aJ a5 a1 hT (Fp.tail (own:=[.cel k0_ [ZR false c0_],.cel k1_ [ZU false c1_],.cel k2_ (ZP c2_),.cel k3_ (ZQ c3_)]) (its:=a1) hH) aB
       replace hH:Fp H aA (.cel k0_ [ZR false c0_]::.cel k1_ [ZU false c1_]::.cel k2_ (ZP c2_)::.cel k3_ (ZQ c3_)::its) (.cel k0_ [ZR false c0_]::.cel k1_ [ZU false c1_]::.cel k2_ (ZP c2_)::.cel k3_ (ZQ c3_)::aa):=Fp.callT (own:=[.cel k0_ [ZR false c0_],.cel k1_ [ZU false c1_],.cel k2_ (ZP c2_),.cel k3_ (ZQ c3_)]) (its:=a1) hH ap
       refine rg (ZO.u 7 (ZW (H:=a5) (id:=k3_) (off:=0) (cs:=(ZQ c3_)) (c:=[iv c3_.Grid]) (r:=iv c3_.Grid) (hl:=am)) (ZO.u 7 (ZW (H:=a5) (id:=k3_) (off:=0) (cs:=(ZQ c3_)) (c:=[iv c3_.Grid]) (r:=iv c3_.Grid) (hl:=al)) (ZO.v 2 (ZhZ (H:=a5) (id:=yid_) (ys:=[.agg [iv a2.Port,iv (w64 (a2.Open+(w64 (a9*c3_.Grid)))),iv a2.Long,iv (w64 (a0.Period*c3_.Grid))]]) kr kr kr kr ak) ZO.f))) (tq (it h (λaE h=>?_) (λaE h=>?_)))
       ·refine rt (br (tr ?_))
        cases h
        exact ⟨_,rfl,rfl,⟨[],kr,kr,aa,hT,Fp.at hH⟩⟩
       refine sk (bn (tq (kq (rg ZO.f ?_))))
       cases h
       exact ⟨_,rfl,⟨aa,aA,kr,hT,Fp.at hH⟩⟩
      refine kq (xq (tx ?_))
      cases h
      exact ⟨_,rfl,rfl,⟨a1,a5,kr,hT,Fp.at hH⟩⟩
     rintro e s hq
     rcases av with aV|aU
     ·dsimp only at h hq
      obtain ⟨rfl,hR⟩:=hq
      obtain ⟨a3,ac,rfl,hT,hH⟩:=hR
      replace hH:Fp H ac (.cel k0_ [ZR false c0_]::.cel k1_ [ZU false c1_]::.cel k2_ (ZP c2_)::.cel k3_ (ZQ c3_)::its) (.cel k0_ [ZR false c0_]::.cel k1_ [ZU false c1_]::.cel k2_ (ZP c2_)::.cel k3_ (ZQ c3_)::a3):=hH
      refine bx (bn (tq (rg ZO.f ?_)))
      cases h
      exact ⟨_,rfl,⟨a3,ac,kr,hT,Fp.at hH⟩⟩
     dsimp only at h hq
     obtain ⟨rfl,hq⟩:=hq
     refine br (br (tr ?_))
     cases h
     exact ⟨_,rfl,rfl,hq⟩
    refine kq (xq (tx ?_))
    cases h
    exact ⟨_,rfl,rfl,⟨a6,ab,kr,hT,Fp.at hH⟩⟩
   rintro e s hq
   rcases au with aT|aS
   ·dsimp only at h hq
    obtain ⟨rfl,hR⟩:=hq
    obtain ⟨a4,ad,rfl,hT,hH⟩:=hR
    replace hH:Fp H ad (.cel k0_ [ZR false c0_]::.cel k1_ [ZU false c1_]::.cel k2_ (ZP c2_)::.cel k3_ (ZQ c3_)::its) (.cel k0_ [ZR false c0_]::.cel k1_ [ZU false c1_]::.cel k2_ (ZP c2_)::.cel k3_ (ZQ c3_)::a4):=hH
    refine bx (bn (tq (kq (rg ZO.f ?_))))
    cases h
    exact ⟨_,rfl,⟨a4,ad,kr,hT,Fp.at hH⟩⟩
   dsimp only at h hq
   obtain ⟨rfl,hq⟩:=hq
   refine br (br (tr ?_))
   cases h
   exact ⟨_,rfl,rfl,hq⟩
  refine kq (xq (tx ?_))
  cases h
  exact ⟨_,rfl,rfl,⟨its2,H3,kr,hT,Fp.at hH⟩⟩
 rintro e s hq
 rcases ar with aR|aQ
 ·dsimp only at h hq
  obtain ⟨rfl,hR⟩:=hq
  obtain ⟨a8,aq,rfl,hT,hH⟩:=hR
  replace hH:Fp H aq (.cel k0_ [ZR false c0_]::.cel k1_ [ZU false c1_]::.cel k2_ (ZP c2_)::.cel k3_ (ZQ c3_)::its) (.cel k0_ [ZR false c0_]::.cel k1_ [ZU false c1_]::.cel k2_ (ZP c2_)::.cel k3_ (ZQ c3_)::a8):=hH
  refine bx ?_
  cases h
  exact ⟨[],kr,kr,a8,hT,Fp.at hH⟩
 dsimp only at h hq
 obtain ⟨rfl,hq⟩:=hq
 refine br ?_
 cases h
 exact hq
theorem Zi8 (N:Nat)(a0_:Z8)(a1_:Zan)(a2_:(List Z9))(r:Zaf×Int)(h:ZjA N a0_ a1_ a2_=some r):PCall Try.prog 12 [.agg (ZP a0_),.agg (ZQ a1_),ZR false a2_] (.tup [.agg [ZU false r.1.Periods,Zas false r.1.Uses],iv r.2]):=by
 unfold ZjA at h
 have hH  := hp0
 refine Zal ZAP rfl rfl (Z5 _ _ _ ?_) rfl
 refine sq (rg ZO.f (tq (sq (sq ?_))))
 obtain ⟨r1,hr1,h⟩:=bs h
 refine rg (ZO.v 1 (Z7 (hc:=Zea N a0_ ([]) r1 hr1)) ZO.f) (tq (sq (rg ZO.f (tq (it h (λhc2 h=>?_) (λhc2 h=>?_))))))
 ·refine sq (rg ZO.f (tq (rt (tr ?_))))
  cases h
  exact Zab kr
 refine sk (tq (kq (sq (sq ?_))))
 obtain ⟨r3,hr3,h⟩:=bs h
 refine rg (ZO.v 1 (Z7 (hc:=Zds N a1_ r3 hr3)) ZO.f) (tq (sq (rg ZO.f (tq (it h (λhc4 h=>?_) (λhc4 h=>?_))))))
 ·refine sq (rg ZO.f (tq (rt (tr ?_))))
  cases h
  exact Zab kr
 refine sk (tq (kq (sq (sq ?_))))
 obtain ⟨r5,hr5,h⟩:=bs h
 refine rg (ZO.v 2 (Z7 (hc:=Zea N a0_ a2_ r5 hr5)) ZO.f) (tq (sq (rg ZO.f (tq (it h (λhc6 h=>?_) (λhc6 h=>?_))))))
 ·refine sq (rg ZO.f (tq (rt (tr ?_))))
  cases h
  exact Zab kr
 refine sk (tq (kq (sq ?_)))
 obtain ⟨id7,H8,hid7,hH8,hH⟩:=HP.newCell hH [ZU true [],Zas true [],bv false]
 replace hH:HP _ [.cel id7 [ZU true [],Zas true [],bv false]]:=hH
 refine rg (ZO.h 0 (Zcz (H:=[]) kr hid7 hH8) ZO.f) (tq (sq (sq (rg (ZO.u 1 (Z0 (ys:=[ZR false a2_]) (h:=Z6 Za1)) ZO.f) (tq (bk ?_))))))
 obtain ⟨am,aa,h⟩:=bs h
 refine ZaG ((Zat (λ(x:Int×Bool×(List Int)×(List Zax)) s=>∃ (a9:AV) (a7:AV) (al:List HO),s=⟨[(3,.loc 3 0),(4,.loc 4 0),(6,.loc 6 0),(11,.ptr id7 0),(35,ZR false a2_),(36,iv ((List.length a2_:Nat):Int)),(37,iv x.1)],[(3,(ZP a0_)),(4,(ZQ a1_)),(6,[ZU true [],Zas true []])],al⟩/\HP al [.arr a9 1 true (List.map eI64 x.2.2.1),.arr a7 4 true (List.map Z2 x.2.2.2),.cel id7 [a9,a7,bv x.2.1]]) (λx:Int×Bool×(List Int)×(List Zax)=>ZfX N a0_ a1_ a2_ x.1 x.2.1 x.2.2.1 x.2.2.2) (λ(p:(Bool×(List Int)×(List Zax))⊕(Zaf×Int)) e s=>match p with|(.inl p)=>e=.exit 0/\(∃ (a4:AV) (a3:AV) (a6:List HO),s=⟨[(6,.loc 6 0),(11,.ptr id7 0)],[(6,[ZU true [],Zas true []])],a6⟩/\HP a6 [.arr a4 1 true (List.map eI64 p.2.1),.arr a3 4 true (List.map Z2 p.2.2),.cel id7 [a4,a3,bv p.1]])|(.inr p)=>e=.ret/\∃ xs,resL s i12.res=some xs/\Zbd xs=.tup [.agg [ZU false p.1.Periods,Zas false p.1.Uses],iv p.2]) ?_ N _ am _ aa ⟨(.p (.sl 1 true [])),(.p (.sl 4 true [])),H8,kr,(HP.pick (HP.nilArr (HP.nilArr hH 4 true) 1 true) [0,1,2] rfl)⟩).mono ?_)
 ·clear h aa
  rintro ⟨i12,b13,aw,av⟩ o s h hR
  obtain ⟨a9,a7,al,rfl,hH⟩:=hR
  replace hH:HP _ [.arr a9 1 true (List.map eI64 aw),.arr a7 4 true (List.map Z2 av),.cel id7 [a9,a7,bv b13]]:=hH
  have hfa9:=Za5 (HP.get hH 0 rfl)
  have aE:=Za5 (HP.get hH 1 rfl)
  replace h:ZfX N a0_ a1_ a2_ i12 b13 aw av=some o:=h
  unfold ZfX at h
  refine sq (rg ZO.f (tq (sq (it h (λau h=>?_) (λau h=>?_)))))
  ·refine sk (tq (kq (sq (bk (sq ?_)))))
   obtain ⟨a5,ab,h⟩:=bs h
   refine rg (ZO.u 0 (Z0 (ys:=[ZR false a2_,iv i12]) (h:=ZY Za1 ab)) (ZO.u 0 (Zae (sz:=10) (off:=0) (cs:=[.int .i64 a5.Id,.int .i64 a5.Talker,.int .i64 a5.Listener,.int .i64 a5.Class,.int .i64 a5.Size,.int .i64 a5.Period,.int .i64 a5.Bucket.Burst,.int .i64 a5.Bucket.Rate,.int .i64 a5.Deadline,.sl 1 false (List.map (eSl 1 eI64) a5.Routes)]) (r:=.agg (ZV a5)) Za1 ab) ZO.f)) (tq (sq (sq (rg ZO.f (tq (it h (λar h=>?_) (λar h=>?_)))))))
   ·refine kq (xq (tx (bx (tq (kq (rg ZO.f ?_))))))
    cases h
    exact ⟨_,rfl,⟨a9,a7,al,kr,(HP.pick hH [0,1,2] rfl)⟩⟩
   refine sk (tq (kq (sq ?_)))
   obtain ⟨a8,ao,h⟩:=bs h
   have hl_a9:=HP.get hH 0 rfl
   have aA:=HP.get hH 1 rfl
   obtain ⟨aj,ai,aD,ad,af⟩:=Zhm N (ZaV.mk (Zaf.mk aw av) b13) a0_ a1_ a5  id7 a9 a7 al (HP.now (HP.pick hH [2,0,1] rfl)) a8 ao
   replace hH:HP _ [.cel id7 [aj,ai,bv a8.2.late],.arr aj 1 true (List.map eI64 a8.2.Problem.Periods),.arr ai 4 true (List.map Z2 a8.2.Problem.Uses)]:=HP.callee (fp:=[.cel id7 [a9,a7,bv b13],.arr a9 1 true (List.map eI64 aw),.arr a7 4 true (List.map Z2 av)]) (rest:=[]) (HP.pick hH [2,0,1] rfl) af
   have aC:=Za5 (HP.get hH 1 rfl)
   have aB:=Za5 (HP.get hH 2 rfl)
   refine rg (ZO.v 3 (Zk3 (H:=al) (ys:=[.ptr id7 0,.agg (ZP a0_),.agg (ZQ a1_),.agg (ZV a5)]) kr kr [[],[],[],[]] (ZeL (ZfJ rfl) (ZeL (ZfJ rfl) (ZeL (ZfJ rfl) (ZeL (ZfJ rfl) passL_nil')))) ad) ZO.f) (tq (sq (rg ZO.f (tq (it h (λaq h=>?_) (λaq h=>?_))))))
   ·refine sq (rg ZO.f ?_)
    replace hH:HP _ []:=HP.pick hH [] rfl
    refine tq (rt (br (tr ?_)))
    cases h
    exact ⟨_,rfl,rfl,Zab kr⟩
   refine sk (bn (tq (kq (rg ZO.f ?_))))
   cases h
   exact ⟨_,rfl,⟨aj,ai,aD,kr,(HP.pick hH [1,2,0] rfl)⟩⟩
  refine kq (xq (tx ?_))
  cases h
  exact ⟨_,rfl,rfl,⟨a9,a7,al,kr,(HP.pick hH [0,1,2] rfl)⟩⟩
 rintro e s hq
 rcases am with a2|aG
 ·dsimp only at h hq
  obtain ⟨rfl,hR⟩:=hq
  obtain ⟨a4,a3,a6,rfl,hH⟩:=hR
  replace hH:HP _ [.arr a4 1 true (List.map eI64 a2.2.1),.arr a3 4 true (List.map Z2 a2.2.2),.cel id7 [a4,a3,bv a2.1]]:=hH
  have a1:=Za5 (HP.get hH 0 rfl)
  have a0:=Za5 (HP.get hH 1 rfl)
  refine bx (tq (sq (sq ?_)))
  obtain ⟨az,an,h⟩:=bs h
  have ay:=HP.get hH 0 rfl
  have ax:=HP.get hH 1 rfl
  obtain ⟨ak,ac,ae⟩:=ZgD N (ZaV.mk (Zaf.mk a2.2.1 a2.2.2) a2.1)  id7 a4 a3 a6 (HP.now (HP.pick hH [2,0,1] rfl)) az an
  replace hH:HP _ [.cel id7 [a4,a3,bv a2.1],.arr a4 1 true (List.map eI64 a2.2.1),.arr a3 4 true (List.map Z2 a2.2.2)]:=HP.callee (fp:=[.cel id7 [a4,a3,bv a2.1],.arr a4 1 true (List.map eI64 a2.2.1),.arr a3 4 true (List.map Z2 a2.2.2)]) (rest:=[]) (HP.pick hH [2,0,1] rfl) ae
  refine rg (ZO.v 0 (Zk3 (H:=a6) (ys:=[.ptr id7 0]) kr kr [[]] (ZeL (ZfJ rfl) passL_nil') ac) ZO.f) (tq (sq (rg ZO.f (tq (it h (λap h=>?_) (λap h=>?_))))))
  ·refine sq (rg ZO.f ?_)
   replace hH:HP _ []:=HP.pick hH [] rfl
   refine tq (rt (tr ?_))
   cases h
   exact Zab kr
  refine sk (tq (kq (sq ?_)))
  have ag:=HP.get hH 0 rfl
  refine rgS ⟨[(6,.loc 6 0),(7,iv 0)],[(6,[a4,a3])],ak⟩ (ZO.u 1 (ZW (H:=ak) (id:=id7) (off:=0) (cs:=[a4,a3,bv a2.1]) (c:=[a4,a3]) (r:=.agg [a4,a3]) (by cases a1<;>cases a0<;>kernel_rfl) (by cases a1<;>cases a0<;>kernel_rfl) ag (by cases a1<;>cases a0<;>kernel_rfl) (by cases a1<;>cases a0<;>kernel_rfl) (by cases a1<;>cases a0<;>kernel_rfl)) (ZO.f (h:=(by cases a1<;>cases a0<;>kernel_rfl)))) (by cases a1<;>cases a0<;>kernel_rfl) ?_
  replace hH:HP _ [.arr a4 1 true (List.map eI64 a2.2.1),.arr a3 4 true (List.map Z2 a2.2.2)]:=HP.pick hH [1,2] rfl
  refine tq (rt ?_)
  obtain rfl:=Zaa h
  exact Zb8 (H:=ak) (ys:=[.agg [a4,a3],iv 0]) (xs:=[.agg [.p (.sl 1 false (List.map eI64 a2.2.1)),.p (.sl 4 false (List.map Z2 a2.2.2))],iv 0]) (by cases a1<;>cases a0<;>kernel_rfl) (by cases a1<;>cases a0<;>kernel_rfl) (ZaA (Zir (ZdS (HP.pure (k:=0) (frz:=true) eI64 hH rfl).1 (ZdS (HP.pure (k:=1) (frz:=true) Z2 hH rfl).1 Zit))) (ZaA rfl Za3)) kr
 dsimp only at h hq
 obtain ⟨rfl,hq⟩:=hq
 refine br (tr ?_)
 cases h
 exact hq
end Go.Sh

