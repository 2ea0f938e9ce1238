/- Part of the proof. -/
import Derived.Test.YthipedbbcjemhaaGreatPlanMakesOk3
set_option linter.all false
namespace Go.Sh
open Go Go.Eng Go.Proofs
set_option maxRecDepth 100000
set_option maxHeartbeats 4000000
attribute [local irreducible] vc ev ZfZ opsD opsF ZiV upd updH updO
theorem law24_PlanMakes_ok (N:Nat)(a0_:Zbi)(a1_:(List ZbN))(a2_:Zlf)(a3_:Zhc)(r:Bool)(h:Zfl N a0_ a1_ a2_ a3_=some r):Zba Tryz.prog 3 [.agg (ZaH a0_),ZbL false a1_,.agg (ZsB a2_),.agg (ZbW a3_)] (bv r):=by
 unfold Zfl at h
 have hH  := hp0
 refine ZaG chk3 rfl rfl (Zay _ _ _ ?_) rfl
 refine sq (rg Zab.f (tq (sq ?_)))
 obtain ⟨r1,hr1,h⟩:=bs h
 refine rg (Zab.v 1 (Zaz (hc:=ZjM N a0_ r1 hr1)) Zab.f) (tq (sq ?_))
 obtain ⟨r2,hr2,h⟩:=bs h
 refine rg (Zab.v 2 (Zaz (hc:=ZlQ N r1 a1_ r2 hr2)) Zab.f) (tq (sq ?_))
 obtain ⟨r3,hr3,h⟩:=bs h
 refine rg (Zab.v 6 (Zaz (hc:=ZlR N a2_.x0 a2_.x1 a2_.x2 r3 hr3)) Zab.f) (tq (sq ?_))
 obtain ⟨l6,hl6,h⟩:=bs h
 obtain ⟨a4,H5,ha4,hH⟩:=Zt1 (sz:=10) Zar hH hl6
 replace hH:HP _ [.arr a4 10 false (List.map Zar l6)]:=hH
 have hfa4:=ZaS (HP.get hH 0 rfl)
 refine rgS ⟨[(7,.loc 7 0),(9,.loc 9 0),(10,Zaf false r2),(11,.loc 11 0),(12,a4)],[(7,(ZbW a3_)),(9,(Zac r1)),(11,(Zak r3))],H5⟩ (Zab.h 2 (Ze9 (H:=[]) (a:=Zaf true []) (b:=Zaf false r2) kr kr kr kr ha4) Zab.f) (by cases hfa4<;>kernel_rfl) (tq (sq (sq (rgS ⟨[(7,.loc 7 0),(9,.loc 9 0),(10,Zaf false r2),(11,.loc 11 0),(12,a4),(13,iv 0)],[(7,(ZbW a3_)),(9,(Zac r1)),(11,(Zak r3))],H5⟩ Zab.f (by cases hfa4<;>kernel_rfl) (tq (bk ?_))))))
 obtain ⟨ae,aI,h⟩:=bs h
 refine ZaT ((ZaI (λ(x:Int×(List Zah)) s=>∃ (a7:AV) (H8:List HO),s=⟨[(7,.loc 7 0),(9,.loc 9 0),(10,Zaf false r2),(11,.loc 11 0),(12,a7),(13,iv x.1)],[(7,(ZbW a3_)),(9,(Zac r1)),(11,(Zak r3))],H8⟩/\HP H8 [.arr a7 10 false (List.map Zar x.2)]) (λx:Int×(List Zah)=>Zch N a3_ x.1 x.2) (λ(p:(List Zah)) e s=>e=.exit 0/\(∃ (a9:AV) (aj:List HO),s=⟨[(7,.loc 7 0),(9,.loc 9 0),(10,Zaf false r2),(11,.loc 11 0),(12,a9)],[(7,(ZbW a3_)),(9,(Zac r1)),(11,(Zak r3))],aj⟩/\HP aj [.arr a9 10 false (List.map Zar p)])) ?_ N _ ae _ aI ⟨a4,H5,(by show _=_;cases hfa4<;>kernel_rfl),(HP.pick hH [0] rfl)⟩).mono ?_)
 ·clear h aI
  rintro ⟨i9,cV⟩ o s h hR
  obtain ⟨a7,H8,rfl,hH⟩:=hR
  replace hH:HP _ [.arr a7 10 false (List.map Zar cV)]:=hH
  have hfa7:=ZaS (HP.get hH 0 rfl)
  replace h:Zch N a3_ i9 cV=some o:=h
  unfold Zch at h
  refine sq (sq ?_)
  have c5:=HP.len (k:=0) (a:=a7) (sz:=10) (frz:=false) (l:=cV) Zar hH rfl
  refine rgS ⟨[(7,.loc 7 0),(9,.loc 9 0),(10,Zaf false r2),(11,.loc 11 0),(12,a7),(13,iv i9),(42,bv (decide (i9<((List.length cV:Nat):Int))))],[(7,(ZbW a3_)),(9,(Zac r1)),(11,(Zak r3))],H8⟩ (Zab.u 2 (Zan (ys:=[a7]) (by cases hfa7<;>kernel_rfl) c5) Zab.f) (by cases hfa7<;>kernel_rfl) (tq (it h (λda h=>?_) (λda h=>?_)))
  ·refine sk (tq (kq ?_))
   obtain ⟨bq,aL,h⟩:=bs h
   refine ZcD [7,9,10,11,12,13] (λs=>∃ (af:AV) (ai:List HO),s=⟨[(7,.loc 7 0),(9,.loc 9 0),(10,Zaf false r2),(11,.loc 11 0),(12,af),(13,iv i9)],[(7,(ZbW a3_)),(9,(Zac r1)),(11,(Zak r3))],ai⟩/\HP ai [.arr af 10 false (List.map Zar bq)]) ?_ ?_
   ·clear h
    have h:=aL
    refine bk ?_
    obtain ⟨aG,aK,h⟩:=bs h
    refine ZcD [7,9,10,11,12,13] (λs=>∃ (a5:AV) (ad:List HO),s=⟨[(7,.loc 7 0),(9,.loc 9 0),(10,Zaf false r2),(11,.loc 11 0),(12,a5),(13,iv i9)],[(7,(ZbW a3_)),(9,(Zac r1)),(11,(Zak r3))],ad⟩/\HP ad [.arr a5 10 false (List.map Zar aG)]) ?_ ?_
    ·clear h
     have h:=aK
     refine sq ?_
     obtain ⟨bA,be,h⟩:=bs h
     refine rgS ⟨[(7,.loc 7 0),(9,.loc 9 0),(10,Zaf false r2),(11,.loc 11 0),(12,a7),(13,iv i9),(51,bv ((andI .u16 bA 1)==1))],[(7,(ZbW a3_)),(9,(Zac r1)),(11,(Zak r3))],H8⟩ (Zab.u 4 (Zan (ys:=[.p (.int .u16 a3_.x0),.p (.int .u64 (IntKind.u64.wrap (i9)))]) (h:=Zo8 be)) Zab.f) (by cases hfa7<;>kernel_rfl) (tq (it h (λcD h=>?_) (λcD h=>?_)))
     ·obtain ⟨a3,bb,h⟩:=bs h
      obtain ⟨dl,df,_,aY,bp,aZ,aX⟩:=HP.elem (k:=0) (a:=a7) (sz:=10) (frz:=false) Zar hH rfl bb
      obtain ⟨bz,cI,hH⟩:=HP.setRow (k:=0) (off:=8) (cs:=[iv (w64 (1+(w64 (a3_.x1))))]) (ps:=[.int .i64 (w64 (1+(w64 (a3_.x1))))]) (e':=(Zah.mk a3.Id a3.Talker a3.Listener a3.Class a3.Size a3.Period a3.Bucket (w64 (1+(w64 (a3_.x1)))) a3.Routes)) Zar hH rfl aZ bp (aY rfl) bb kr kr
      replace hH:HP _ [.arr a7 10 false (List.map Zar (List.set cV (Int.toNat i9) (Zah.mk a3.Id a3.Talker a3.Listener a3.Class a3.Size a3.Period a3.Bucket (w64 (1+(w64 (a3_.x1)))) a3.Routes)))]:=hH
      refine rgS ⟨[(7,.loc 7 0),(9,.loc 9 0),(10,Zaf false r2),(11,.loc 11 0),(12,a7),(13,iv i9)],[(7,(ZbW a3_)),(9,(Zac r1)),(11,(Zak r3))],bz⟩ (Zab.u 6 (Zan (ys:=[a7,iv i9]) (by cases hfa7<;>kernel_rfl) (aX .i64)) (Zab.o 1 (Zbe (H:=H8) (v:=iv (w64 (1+(w64 (a3_.x1))))) (hw:=cI)) Zab.f)) (by cases hfa7<;>kernel_rfl) ?_
      cases h
      exact ⟨rfl,⟨a7,bz,(by show _=_;cases hfa7<;>kernel_rfl),(HP.pick hH [0] rfl)⟩⟩
     refine sk ?_
     cases h
     exact ⟨rfl,⟨a7,H8,(by show _=_;cases hfa7<;>kernel_rfl),(HP.pick hH [0] rfl)⟩⟩
    clear aK
    rintro s hR
    obtain ⟨a5,ad,rfl,hH⟩:=hR
    replace hH:HP _ [.arr a5 10 false (List.map Zar aG)]:=hH
    have a6:=ZaS (HP.get hH 0 rfl)
    refine sq ?_
    obtain ⟨d5,hj,h⟩:=bs h
    refine rgR (λs=>s=⟨[(7,.loc 7 0),(9,.loc 9 0),(10,Zaf false r2),(11,.loc 11 0),(12,a5),(13,iv i9),(75,bv d5)],[(7,(ZbW a3_)),(9,(Zac r1)),(11,(Zak r3))],ad⟩) ?_ ?_
    ·clear h
     obtain ⟨aE,bd,hj⟩:=bs hj
     refine (EP.u 5 (Zan (ys:=[.p (.int .u16 a3_.x0),.p (.int .u64 (IntKind.u64.wrap ((w64 (i9+6)))))]) (h:=Zo8 bd)) ?_)
     rcases ZaC hj with ⟨cC,hj⟩|⟨cB,hj⟩
     ·refine (EP.u 1 (Zam (c:=((andI .u16 aE 1)==1)) (h:=cC)) ?_)
      obtain ⟨bt,ba,hj⟩:=bs hj
      obtain ⟨dk,de,_,d8,bm,d9,aW⟩:=HP.elem (k:=0) (a:=a5) (sz:=10) (frz:=false) Zar hH rfl ba
      obtain rfl:=Zao hj
      exact (EP.u 3 (Zan (ys:=[a5,iv i9]) (by cases a6<;>kernel_rfl) (aW .i64)) (EP.u 1 (ZbH (H:=ad) (off:=3) (cs:=[.int .i64 bt.Class]) (r:=iv bt.Class) Zar ba bm) (EP.f (by show _=_;cases a6<;>kernel_rfl))))
     obtain rfl:=Zao hj
     exact (EP.u 1 (Zam (c:=((andI .u16 aE 1)==1)) (h:=cB)) (EP.f (by show _=_;cases a6<;>kernel_rfl)))
    clear hj
    rintro s hR
    obtain rfl:=hR
    refine tq (it h (λcA h=>?_) (λcA h=>?_))
    ·obtain ⟨a2,b2,h⟩:=bs h
     obtain ⟨dj,dd,_,aU,bl,aV,aT⟩:=HP.elem (k:=0) (a:=a5) (sz:=10) (frz:=false) Zar hH rfl b2
     obtain ⟨bw,cG,hH⟩:=HP.setRow (k:=0) (off:=5) (cs:=[iv (w64 (1+(w64 ((Int.tmod a3_.x2 240)))))]) (ps:=[.int .i64 (w64 (1+(w64 ((Int.tmod a3_.x2 240)))))]) (e':=(Zah.mk a2.Id a2.Talker a2.Listener a2.Class a2.Size (w64 (1+(w64 ((Int.tmod a3_.x2 240))))) a2.Bucket a2.Deadline a2.Routes)) Zar hH rfl aV bl (aU rfl) b2 kr kr
     replace hH:HP _ [.arr a5 10 false (List.map Zar (List.set aG (Int.toNat i9) (Zah.mk a2.Id a2.Talker a2.Listener a2.Class a2.Size (w64 (1+(w64 ((Int.tmod a3_.x2 240))))) a2.Bucket a2.Deadline a2.Routes)))]:=hH
     refine rgS ⟨[(7,.loc 7 0),(9,.loc 9 0),(10,Zaf false r2),(11,.loc 11 0),(12,a5),(13,iv i9)],[(7,(ZbW a3_)),(9,(Zac r1)),(11,(Zak r3))],bw⟩ (Zab.u 7 (Zan (ys:=[a5,iv i9]) (by cases a6<;>kernel_rfl) (aT .i64)) (Zab.o 1 (Zbe (H:=ad) (v:=iv (w64 (1+(w64 ((Int.tmod a3_.x2 240)))))) (hw:=cG)) Zab.f)) (by cases a6<;>kernel_rfl) (bn ?_)
     cases h
     exact ⟨rfl,⟨a5,bw,(by show _=_;cases a6<;>kernel_rfl),(HP.pick hH [0] rfl)⟩⟩
    refine sk (bn ?_)
    cases h
    exact ⟨rfl,⟨a5,ad,(by show _=_;cases a6<;>kernel_rfl),(HP.pick hH [0] rfl)⟩⟩
   clear aL
   rintro s hR
   obtain ⟨af,ai,rfl,hH⟩:=hR
   replace hH:HP _ [.arr af 10 false (List.map Zar bq)]:=hH
   have aD:=ZaS (HP.get hH 0 rfl)
   refine rgS ⟨[(7,.loc 7 0),(9,.loc 9 0),(10,Zaf false r2),(11,.loc 11 0),(12,af),(13,iv (w64 (i9+1)))],[(7,(ZbW a3_)),(9,(Zac r1)),(11,(Zak r3))],ai⟩ Zab.f (by cases aD<;>kernel_rfl) ?_
   cases h
   exact ⟨_,rfl,⟨af,ai,(by show _=_;cases aD<;>kernel_rfl),(HP.pick hH [0] rfl)⟩⟩
  refine kq (xq (tx ?_))
  cases h
  exact ⟨_,rfl,rfl,⟨a7,H8,(by show _=_;cases hfa7<;>kernel_rfl),(HP.pick hH [0] rfl)⟩⟩
 rintro e s hq
 obtain ⟨rfl,hR⟩:=hq
 obtain ⟨a9,aj,rfl,hH⟩:=hR
 replace hH:HP _ [.arr a9 10 false (List.map Zar ae)]:=hH
 have a8:=ZaS (HP.get hH 0 rfl)
 refine bx (tq ?_)
 obtain ⟨a0,aJ,h⟩:=bs h
 refine ZcD [7,9,10,11,12] (λs=>∃ (ab:AV) (ag:List HO),s=⟨[(7,.loc 7 0),(9,.loc 9 0),(10,Zaf false r2),(11,.loc 11 0),(12,ab)],[(7,(ZbW a3_)),(9,(Zac r1)),(11,(Zak r3))],ag⟩/\HP ag [.arr ab 10 false (List.map Zar a0)]) ?_ ?_
 ·clear h
  have h:=aJ
  refine sq ?_
  obtain ⟨d4,hj,h⟩:=bs h
  refine rgR (λs=>s=⟨[(7,.loc 7 0),(9,.loc 9 0),(10,Zaf false r2),(11,.loc 11 0),(12,a9),(93,bv d4)],[(7,(ZbW a3_)),(9,(Zac r1)),(11,(Zak r3))],aj⟩) ?_ ?_
  ·clear h
   have bf:=HP.len (k:=0) (a:=a9) (sz:=10) (frz:=false) (l:=ae) Zar hH rfl
   refine (EP.u 1 (Zan (ys:=[a9]) (by cases a8<;>kernel_rfl) bf) ?_)
   rcases ZaC hj with ⟨cz,hj⟩|⟨cy,hj⟩
   ·obtain rfl:=Zao hj
    exact (EP.u 0 (Zam (c:=(decide (((List.length ae:Nat):Int)>1))) (h:=cz)) (EP.f (by show _=_;cases a8<;>kernel_rfl)))
   obtain rfl:=Zao hj
   exact (EP.u 0 (Zam (c:=(decide (((List.length ae:Nat):Int)>1))) (h:=cy)) (EP.f (by show _=_;cases a8<;>kernel_rfl)))
  clear hj
  rintro s hR
  obtain rfl:=hR
  refine tq (it h (λcw h=>?_) (λcw h=>?_))
  ·obtain ⟨ac,b1,h⟩:=bs h
   obtain ⟨di,dc,_,d6,bj,d7,aS⟩:=HP.elem (k:=0) (a:=a9) (sz:=10) (frz:=false) Zar hH rfl b1
   obtain ⟨a1,b0,h⟩:=bs h
   obtain ⟨dg,db,_,aQ,bi,aR,aM⟩:=HP.elem (k:=0) (a:=a9) (sz:=10) (frz:=false) Zar hH rfl b0
   obtain ⟨bu,cE,hH⟩:=HP.setRow (k:=0) (off:=0) (cs:=[iv ac.Id]) (ps:=[.int .i64 ac.Id]) (e':=(Zah.mk ac.Id a1.Talker a1.Listener a1.Class a1.Size a1.Period a1.Bucket a1.Deadline a1.Routes)) Zar hH rfl aR bi (aQ rfl) b0 kr kr
   replace hH:HP _ [.arr a9 10 false (List.map Zar (List.set ae (Int.toNat 1) (Zah.mk ac.Id a1.Talker a1.Listener a1.Class a1.Size a1.Period a1.Bucket a1.Deadline a1.Routes)))]:=hH
   refine rgS ⟨[(7,.loc 7 0),(9,.loc 9 0),(10,Zaf false r2),(11,.loc 11 0),(12,a9)],[(7,(ZbW a3_)),(9,(Zac r1)),(11,(Zak r3))],bu⟩ (Zab.u 2 (Zan (ys:=[a9,iv 0]) (by cases a8<;>kernel_rfl) (aS .i64)) (Zab.u 1 (ZbH (H:=aj) (off:=0) (cs:=[.int .i64 ac.Id]) (r:=iv ac.Id) Zar b1 bj) (Zab.u 0 (Zan (ys:=[a9,iv 1]) (by cases a8<;>kernel_rfl) (aM .i64)) (Zab.o 1 (Zbe (H:=aj) (v:=iv ac.Id) (hw:=cE)) Zab.f)))) (by cases a8<;>kernel_rfl) ?_
   cases h
   exact ⟨rfl,⟨a9,bu,(by show _=_;cases a8<;>kernel_rfl),(HP.pick hH [0] rfl)⟩⟩
  refine sk ?_
  cases h
  exact ⟨rfl,⟨a9,aj,(by show _=_;cases a8<;>kernel_rfl),(HP.pick hH [0] rfl)⟩⟩
 clear aJ
 rintro s hR
 obtain ⟨ab,ag,rfl,hH⟩:=hR
 replace hH:HP _ [.arr ab 10 false (List.map Zar a0)]:=hH
 have aC:=ZaS (HP.get hH 0 rfl)
 refine sq (Zy4 (rgS ⟨[(7,.loc 7 0),(9,.loc 9 0),(10,Zaf false r2),(12,ab),(14,.loc 14 0)],[(7,(ZbW a3_)),(9,(Zac r1)),(14,[iv r3.Grid,iv r3.Slack,iv r3.Proc,iv r3.Cap,iv r3.Grid,iv r3.Slack,iv r3.Proc,iv r3.Cap])],ag⟩ (Zab.f (h:=(by cases aC<;>kernel_rfl))) (by cases aC<;>kernel_rfl) ?_))
 obtain ⟨aa,_,bc,hH⟩:=HP.frz (k:=0) (a:=ab) (sz:=10) (frz:=false) Zar hH rfl
 replace hH:HP _ [.arr ab 10 true (List.map Zar a0)]:=hH
 refine ⟨⟨[(7,.loc 7 0),(9,.loc 9 0),(10,Zaf false r2),(12,Zaf false a0),(14,.loc 14 0)],[(7,(ZbW a3_)),(9,(Zac r1)),(14,[iv r3.Grid,iv r3.Slack,iv r3.Proc,iv r3.Cap,iv r3.Grid,iv r3.Slack,iv r3.Proc,iv r3.Cap])],aa⟩,(Zro 12 (H:=ag) (a:=ab) (by decide) kr kr bc kr),?_⟩
 replace hH:HP _ []:=HP.pick hH [] rfl
 refine tq (sq (rg Zab.f (tq (sq (sq (rg Zab.f (tq (bk (Ze6 18 (Zbl (sq (sq (rg Zab.f (tq (Zco kr (sk (tq (kq (sq (bk (sq (rg Zab.f (tq (bk (Ze6 18 (Zbl (sq (rg Zab.f (tq (sq (Zco kr (sk (tq (kq (sq (bk (sq (rg Zab.f (tq (sq (rg Zab.f (tq (bk (Ze6 18 (Zbl (sq (rg Zab.f (tq (sq (Zco kr (sk (tq (kq (sq (bk (sq (rg Zab.f (tq (sq ?_)))))))))))))))))))))))))))))))))))))))))))))))))))))))))))
 obtain ⟨aB,c4,h⟩:=bs h
 refine rq (Zab.u 5 (Za1 (hc:=Zex N r1 r3 r2 aB c4)) Zab.f) (tq (sq ?_))
 obtain ⟨aA,c3,h⟩:=bs h
 refine rq (Zab.u 5 (Za1 (hc:=Zeh N r1 r3 r2 aA c3)) Zab.f) (tq (sq ?_))
 obtain ⟨d3,hj,h⟩:=bs h
 refine rgR (λs=>s=⟨[(9,.loc 9 0),(10,Zaf false r2),(12,Zaf false a0),(14,.loc 14 0),(15,iv 0),(17,Zaf false r2),(115,.agg [Zaf false r2,Zaf false a0]),(116,iv 0),(121,.agg [iv r1.Nodes,s_eB false r1.Station,Zae false r1.Links,iv 0,s_eB true [],Zae true []]),(122,iv 0),(151,bv d3)],[(9,(Zac r1)),(14,[iv r3.Grid,iv r3.Slack,iv r3.Proc,iv r3.Cap,iv (w64 (a3_.x3)),iv r3.Slack,iv r3.Proc,iv r3.Cap])],aa⟩) ?_ ?_
 ·clear h
  rcases ZaC hj with ⟨cv,hj⟩|⟨cu,hj⟩
  ·obtain rfl:=Zao hj
   exact (EP.u 2 (Zam (c:=(aB.2 != aA.2)) (h:=cv)) (EP.f kr))
  refine (EP.u 2 (Zam (c:=(aB.2 != aA.2)) (h:=cu)) ?_)
  obtain ⟨cU,c2,hj⟩:=bs hj
  obtain rfl:=Zao hj
  exact (EP.v 3 (Zaz (hc:=ZcQ N aB.1 aA.1 cU c2)) (EP.f kr))
 clear hj
 rintro s hR
 obtain rfl:=hR
 refine tq (it h (λct h=>?_) (λct h=>?_))
 ·refine sq (rg Zab.f (tq (rt (br (tr (tr (br (br (tr (tr (br (br (tr (tr (br (tr ?_))))))))))))))))
  cases h
  exact ZaA kr
 refine sk (bn (tq (kq (rg Zab.f (tq (Zbl (sq (rg Zab.f (tq (sq (Zco kr (sk (tq (kq (sq (bk (sq (rg Zab.f (tq (sq ?_))))))))))))))))))))
 obtain ⟨az,c1,h⟩:=bs h
 refine rq (Zab.u 5 (Za1 (hc:=Zex N (Zag.mk 0 ([]) ([])) r3 r2 az c1)) Zab.f) (tq (sq ?_))
 obtain ⟨ay,c0,h⟩:=bs h
 refine rq (Zab.u 5 (Za1 (hc:=Zeh N (Zag.mk 0 ([]) ([])) r3 r2 ay c0)) Zab.f) (tq (sq ?_))
 obtain ⟨d2,hj,h⟩:=bs h
 refine rgR (λs=>s=⟨[(9,.loc 9 0),(10,Zaf false r2),(12,Zaf false a0),(14,.loc 14 0),(15,iv 0),(17,Zaf false r2),(115,.agg [Zaf false r2,Zaf false a0]),(116,iv 0),(121,.agg [iv r1.Nodes,s_eB false r1.Station,Zae false r1.Links,iv 0,s_eB true [],Zae true []]),(122,iv 1),(151,bv d2)],[(9,(Zac r1)),(14,[iv r3.Grid,iv r3.Slack,iv r3.Proc,iv r3.Cap,iv (w64 (a3_.x3)),iv r3.Slack,iv r3.Proc,iv r3.Cap])],aa⟩) ?_ ?_
 ·clear h
  rcases ZaC hj with ⟨cr,hj⟩|⟨cq,hj⟩
  ·obtain rfl:=Zao hj
   exact (EP.u 2 (Zam (c:=(az.2 != ay.2)) (h:=cr)) (EP.f kr))
  refine (EP.u 2 (Zam (c:=(az.2 != ay.2)) (h:=cq)) ?_)
  obtain ⟨cT,bZ,hj⟩:=bs hj
  obtain rfl:=Zao hj
  exact (EP.v 3 (Zaz (hc:=ZcQ N az.1 ay.1 cT bZ)) (EP.f kr))
 clear hj
 rintro s hR
 obtain rfl:=hR
 refine tq (it h (λcp h=>?_) (λcp h=>?_))
 ·refine sq (rg Zab.f (tq (rt (br (tr (tr (br (br (tr (tr (br (br (tr (tr (br (tr ?_))))))))))))))))
  cases h
  exact ZaA kr
 refine sk (bn (tq (kq (rg Zab.f (tq (Zbl (sq (rg Zab.f (tq (sq (Ze7 kr (kq (xq (tx (tx (bx (bn (tq (rg Zab.f (tq (Zbl (sq (rg Zab.f (tq (sq (Zco kr (sk (tq (kq (sq (bk (sq (rg Zab.f (tq (sq (rg Zab.f (tq (bk (Ze6 18 (Zbl (sq (rg Zab.f (tq (sq (Zco kr (sk (tq (kq (sq (bk (sq (rg Zab.f (tq (sq ?_))))))))))))))))))))))))))))))))))))))))))))))))))))))
 obtain ⟨ax,bY,h⟩:=bs h
 refine rq (Zab.u 5 (Za1 (hc:=Zex N r1 r3 a0 ax bY)) Zab.f) (tq (sq ?_))
 obtain ⟨aw,bX,h⟩:=bs h
 refine rq (Zab.u 5 (Za1 (hc:=Zeh N r1 r3 a0 aw bX)) Zab.f) (tq (sq ?_))
 obtain ⟨d1,hj,h⟩:=bs h
 refine rgR (λs=>s=⟨[(9,.loc 9 0),(10,Zaf false r2),(12,Zaf false a0),(14,.loc 14 0),(15,iv 0),(17,Zaf false a0),(115,.agg [Zaf false r2,Zaf false a0]),(116,iv 1),(121,.agg [iv r1.Nodes,s_eB false r1.Station,Zae false r1.Links,iv 0,s_eB true [],Zae true []]),(122,iv 0),(151,bv d1)],[(9,(Zac r1)),(14,[iv r3.Grid,iv r3.Slack,iv r3.Proc,iv r3.Cap,iv (w64 (a3_.x3)),iv r3.Slack,iv r3.Proc,iv r3.Cap])],aa⟩) ?_ ?_
 ·clear h
  rcases ZaC hj with ⟨co,hj⟩|⟨cn,hj⟩
  ·obtain rfl:=Zao hj
   exact (EP.u 2 (Zam (c:=(ax.2 != aw.2)) (h:=co)) (EP.f kr))
  refine (EP.u 2 (Zam (c:=(ax.2 != aw.2)) (h:=cn)) ?_)
  obtain ⟨cS,bW,hj⟩:=bs hj
  obtain rfl:=Zao hj
  exact (EP.v 3 (Zaz (hc:=ZcQ N ax.1 aw.1 cS bW)) (EP.f kr))
 clear hj
 rintro s hR
 obtain rfl:=hR
 refine tq (it h (λcm h=>?_) (λcm h=>?_))
 ·refine sq (rg Zab.f (tq (rt (br (tr (tr (br (br (tr (tr (br (br (tr (tr (br (tr ?_))))))))))))))))
  cases h
  exact ZaA kr
 refine sk (bn (tq (kq (rg Zab.f (tq (Zbl (sq (rg Zab.f (tq (sq (Zco kr (sk (tq (kq (sq (bk (sq (rg Zab.f (tq (sq ?_))))))))))))))))))))
 obtain ⟨av,bV,h⟩:=bs h
 refine rq (Zab.u 5 (Za1 (hc:=Zex N (Zag.mk 0 ([]) ([])) r3 a0 av bV)) Zab.f) (tq (sq ?_))
 obtain ⟨au,bU,h⟩:=bs h
 refine rq (Zab.u 5 (Za1 (hc:=Zeh N (Zag.mk 0 ([]) ([])) r3 a0 au bU)) Zab.f) (tq (sq ?_))
 obtain ⟨d0,hj,h⟩:=bs h
 refine rgR (λs=>s=⟨[(9,.loc 9 0),(10,Zaf false r2),(12,Zaf false a0),(14,.loc 14 0),(15,iv 0),(17,Zaf false a0),(115,.agg [Zaf false r2,Zaf false a0]),(116,iv 1),(121,.agg [iv r1.Nodes,s_eB false r1.Station,Zae false r1.Links,iv 0,s_eB true [],Zae true []]),(122,iv 1),(151,bv d0)],[(9,(Zac r1)),(14,[iv r3.Grid,iv r3.Slack,iv r3.Proc,iv r3.Cap,iv (w64 (a3_.x3)),iv r3.Slack,iv r3.Proc,iv r3.Cap])],aa⟩) ?_ ?_
 ·clear h
  rcases ZaC hj with ⟨cl,hj⟩|⟨ck,hj⟩
  ·obtain rfl:=Zao hj
   exact (EP.u 2 (Zam (c:=(av.2 != au.2)) (h:=cl)) (EP.f kr))
  refine (EP.u 2 (Zam (c:=(av.2 != au.2)) (h:=ck)) ?_)
  obtain ⟨cR,bT,hj⟩:=bs hj
  obtain rfl:=Zao hj
  exact (EP.v 3 (Zaz (hc:=ZcQ N av.1 au.1 cR bT)) (EP.f kr))
 clear hj
 rintro s hR
 obtain rfl:=hR
 refine tq (it h (λcj h=>?_) (λcj h=>?_))
 ·refine sq (rg Zab.f (tq (rt (br (tr (tr (br (br (tr (tr (br (br (tr (tr (br (tr ?_))))))))))))))))
  cases h
  exact ZaA kr
 refine sk (bn (tq (kq (rg Zab.f (tq (Zbl (sq (rg Zab.f (tq (sq (Ze7 kr (kq (xq (tx (tx (bx (bn (tq (rg Zab.f (tq (Zbl (sq (rg Zab.f (tq (sq (Ze7 kr (kq (xq (tx (tx (bx (bn (tq (rg Zab.f (tq (Zbl (sq (sq (rg Zab.f (tq (Zco kr (sk (tq (kq (sq (bk (sq (rg Zab.f (tq (bk (Ze6 18 (Zbl (sq (rg Zab.f (tq (sq (Zco kr (sk (tq (kq (sq (bk (sq (rg Zab.f (tq (sq (rg Zab.f (tq (bk (Ze6 18 (Zbl (sq (rg Zab.f (tq (sq (Zco kr (sk (tq (kq (sq (bk (sq (rg Zab.f (tq (sq ?_)))))))))))))))))))))))))))))))))))))))))))))))))))))))))))))))))))))))))))))))))))))
 obtain ⟨ar,bS,h⟩:=bs h
 refine rq (Zab.u 5 (Za1 (hc:=Zex N r1 (ZaE.mk (w64 (a3_.x3)) r3.Slack r3.Proc r3.Cap) r2 ar bS)) Zab.f) (tq (sq ?_))
 obtain ⟨aq,bR,h⟩:=bs h
 refine rq (Zab.u 5 (Za1 (hc:=Zeh N r1 (ZaE.mk (w64 (a3_.x3)) r3.Slack r3.Proc r3.Cap) r2 aq bR)) Zab.f) (tq (sq ?_))
 obtain ⟨cZ,hj,h⟩:=bs h
 refine rgR (λs=>s=⟨[(9,.loc 9 0),(10,Zaf false r2),(12,Zaf false a0),(14,.loc 14 0),(15,iv 1),(17,Zaf false r2),(115,.agg [Zaf false r2,Zaf false a0]),(116,iv 0),(121,.agg [iv r1.Nodes,s_eB false r1.Station,Zae false r1.Links,iv 0,s_eB true [],Zae true []]),(122,iv 0),(151,bv cZ)],[(9,(Zac r1)),(14,[iv r3.Grid,iv r3.Slack,iv r3.Proc,iv r3.Cap,iv (w64 (a3_.x3)),iv r3.Slack,iv r3.Proc,iv r3.Cap])],aa⟩) ?_ ?_
 ·clear h
  rcases ZaC hj with ⟨ci,hj⟩|⟨cg,hj⟩
  ·obtain rfl:=Zao hj
   exact (EP.u 2 (Zam (c:=(ar.2 != aq.2)) (h:=ci)) (EP.f kr))
  refine (EP.u 2 (Zam (c:=(ar.2 != aq.2)) (h:=cg)) ?_)
  obtain ⟨cQ,bQ,hj⟩:=bs hj
  obtain rfl:=Zao hj
  exact (EP.v 3 (Zaz (hc:=ZcQ N ar.1 aq.1 cQ bQ)) (EP.f kr))
 clear hj
 rintro s hR
 obtain rfl:=hR
 refine tq (it h (λcf h=>?_) (λcf h=>?_))
 ·refine sq (rg Zab.f (tq (rt (br (tr (tr (br (br (tr (tr (br (br (tr (tr (br (tr ?_))))))))))))))))
  cases h
  exact ZaA kr
 refine sk (bn (tq (kq (rg Zab.f (tq (Zbl (sq (rg Zab.f (tq (sq (Zco kr (sk (tq (kq (sq (bk (sq (rg Zab.f (tq (sq ?_))))))))))))))))))))
 obtain ⟨ap,bM,h⟩:=bs h
 refine rq (Zab.u 5 (Za1 (hc:=Zex N (Zag.mk 0 ([]) ([])) (ZaE.mk (w64 (a3_.x3)) r3.Slack r3.Proc r3.Cap) r2 ap bM)) Zab.f) (tq (sq ?_))
 obtain ⟨ao,bL,h⟩:=bs h
 refine rq (Zab.u 5 (Za1 (hc:=Zeh N (Zag.mk 0 ([]) ([])) (ZaE.mk (w64 (a3_.x3)) r3.Slack r3.Proc r3.Cap) r2 ao bL)) Zab.f) (tq (sq ?_))
 obtain ⟨cY,hj,h⟩:=bs h
 refine rgR (λs=>s=⟨[(9,.loc 9 0),(10,Zaf false r2),(12,Zaf false a0),(14,.loc 14 0),(15,iv 1),(17,Zaf false r2),(115,.agg [Zaf false r2,Zaf false a0]),(116,iv 0),(121,.agg [iv r1.Nodes,s_eB false r1.Station,Zae false r1.Links,iv 0,s_eB true [],Zae true []]),(122,iv 1),(151,bv cY)],[(9,(Zac r1)),(14,[iv r3.Grid,iv r3.Slack,iv r3.Proc,iv r3.Cap,iv (w64 (a3_.x3)),iv r3.Slack,iv r3.Proc,iv r3.Cap])],aa⟩) ?_ ?_
 ·clear h
  rcases ZaC hj with ⟨ce,hj⟩|⟨cd,hj⟩
  ·obtain rfl:=Zao hj
   exact (EP.u 2 (Zam (c:=(ap.2 != ao.2)) (h:=ce)) (EP.f kr))
  refine (EP.u 2 (Zam (c:=(ap.2 != ao.2)) (h:=cd)) ?_)
  obtain ⟨cM,bK,hj⟩:=bs hj
  obtain rfl:=Zao hj
  exact (EP.v 3 (Zaz (hc:=ZcQ N ap.1 ao.1 cM bK)) (EP.f kr))
 clear hj
 rintro s hR
 obtain rfl:=hR
 refine tq (it h (λcc h=>?_) (λcc h=>?_))
 ·refine sq (rg Zab.f (tq (rt (br (tr (tr (br (br (tr (tr (br (br (tr (tr (br (tr ?_))))))))))))))))
  cases h
  exact ZaA kr
 refine sk (bn (tq (kq (rg Zab.f (tq (Zbl (sq (rg Zab.f (tq (sq (Ze7 kr (kq (xq (tx (tx (bx (bn (tq (rg Zab.f (tq (Zbl (sq (rg Zab.f (tq (sq (Zco kr (sk (tq (kq (sq (bk (sq (rg Zab.f (tq (sq (rg Zab.f (tq (bk (Ze6 18 (Zbl (sq (rg Zab.f (tq (sq (Zco kr (sk (tq (kq (sq (bk (sq (rg Zab.f (tq (sq ?_))))))))))))))))))))))))))))))))))))))))))))))))))))))
 obtain ⟨an,bJ,h⟩:=bs h
 refine rq (Zab.u 5 (Za1 (hc:=Zex N r1 (ZaE.mk (w64 (a3_.x3)) r3.Slack r3.Proc r3.Cap) a0 an bJ)) Zab.f) (tq (sq ?_))
 obtain ⟨am,bI,h⟩:=bs h
 refine rq (Zab.u 5 (Za1 (hc:=Zeh N r1 (ZaE.mk (w64 (a3_.x3)) r3.Slack r3.Proc r3.Cap) a0 am bI)) Zab.f) (tq (sq ?_))
 obtain ⟨cX,hj,h⟩:=bs h
 refine rgR (λs=>s=⟨[(9,.loc 9 0),(10,Zaf false r2),(12,Zaf false a0),(14,.loc 14 0),(15,iv 1),(17,Zaf false a0),(115,.agg [Zaf false r2,Zaf false a0]),(116,iv 1),(121,.agg [iv r1.Nodes,s_eB false r1.Station,Zae false r1.Links,iv 0,s_eB true [],Zae true []]),(122,iv 0),(151,bv cX)],[(9,(Zac r1)),(14,[iv r3.Grid,iv r3.Slack,iv r3.Proc,iv r3.Cap,iv (w64 (a3_.x3)),iv r3.Slack,iv r3.Proc,iv r3.Cap])],aa⟩) ?_ ?_
 ·clear h
  rcases ZaC hj with ⟨cb,hj⟩|⟨ca,hj⟩
  ·obtain rfl:=Zao hj
   exact (EP.u 2 (Zam (c:=(an.2 != am.2)) (h:=cb)) (EP.f kr))
  refine (EP.u 2 (Zam (c:=(an.2 != am.2)) (h:=ca)) ?_)
  obtain ⟨cL,bG,hj⟩:=bs hj
  obtain rfl:=Zao hj
  exact (EP.v 3 (Zaz (hc:=ZcQ N an.1 am.1 cL bG)) (EP.f kr))
 clear hj
 rintro s hR
 obtain rfl:=hR
 refine tq (it h (λc9 h=>?_) (λc9 h=>?_))
 ·refine sq (rg Zab.f (tq (rt (br (tr (tr (br (br (tr (tr (br (br (tr (tr (br (tr ?_))))))))))))))))
  cases h
  exact ZaA kr
 refine sk (bn (tq (kq (rg Zab.f (tq (Zbl (sq (rg Zab.f (tq (sq (Zco kr (sk (tq (kq (sq (bk (sq (rg Zab.f (tq (sq ?_))))))))))))))))))))
 obtain ⟨al,bE,h⟩:=bs h
 refine rq (Zab.u 5 (Za1 (hc:=Zex N (Zag.mk 0 ([]) ([])) (ZaE.mk (w64 (a3_.x3)) r3.Slack r3.Proc r3.Cap) a0 al bE)) Zab.f) (tq (sq ?_))
 obtain ⟨ak,bD,h⟩:=bs h
 refine rq (Zab.u 5 (Za1 (hc:=Zeh N (Zag.mk 0 ([]) ([])) (ZaE.mk (w64 (a3_.x3)) r3.Slack r3.Proc r3.Cap) a0 ak bD)) Zab.f) (tq (sq ?_))
 obtain ⟨cW,hj,h⟩:=bs h
 refine rgR (λs=>s=⟨[(9,.loc 9 0),(10,Zaf false r2),(12,Zaf false a0),(14,.loc 14 0),(15,iv 1),(17,Zaf false a0),(115,.agg [Zaf false r2,Zaf false a0]),(116,iv 1),(121,.agg [iv r1.Nodes,s_eB false r1.Station,Zae false r1.Links,iv 0,s_eB true [],Zae true []]),(122,iv 1),(151,bv cW)],[(9,(Zac r1)),(14,[iv r3.Grid,iv r3.Slack,iv r3.Proc,iv r3.Cap,iv (w64 (a3_.x3)),iv r3.Slack,iv r3.Proc,iv r3.Cap])],aa⟩) ?_ ?_
 ·clear h
  rcases ZaC hj with ⟨c8,hj⟩|⟨c7,hj⟩
  ·obtain rfl:=Zao hj
   exact (EP.u 2 (Zam (c:=(al.2 != ak.2)) (h:=c8)) (EP.f kr))
  refine (EP.u 2 (Zam (c:=(al.2 != ak.2)) (h:=c7)) ?_)
  obtain ⟨cK,bC,hj⟩:=bs hj
  obtain rfl:=Zao hj
  exact (EP.v 3 (Zaz (hc:=ZcQ N al.1 ak.1 cK bC)) (EP.f kr))
 clear hj
 rintro s hR
 obtain rfl:=hR
 refine tq (it h (λc6 h=>?_) (λc6 h=>?_))
 ·refine sq (rg Zab.f (tq (rt (br (tr (tr (br (br (tr (tr (br (br (tr (tr (br (tr ?_))))))))))))))))
  cases h
  exact ZaA kr
 refine sk (bn (tq (kq (rg Zab.f (tq (Zbl (sq (rg Zab.f (tq (sq (Ze7 kr (kq (xq (tx (tx (bx (bn (tq (rg Zab.f (tq (Zbl (sq (rg Zab.f (tq (sq (Ze7 kr (kq (xq (tx (tx (bx (bn (tq (rg Zab.f (tq (Zbl (sq (sq (rg Zab.f (tq (Ze7 kr (kq (xq (tx (tx (bx (tq (sq ?_))))))))))))))))))))))))))))))))))))))))))))))))
 obtain ⟨cJ,bB,h⟩:=bs h
 refine rg (Zab.v 0 (Zaz (hc:=ZnM N  cJ bB)) Zab.f) (tq (rt ?_))
 cases h
 exact ZaA kr
end Go.Sh

