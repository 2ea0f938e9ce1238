/- Part of the proof. -/
import Derived.Test.YthipedbbcjemhaaGreatPlanMakesOk2
set_option linter.all false
namespace Go.Sh
open Go Go.Eng Go.Proofs
set_option maxRecDepth 100000
set_option maxHeartbeats 4000000
attribute [local irreducible] vc ev ZfZ opsD opsF ZiV upd updH updO
theorem Zeh (N:Nat)(a0_:Zag)(a1_:ZaE)(a2_:(List Zah))(r:Zaw×Int)(h:ZeP N a0_ a1_ a2_=some r):Zba Tryz.prog 9 [.agg (Zac a0_),.agg (Zak a1_),Zaf false a2_] (.tup [.agg [Zad false r.1.Periods,Zas false r.1.Uses],iv r.2]):=by
 unfold ZeP at h
 have hH  := hp0
 refine ZaG chk9 rfl rfl (Zay _ _ _ ?_) rfl
 refine sq (rg Zab.f (tq (sq (sq ?_))))
 obtain ⟨r1,hr1,h⟩:=bs h
 refine rg (Zab.v 1 (Zaz (hc:=Zjw N a0_ r1 hr1)) Zab.f) (tq (it h (λhc2 h=>?_) (λhc2 h=>?_)))
 ·refine sq (rg Zab.f (tq (rt (tr ?_))))
  cases h
  exact ZaA kr
 refine sk (tq (kq (sq (sq ?_))))
 obtain ⟨r3,hr3,h⟩:=bs h
 refine rg (Zab.v 1 (Zaz (hc:=ZnD N a1_ r3 hr3)) Zab.f) (tq (it h (λhc4 h=>?_) (λhc4 h=>?_)))
 ·refine sq (rg Zab.f (tq (rt (tr ?_))))
  cases h
  exact ZaA kr
 refine sk (tq (kq (sq ?_)))
 obtain ⟨r5,hr5,h⟩:=bs h
 refine rg (Zab.v 2 (Zaz (hc:=ZkN N a0_ a2_ r5 hr5)) Zab.f) (tq (sq (sq (rg Zab.f (tq (it h (λhc6 h=>?_) (λhc6 h=>?_)))))))
 ·refine sq (rg Zab.f (tq (rt (tr ?_))))
  cases h
  exact ZaA kr
 refine sk (tq (kq (sq (rg Zab.f (tq (sq (rg Zab.f (tq (sq (sq (rg Zab.f (tq (bk ?_)))))))))))))
 obtain ⟨a4,be,h⟩:=bs h
 refine ZaT ((ZaI (λ(x:Bool×Int×(List Int)×(List ZaB)) s=>∃ (a7:AV) (a8:AV) (H9:List HO),s=⟨[(2,Zaf false a2_),(3,.loc 3 0),(4,.loc 4 0),(6,.loc 6 0),(9,.loc 9 0),(10,bv x.1),(11,iv x.2.1)],[(3,(Zac a0_)),(4,(Zak a1_)),(6,[Zad true [],Zas true []]),(9,[a7,a8])],H9⟩/\HP H9 [.arr a7 1 false (List.map eI64 x.2.2.1),.arr a8 4 false (List.map Zap x.2.2.2)]) (λx:Bool×Int×(List Int)×(List ZaB)=>ZeU N a0_ a1_ a2_ x.1 x.2.1 x.2.2.1 x.2.2.2) (λ(p:Bool×(List Int)×(List ZaB)) e s=>e=.exit 0/\(∃ (aa:AV) (a6:AV) (cj:List HO),s=⟨[(3,.loc 3 0),(6,.loc 6 0),(9,.loc 9 0),(10,bv p.1)],[(3,(Zac a0_)),(6,[Zad true [],Zas true []]),(9,[aa,a6])],cj⟩/\HP cj [.arr aa 1 false (List.map eI64 p.2.1),.arr a6 4 false (List.map Zap p.2.2)])) ?_ N _ a4 _ be ⟨(.p (.sl 1 true [])),(.p (.sl 4 true [])),[],kr,(HP.pick (HP.nilArr (HP.nilArr hH 4 false) 1 false) [0,1] rfl)⟩).mono ?_)
 ·clear h be
  rintro ⟨b10,i11,aM,dB⟩ o s h hR
  obtain ⟨a7,a8,H9,rfl,hH⟩:=hR
  replace hH:HP _ [.arr a7 1 false (List.map eI64 aM),.arr a8 4 false (List.map Zap dB)]:=hH
  have hfa7:=ZaS (HP.get hH 0 rfl)
  have hfa8:=ZaS (HP.get hH 1 rfl)
  replace h:ZeU N a0_ a1_ a2_ b10 i11 aM dB=some o:=h
  unfold ZeU at h
  refine sq (sq (rgS ⟨[(2,Zaf false a2_),(3,.loc 3 0),(4,.loc 4 0),(6,.loc 6 0),(9,.loc 9 0),(10,bv b10),(11,iv i11),(39,bv (decide (i11<((List.length a2_:Nat):Int))))],[(3,(Zac a0_)),(4,(Zak a1_)),(6,[Zad true [],Zas true []]),(9,[a7,a8])],H9⟩ (Zab.u 2 (Zan (ys:=[Zaf false a2_]) (h:=Zax Zar)) Zab.f) (by cases hfa7<;>cases hfa8<;>kernel_rfl) (tq (it h (λdk h=>?_) (λdk h=>?_)))))
  ·refine sk (tq (kq ?_))
   obtain ⟨aC,bl,h⟩:=bs h
   refine ZcD [2,3,4,6,9,10,11] (λs=>∃ (aI:AV) (aG:AV) (aQ:List HO),s=⟨[(2,Zaf false a2_),(3,.loc 3 0),(4,.loc 4 0),(6,.loc 6 0),(9,.loc 9 0),(10,bv aC.1),(11,iv i11)],[(3,(Zac a0_)),(4,(Zak a1_)),(6,[Zad true [],Zas true []]),(9,[aI,aG])],aQ⟩/\HP aQ [.arr aI 1 false (List.map eI64 aC.2.1),.arr aG 4 false (List.map Zap aC.2.2)]) ?_ ?_
   ·clear h
    have h:=bl
    refine bk (sq (sq ?_))
    obtain ⟨c6,bV,h⟩:=bs h
    refine rgS ⟨[(2,Zaf false a2_),(3,.loc 3 0),(4,.loc 4 0),(6,.loc 6 0),(9,.loc 9 0),(10,bv b10),(11,iv i11),(47,bv (c6.Class != 7))],[(3,(Zac a0_)),(4,(Zak a1_)),(6,[Zad true [],Zas true []]),(9,[a7,a8])],H9⟩ (Zab.u 2 (Zan (ys:=[Zaf false a2_,iv i11]) (h:=Zal Zar bV)) (Zab.u 1 (Zav (sz:=10) (off:=3) (cs:=[.int .i64 c6.Class]) (r:=iv c6.Class) Zar bV) Zab.f)) (by cases hfa7<;>cases hfa8<;>kernel_rfl) (tq (it h (λd1 h=>?_) (λd1 h=>?_)))
    ·refine kq (xq (tx (bx ?_)))
     cases h
     exact ⟨rfl,⟨a7,a8,H9,(by show _=_;cases hfa7<;>cases hfa8<;>kernel_rfl),(HP.pick hH [0,1] rfl)⟩⟩
    refine sk (tq (kq (sq (sq (rgS ⟨[(2,Zaf false a2_),(3,.loc 3 0),(4,.loc 4 0),(6,.loc 6 0),(9,.loc 9 0),(10,bv b10),(11,iv i11),(12,iv 0)],[(3,(Zac a0_)),(4,(Zak a1_)),(6,[Zad true [],Zas true []]),(9,[a7,a8])],H9⟩ Zab.f (by cases hfa7<;>cases hfa8<;>kernel_rfl) (tq (bk ?_)))))))
    obtain ⟨aR,bf,h⟩:=bs h
    refine ZaT ((ZaI (λ(x:Bool×Int×(List ZaB)) s=>∃ (ar:AV) (aq:AV) (av:List HO),s=⟨[(2,Zaf false a2_),(3,.loc 3 0),(4,.loc 4 0),(6,.loc 6 0),(9,.loc 9 0),(10,bv x.1),(11,iv i11),(12,iv x.2.1)],[(3,(Zac a0_)),(4,(Zak a1_)),(6,[Zad true [],Zas true []]),(9,[ar,aq])],av⟩/\HP av [.arr ar 1 false (List.map eI64 aM),.arr aq 4 false (List.map Zap x.2.2)]) (λx:Bool×Int×(List ZaB)=>ZeT N a0_ a1_ a2_ i11 aM x.1 x.2.1 x.2.2) (λ(p:Bool×(List ZaB)) e s=>e=.exit 2/\(∃ (aE:AV) (aB:AV) (b1:List HO),s=⟨[(2,Zaf false a2_),(3,.loc 3 0),(4,.loc 4 0),(6,.loc 6 0),(9,.loc 9 0),(10,bv p.1),(11,iv i11)],[(3,(Zac a0_)),(4,(Zak a1_)),(6,[Zad true [],Zas true []]),(9,[aE,aB])],b1⟩/\HP b1 [.arr aE 1 false (List.map eI64 aM),.arr aB 4 false (List.map Zap p.2)])) ?_ N _ aR _ bf ⟨a7,a8,H9,(by show _=_;cases hfa7<;>cases hfa8<;>kernel_rfl),(HP.pick hH [0,1] rfl)⟩).mono ?_)
    ·clear h bf
     rintro ⟨ak,ae,cq⟩ o s h hR
     obtain ⟨ar,aq,av,rfl,hH⟩:=hR
     replace hH:HP _ [.arr ar 1 false (List.map eI64 aM),.arr aq 4 false (List.map Zap cq)]:=hH
     have ap:=ZaS (HP.get hH 0 rfl)
     have ao:=ZaS (HP.get hH 1 rfl)
     replace h:ZeT N a0_ a1_ a2_ i11 aM ak ae cq=some o:=h
     unfold ZeT at h
     refine sq (sq ?_)
     obtain ⟨aY,bU,h⟩:=bs h
     refine rgS ⟨[(2,Zaf false a2_),(3,.loc 3 0),(4,.loc 4 0),(6,.loc 6 0),(9,.loc 9 0),(10,bv ak),(11,iv i11),(12,iv ae),(55,bv (decide (ae<((List.length aY.Routes:Nat):Int))))],[(3,(Zac a0_)),(4,(Zak a1_)),(6,[Zad true [],Zas true []]),(9,[ar,aq])],av⟩ (Zab.u 3 (Zan (ys:=[Zaf false a2_,iv i11]) (h:=Zal Zar bU)) (Zab.u 1 (Zav (sz:=10) (off:=9) (cs:=[.sl 1 false (List.map (eSl 1 eI64) aY.Routes)]) (r:=Zaq false aY.Routes) Zar bU) (Zab.u 0 (Zan (ys:=[Zaq false aY.Routes]) (h:=Zax (eSl 1 eI64))) Zab.f))) (by cases ap<;>cases ao<;>kernel_rfl) (tq (it h (λd0 h=>?_) (λd0 h=>?_)))
     ·refine sk (tq (kq (sq (bk (sq ?_)))))
      obtain ⟨ai,bT,h⟩:=bs h
      obtain ⟨c5,bS,h⟩:=bs h
      obtain ⟨c4,bR,h⟩:=bs h
      obtain ⟨af,cA,h⟩:=bs h
      refine rqS ⟨[(2,Zaf false a2_),(3,.loc 3 0),(4,.loc 4 0),(6,.loc 6 0),(9,.loc 9 0),(10,bv ak),(11,iv i11),(12,iv ae),(13,Zbg false af)],[(3,(Zac a0_)),(4,(Zak a1_)),(6,[Zad true [],Zas true []]),(9,[ar,aq])],av⟩ (Zab.u 4 (Zan (ys:=[Zaf false a2_,iv i11]) (h:=Zal Zar bT)) (Zab.u 0 (ZaK (Zav (sz:=10) (off:=0) (cs:=[.int .i64 ai.Id,.int .i64 ai.Talker,.int .i64 ai.Listener,.int .i64 ai.Class,.int .i64 ai.Size,.int .i64 ai.Period,.int .i64 ai.Bucket.Burst,.int .i64 ai.Bucket.Rate,.int .i64 ai.Deadline,.sl 1 false (List.map (eSl 1 eI64) ai.Routes)]) (r:=.agg (Zai ai)) Zar bT)) (Zab.u 2 (Zan (ys:=[Zaf false a2_,iv i11]) (h:=Zal Zar bS)) (Zab.u 1 (ZaK (Zav (sz:=10) (off:=9) (cs:=[.sl 1 false (List.map (eSl 1 eI64) c5.Routes)]) (r:=Zaq false c5.Routes) Zar bS)) (Zab.u 1 (Zan (ys:=[Zaq false c5.Routes,iv ae]) (h:=Zal (eSl 1 eI64) bR)) (Zab.u 0 (ZaK (Zav (sz:=1) (off:=0) (cs:=[.sl 1 false (List.map eI64 c4)]) (r:=Zad false c4) (eSl 1 eI64) bR)) (Zab.v 0 (Zaz (hc:=Zli N a0_ a1_ ai c4 af cA)) Zab.f))))))) (by cases ap<;>cases ao<;>kernel_rfl) (tq (sq (sq (rgS ⟨[(2,Zaf false a2_),(3,.loc 3 0),(4,.loc 4 0),(6,.loc 6 0),(9,.loc 9 0),(10,bv ak),(11,iv i11),(12,iv ae),(13,Zbg false af),(14,iv 0)],[(3,(Zac a0_)),(4,(Zak a1_)),(6,[Zad true [],Zas true []]),(9,[ar,aq])],av⟩ Zab.f (by cases ap<;>cases ao<;>kernel_rfl) (tq (bk ?_))))))
      obtain ⟨co,bi,h⟩:=bs h
      refine ZaT ((ZaI (λ(x:Int×(List ZaB)) s=>∃ (aj:AV) (au:AV) (aK:List HO),s=⟨[(2,Zaf false a2_),(3,.loc 3 0),(4,.loc 4 0),(6,.loc 6 0),(9,.loc 9 0),(10,bv ak),(11,iv i11),(12,iv ae),(13,Zbg false af),(14,iv x.1)],[(3,(Zac a0_)),(4,(Zak a1_)),(6,[Zad true [],Zas true []]),(9,[aj,au])],aK⟩/\HP aK [.arr aj 1 false (List.map eI64 aM),.arr au 4 false (List.map Zap x.2)]) (λx:Int×(List ZaB)=>Zfy N a1_ a2_ i11 aM af x.1 x.2) (λ(p:(List ZaB)) e s=>e=.exit 4/\(∃ (aA:AV) (az:AV) (aJ:List HO),s=⟨[(2,Zaf false a2_),(3,.loc 3 0),(4,.loc 4 0),(6,.loc 6 0),(9,.loc 9 0),(10,bv ak),(11,iv i11),(12,iv ae)],[(3,(Zac a0_)),(4,(Zak a1_)),(6,[Zad true [],Zas true []]),(9,[aA,az])],aJ⟩/\HP aJ [.arr aA 1 false (List.map eI64 aM),.arr az 4 false (List.map Zap p)])) ?_ N _ co _ bi ⟨ar,aq,av,(by show _=_;cases ap<;>cases ao<;>kernel_rfl),(HP.pick hH [0,1] rfl)⟩).mono ?_)
      ·clear h bi
       rintro ⟨aD,cp⟩ o s h hR
       obtain ⟨aj,au,aK,rfl,hH⟩:=hR
       replace hH:HP _ [.arr aj 1 false (List.map eI64 aM),.arr au 4 false (List.map Zap cp)]:=hH
       have a2:=ZaS (HP.get hH 0 rfl)
       have a3:=ZaS (HP.get hH 1 rfl)
       replace h:Zfy N a1_ a2_ i11 aM af aD cp=some o:=h
       unfold Zfy at h
       refine sq (sq (rgS ⟨[(2,Zaf false a2_),(3,.loc 3 0),(4,.loc 4 0),(6,.loc 6 0),(9,.loc 9 0),(10,bv ak),(11,iv i11),(12,iv ae),(13,Zbg false af),(14,iv aD),(76,bv (decide (aD<((List.length af:Nat):Int))))],[(3,(Zac a0_)),(4,(Zak a1_)),(6,[Zad true [],Zas true []]),(9,[aj,au])],aK⟩ (Zab.u 2 (Zan (ys:=[Zbg false af]) (h:=Zax ZaZ)) Zab.f) (by cases a2<;>cases a3<;>kernel_rfl) (tq (it h (λcZ h=>?_) (λcZ h=>?_)))))
       ·refine sk (tq (kq (sq (bk ?_))))
        have cb:=HP.len (k:=0) (a:=aj) (sz:=1) (frz:=false) (l:=aM) eI64 hH rfl
        obtain ⟨c3,bQ,h⟩:=bs h
        obtain ⟨ay,bM,h⟩:=bs h
        obtain ⟨ck,cz,h⟩:=bs h
        obtain ⟨d6,cD,h⟩:=bs h
        obtain ⟨b0,c8,d3,hH⟩:=HP.app (k:=1) (a:=au) (sz:=4) (frz:=false) Zap hH rfl cD
        replace hH:HP _ [.arr aj 1 false (List.map eI64 aM),.arr b0 4 false (List.map Zap d6)]:=hH
        have aw:=ZaS (HP.get hH 1 rfl)
        refine rqS ⟨[(2,Zaf false a2_),(3,.loc 3 0),(4,.loc 4 0),(6,.loc 6 0),(9,.loc 9 0),(10,bv ak),(11,iv i11),(12,iv ae),(13,Zbg false af),(14,iv aD)],[(3,(Zac a0_)),(4,(Zak a1_)),(6,[Zad true [],Zas true []]),(9,[aj,b0])],c8⟩ (Zab.u (hm:=(by cases a2<;>cases a3<;>kernel_rfl)) 5 (Zan (ys:=[aj]) (by cases a2<;>cases a3<;>kernel_rfl) cb) (Zab.u (hm:=(by cases a2<;>cases a3<;>kernel_rfl)) 2 (Zan (ys:=[Zaf false a2_,iv i11]) (by cases a2<;>cases a3<;>kernel_rfl) (Zal Zar bQ)) (Zab.u (hm:=(by cases a2<;>cases a3<;>kernel_rfl)) 1 (ZaK (Zav (sz:=10) (off:=5) (cs:=[.int .i64 c3.Period]) (r:=iv c3.Period) Zar bQ (by cases a2<;>cases a3<;>kernel_rfl) (by cases a2<;>cases a3<;>kernel_rfl) (by cases a2<;>cases a3<;>kernel_rfl)) (by cases a2<;>cases a3<;>kernel_rfl)) (Zab.u (hm:=(by cases a2<;>cases a3<;>kernel_rfl)) 2 (Zan (ys:=[Zbg false af,iv aD]) (by cases a2<;>cases a3<;>kernel_rfl) (Zal ZaZ bM)) (Zab.u (hm:=(by cases a2<;>cases a3<;>kernel_rfl)) 0 (ZaK (Zav (sz:=5) (off:=0) (cs:=[.int .i64 ay.Port,.int .i64 ay.Early,.int .i64 ay.Late,.int .i64 ay.Open,.int .i64 ay.Long]) (r:=.agg (Zcn ay)) ZaZ bM (by cases a2<;>cases a3<;>kernel_rfl) (by cases a2<;>cases a3<;>kernel_rfl) (by cases a2<;>cases a3<;>kernel_rfl)) (by cases a2<;>cases a3<;>kernel_rfl)) (Zab.u (hm:=(by cases a2<;>cases a3<;>kernel_rfl)) 0 (Za1 (by cases a2<;>cases a3<;>kernel_rfl) (Zpq N a1_ ((List.length aM:Nat):Int) c3.Period ay ck cz)) (Zab.h (hm:=(by cases a2<;>cases a3<;>kernel_rfl)) 1 (Ze9 (H:=aK) (a:=au) (b:=Zas true [ck]) (by cases a2<;>cases a3<;>kernel_rfl) (by cases a2<;>cases a3<;>kernel_rfl) (by cases a2<;>cases a3<;>kernel_rfl) (by cases a2<;>cases a3<;>kernel_rfl) d3) (Zab.f (h:=(by cases a2<;>cases a3<;>cases aw<;>kernel_rfl)))))))))) (by cases a2<;>cases a3<;>cases aw<;>kernel_rfl) (bn (tq (rgS ⟨[(2,Zaf false a2_),(3,.loc 3 0),(4,.loc 4 0),(6,.loc 6 0),(9,.loc 9 0),(10,bv ak),(11,iv i11),(12,iv ae),(13,Zbg false af),(14,iv (w64 (aD+1)))],[(3,(Zac a0_)),(4,(Zak a1_)),(6,[Zad true [],Zas true []]),(9,[aj,b0])],c8⟩ Zab.f (by cases a2<;>cases aw<;>kernel_rfl) ?_)))
        cases h
        exact ⟨_,rfl,⟨aj,b0,c8,(by show _=_;cases a2<;>cases aw<;>kernel_rfl),(HP.pick hH [0,1] rfl)⟩⟩
       refine kq (xq (tx ?_))
       cases h
       exact ⟨_,rfl,rfl,⟨aj,au,aK,(by show _=_;cases a2<;>cases a3<;>kernel_rfl),(HP.pick hH [0,1] rfl)⟩⟩
      rintro e s hq
      obtain ⟨rfl,hR⟩:=hq
      obtain ⟨aA,az,aJ,rfl,hH⟩:=hR
      replace hH:HP _ [.arr aA 1 false (List.map eI64 aM),.arr az 4 false (List.map Zap co)]:=hH
      have an:=ZaS (HP.get hH 0 rfl)
      have am:=ZaS (HP.get hH 1 rfl)
      refine bx (tq ?_)
      obtain ⟨cu,hj,h⟩:=bs h
      refine rqR (λs=>s=⟨[(2,Zaf false a2_),(3,.loc 3 0),(4,.loc 4 0),(6,.loc 6 0),(9,.loc 9 0),(10,bv cu),(11,iv i11),(12,iv ae)],[(3,(Zac a0_)),(4,(Zak a1_)),(6,[Zad true [],Zas true []]),(9,[aA,az])],aJ⟩) ?_ ?_
      ·clear h
       rcases ZaC hj with ⟨cY,hj⟩|⟨cX,hj⟩
       ·obtain rfl:=Zao hj
        exact (EP.u 0 (Zam (c:=ak) (h:=cY)) (EP.f (by show _=_;cases an<;>cases am<;>kernel_rfl)))
       refine (EP.u 0 (Zam (c:=ak) (h:=cX)) ?_)
       obtain ⟨ag,bL,hj⟩:=bs hj
       refine (EP.u 5 (Zan (ys:=[Zaf false a2_,iv i11]) (h:=Zal Zar bL)) (EP.u 0 (ZaK (Zav (sz:=10) (off:=0) (cs:=[.int .i64 ag.Id,.int .i64 ag.Talker,.int .i64 ag.Listener,.int .i64 ag.Class,.int .i64 ag.Size,.int .i64 ag.Period,.int .i64 ag.Bucket.Burst,.int .i64 ag.Bucket.Rate,.int .i64 ag.Deadline,.sl 1 false (List.map (eSl 1 eI64) ag.Routes)]) (r:=.agg (Zai ag)) Zar bL)) ?_))
       obtain ⟨c2,bK,hj⟩:=bs hj
       refine (EP.u 2 (Zan (ys:=[Zaf false a2_,iv i11]) (h:=Zal Zar bK)) (EP.u 1 (ZaK (Zav (sz:=10) (off:=9) (cs:=[.sl 1 false (List.map (eSl 1 eI64) c2.Routes)]) (r:=Zaq false c2.Routes) Zar bK)) ?_))
       obtain ⟨c1,bJ,hj⟩:=bs hj
       refine (EP.u 1 (Zan (ys:=[Zaq false c2.Routes,iv ae]) (h:=Zal (eSl 1 eI64) bJ)) (EP.u 0 (ZaK (Zav (sz:=1) (off:=0) (cs:=[.sl 1 false (List.map eI64 c1)]) (r:=Zad false c1) (eSl 1 eI64) bJ)) ?_))
       obtain ⟨b2,cy,hj⟩:=bs hj
       refine (EP.u 0 (Za1 (hc:=Zpu N a0_ a1_ ag c1 b2 cy)) ?_)
       obtain ⟨aX,bI,hj⟩:=bs hj
       refine (EP.u 6 (Zan (ys:=[Zaf false a2_,iv i11]) (h:=Zal Zar bI)) (EP.u 1 (ZaK (Zav (sz:=10) (off:=8) (cs:=[.int .i64 aX.Deadline]) (r:=iv aX.Deadline) Zar bI)) ?_))
       rcases ZaC hj with ⟨cW,hj⟩|⟨cV,hj⟩
       ·obtain rfl:=Zao hj
        exact (EP.u 2 (Zam (c:=(decide ((w64 (b2+(w64 (2*a1_.Slack))))>aX.Deadline))) (h:=cW)) (EP.f (by show _=_;cases an<;>cases am<;>kernel_rfl)))
       obtain rfl:=Zao hj
       exact (EP.u 2 (Zam (c:=(decide ((w64 (b2+(w64 (2*a1_.Slack))))>aX.Deadline))) (h:=cV)) (EP.f (by show _=_;cases an<;>cases am<;>kernel_rfl)))
      clear hj
      rintro s hR
      obtain rfl:=hR
      refine bn (tq (rgS ⟨[(2,Zaf false a2_),(3,.loc 3 0),(4,.loc 4 0),(6,.loc 6 0),(9,.loc 9 0),(10,bv cu),(11,iv i11),(12,iv (w64 (ae+1)))],[(3,(Zac a0_)),(4,(Zak a1_)),(6,[Zad true [],Zas true []]),(9,[aA,az])],aJ⟩ Zab.f (by cases an<;>cases am<;>kernel_rfl) ?_))
      cases h
      exact ⟨_,rfl,⟨aA,az,aJ,(by show _=_;cases an<;>cases am<;>kernel_rfl),(HP.pick hH [0,1] rfl)⟩⟩
     refine kq (xq (tx ?_))
     cases h
     exact ⟨_,rfl,rfl,⟨ar,aq,av,(by show _=_;cases ap<;>cases ao<;>kernel_rfl),(HP.pick hH [0,1] rfl)⟩⟩
    rintro e s hq
    obtain ⟨rfl,hR⟩:=hq
    obtain ⟨aE,aB,b1,rfl,hH⟩:=hR
    replace hH:HP _ [.arr aE 1 false (List.map eI64 aM),.arr aB 4 false (List.map Zap aR.2)]:=hH
    have ac:=ZaS (HP.get hH 0 rfl)
    have a9:=ZaS (HP.get hH 1 rfl)
    refine bx (tq ?_)
    obtain ⟨c0,bG,h⟩:=bs h
    obtain ⟨d5,cC,h⟩:=bs h
    obtain ⟨c7,cv,d2,hH⟩:=HP.app (k:=0) (a:=aE) (sz:=1) (frz:=false) eI64 hH rfl cC
    replace hH:HP _ [.arr c7 1 false (List.map eI64 d5),.arr aB 4 false (List.map Zap aR.2)]:=hH
    have aL:=ZaS (HP.get hH 0 rfl)
    refine rqS ⟨[(2,Zaf false a2_),(3,.loc 3 0),(4,.loc 4 0),(6,.loc 6 0),(9,.loc 9 0),(10,bv aR.1),(11,iv i11)],[(3,(Zac a0_)),(4,(Zak a1_)),(6,[Zad true [],Zas true []]),(9,[c7,aB])],cv⟩ (Zab.u (hm:=(by cases ac<;>cases a9<;>kernel_rfl)) 4 (Zan (ys:=[Zaf false a2_,iv i11]) (by cases ac<;>cases a9<;>kernel_rfl) (Zal Zar bG)) (Zab.u (hm:=(by cases ac<;>cases a9<;>kernel_rfl)) 1 (ZaK (Zav (sz:=10) (off:=5) (cs:=[.int .i64 c0.Period]) (r:=iv c0.Period) Zar bG (by cases ac<;>cases a9<;>kernel_rfl) (by cases ac<;>cases a9<;>kernel_rfl) (by cases ac<;>cases a9<;>kernel_rfl)) (by cases ac<;>cases a9<;>kernel_rfl)) (Zab.h (hm:=(by cases ac<;>cases a9<;>kernel_rfl)) 1 (Ze9 (H:=b1) (a:=aE) (b:=Zad true [c0.Period]) (by cases ac<;>cases a9<;>kernel_rfl) (by cases ac<;>cases a9<;>kernel_rfl) (by cases ac<;>cases a9<;>kernel_rfl) (by cases ac<;>cases a9<;>kernel_rfl) d2) (Zab.f (h:=(by cases ac<;>cases a9<;>cases aL<;>kernel_rfl)))))) (by cases ac<;>cases a9<;>cases aL<;>kernel_rfl) (bn ?_)
    cases h
    exact ⟨rfl,⟨c7,aB,cv,(by show _=_;cases a9<;>cases aL<;>kernel_rfl),(HP.pick hH [0,1] rfl)⟩⟩
   clear bl
   rintro s hR
   obtain ⟨aI,aG,aQ,rfl,hH⟩:=hR
   replace hH:HP _ [.arr aI 1 false (List.map eI64 aC.2.1),.arr aG 4 false (List.map Zap aC.2.2)]:=hH
   have aU:=ZaS (HP.get hH 0 rfl)
   have aT:=ZaS (HP.get hH 1 rfl)
   refine rgS ⟨[(2,Zaf false a2_),(3,.loc 3 0),(4,.loc 4 0),(6,.loc 6 0),(9,.loc 9 0),(10,bv aC.1),(11,iv (w64 (i11+1)))],[(3,(Zac a0_)),(4,(Zak a1_)),(6,[Zad true [],Zas true []]),(9,[aI,aG])],aQ⟩ Zab.f (by cases aU<;>cases aT<;>kernel_rfl) ?_
   cases h
   exact ⟨_,rfl,⟨aI,aG,aQ,(by show _=_;cases aU<;>cases aT<;>kernel_rfl),(HP.pick hH [0,1] rfl)⟩⟩
  refine kq (xq (tx ?_))
  cases h
  exact ⟨_,rfl,rfl,⟨a7,a8,H9,(by show _=_;cases hfa7<;>cases hfa8<;>kernel_rfl),(HP.pick hH [0,1] rfl)⟩⟩
 rintro e s hq
 obtain ⟨rfl,hR⟩:=hq
 obtain ⟨aa,a6,cj,rfl,hH⟩:=hR
 replace hH:HP _ [.arr aa 1 false (List.map eI64 a4.2.1),.arr a6 4 false (List.map Zap a4.2.2)]:=hH
 have a1:=ZaS (HP.get hH 0 rfl)
 have a0:=ZaS (HP.get hH 1 rfl)
 refine bx (tq (sq ?_))
 obtain ⟨ab,cw,h⟩:=bs h
 obtain ⟨a5,ds,ba,hH⟩:=HP.frz (k:=0) (a:=aa) (sz:=1) (frz:=false) eI64 hH rfl
 replace hH:HP _ [.arr aa 1 true (List.map eI64 a4.2.1),.arr a6 4 false (List.map Zap a4.2.2)]:=hH
 refine rgS ⟨[(3,.loc 3 0),(6,.loc 6 0),(9,.loc 9 0),(10,bv a4.1),(15,iv ab)],[(3,(Zac a0_)),(6,[Zad true [],Zas true []]),(9,[aa,a6])],a5⟩ (Zab.v (hm:=(by cases a1<;>cases a0<;>kernel_rfl)) 2 (Zi0 (H:=cj) (ys:=[aa]) (by cases a1<;>cases a0<;>kernel_rfl) (by cases a1<;>cases a0<;>kernel_rfl) (Zfm ba Zi8) (Zps N a4.2.1 ab cw)) (Zab.f (h:=(by cases a1<;>cases a0<;>kernel_rfl)))) (by cases a1<;>cases a0<;>kernel_rfl) (tq (sq (sq (rgS ⟨[(3,.loc 3 0),(6,.loc 6 0),(9,.loc 9 0),(10,bv a4.1),(15,iv ab),(140,bv (ab==0))],[(3,(Zac a0_)),(6,[Zad true [],Zas true []]),(9,[aa,a6])],a5⟩ Zab.f (by cases a1<;>cases a0<;>kernel_rfl) (tq (it h (λcU h=>?_) (λcU h=>?_)))))))
 ·refine sq (rgS ⟨[(6,.loc 6 0),(7,iv 6)],[(6,[Zad true [],Zas true []])],a5⟩ Zab.f kr ?_)
  replace hH:HP _ []:=HP.pick hH [] rfl
  refine tq (rt (tr ?_))
  cases h
  exact ZaA kr
 refine sk (tq (kq (sq (rgS ⟨[(3,.loc 3 0),(6,.loc 6 0),(9,.loc 9 0),(10,bv a4.1),(15,iv ab),(16,bv false)],[(3,(Zac a0_)),(6,[Zad true [],Zas true []]),(9,[aa,a6])],a5⟩ Zab.f (by cases a1<;>cases a0<;>kernel_rfl) (tq (sq (sq (rgS ⟨[(3,.loc 3 0),(6,.loc 6 0),(9,.loc 9 0),(10,bv a4.1),(15,iv ab),(16,bv false),(17,iv 0)],[(3,(Zac a0_)),(6,[Zad true [],Zas true []]),(9,[aa,a6])],a5⟩ Zab.f (by cases a1<;>cases a0<;>kernel_rfl) (tq (bk ?_))))))))))
 obtain ⟨cm,bc,h⟩:=bs h
 refine ZaT ((ZaI (λ(x:Int) s=>s=⟨[(3,.loc 3 0),(6,.loc 6 0),(9,.loc 9 0),(10,bv a4.1),(15,iv ab),(16,bv false),(17,iv x)],[(3,(Zac a0_)),(6,[Zad true [],Zas true []]),(9,[aa,a6])],a5⟩) (λx:Int=>Zfx N a0_ a4 ab x) (λ(p:(Unit)⊕(Zaw×Int)) e s=>match p with|(.inl p)=>e=.exit 6/\(s=⟨[(6,.loc 6 0),(9,.loc 9 0),(10,bv a4.1),(16,bv false)],[(6,[Zad true [],Zas true []]),(9,[aa,a6])],a5⟩)|(.inr p)=>e=.ret/\∃ xs,resL s i9.res=some xs/\ZbV xs=.tup [.agg [Zad false p.1.Periods,Zas false p.1.Uses],iv p.2]) ?_ N _ cm _ bc (by show _=_;cases a1<;>cases a0<;>kernel_rfl)).mono ?_)
 ·clear h bc
  rintro ad o s h hR
  obtain rfl:=hR
  replace h:Zfx N a0_ a4 ab ad=some o:=h
  unfold Zfx at h
  refine sq (sq (rgS ⟨[(3,.loc 3 0),(6,.loc 6 0),(9,.loc 9 0),(10,bv a4.1),(15,iv ab),(16,bv false),(17,iv ad),(147,bv (decide (ad<(w64 (2*((List.length a0_.Links:Nat):Int))))))],[(3,(Zac a0_)),(6,[Zad true [],Zas true []]),(9,[aa,a6])],a5⟩ (Zab.u 3 (Zan (ys:=[Zae false a0_.Links]) (h:=Zax Zat)) Zab.f) (by cases a1<;>cases a0<;>kernel_rfl) (tq (it h (λcT h=>?_) (λcT h=>?_)))))
  ·refine sk (tq (kq (sq (bk (sq (rgS ⟨[(3,.loc 3 0),(6,.loc 6 0),(9,.loc 9 0),(10,bv a4.1),(15,iv ab),(16,bv false),(17,iv ad),(18,iv 0)],[(3,(Zac a0_)),(6,[Zad true [],Zas true []]),(9,[aa,a6])],a5⟩ Zab.f (by cases a1<;>cases a0<;>kernel_rfl) (tq (sq (sq (rgS ⟨[(3,.loc 3 0),(6,.loc 6 0),(9,.loc 9 0),(10,bv a4.1),(15,iv ab),(16,bv false),(17,iv ad),(18,iv 0),(19,iv 0)],[(3,(Zac a0_)),(6,[Zad true [],Zas true []]),(9,[aa,a6])],a5⟩ Zab.f (by cases a1<;>cases a0<;>kernel_rfl) (tq (bk ?_))))))))))))
   obtain ⟨cn,bd,h⟩:=bs h
   refine ZaT ((ZaI (λ(x:Int×Int) s=>s=⟨[(3,.loc 3 0),(6,.loc 6 0),(9,.loc 9 0),(10,bv a4.1),(15,iv ab),(16,bv false),(17,iv ad),(18,iv x.1),(19,iv x.2)],[(3,(Zac a0_)),(6,[Zad true [],Zas true []]),(9,[aa,a6])],a5⟩) (λx:Int×Int=>ZeS N a4 ab ad x.1 x.2) (λ(p:Int) e s=>e=.exit 8/\(s=⟨[(3,.loc 3 0),(6,.loc 6 0),(9,.loc 9 0),(10,bv a4.1),(15,iv ab),(16,bv false),(17,iv ad),(18,iv p)],[(3,(Zac a0_)),(6,[Zad true [],Zas true []]),(9,[aa,a6])],a5⟩)) ?_ N _ cn _ bd (by show _=_;cases a1<;>cases a0<;>kernel_rfl)).mono ?_)
   ·clear h bd
    rintro ⟨aS,al⟩ o s h hR
    obtain rfl:=hR
    replace h:ZeS N a4 ab ad aS al=some o:=h
    unfold ZeS at h
    refine sq (sq ?_)
    have ca:=HP.len (k:=1) (a:=a6) (sz:=4) (frz:=false) (l:=a4.2.2) Zap hH rfl
    refine rgS ⟨[(3,.loc 3 0),(6,.loc 6 0),(9,.loc 9 0),(10,bv a4.1),(15,iv ab),(16,bv false),(17,iv ad),(18,iv aS),(19,iv al),(154,bv (decide (al<((List.length a4.2.2:Nat):Int))))],[(3,(Zac a0_)),(6,[Zad true [],Zas true []]),(9,[aa,a6])],a5⟩ (Zab.u (hm:=(by cases a1<;>cases a0<;>kernel_rfl)) 3 (Zan (ys:=[a6]) (by cases a1<;>cases a0<;>kernel_rfl) ca) (Zab.f (h:=(by cases a1<;>cases a0<;>kernel_rfl)))) (by cases a1<;>cases a0<;>kernel_rfl) (tq (it h (λcS h=>?_) (λcS h=>?_)))
    ·refine sk (tq (kq ?_))
     obtain ⟨ct,bj,h⟩:=bs h
     refine ZcD [3,6,9,10,15,16,17,18,19] (λs=>s=⟨[(3,.loc 3 0),(6,.loc 6 0),(9,.loc 9 0),(10,bv a4.1),(15,iv ab),(16,bv false),(17,iv ad),(18,iv ct),(19,iv al)],[(3,(Zac a0_)),(6,[Zad true [],Zas true []]),(9,[aa,a6])],a5⟩) ?_ ?_
     ·clear h
      have h:=bj
      refine bk (sq ?_)
      obtain ⟨bZ,bE,h⟩:=bs h
      obtain ⟨dy,dr,_,di,ci,dj,bw⟩:=HP.elem (k:=1) (a:=a6) (sz:=4) (frz:=false) Zap hH rfl bE
      refine rgS ⟨[(3,.loc 3 0),(6,.loc 6 0),(9,.loc 9 0),(10,bv a4.1),(15,iv ab),(16,bv false),(17,iv ad),(18,iv aS),(19,iv al),(164,bv (bZ.Port==ad))],[(3,(Zac a0_)),(6,[Zad true [],Zas true []]),(9,[aa,a6])],a5⟩ (Zab.u (hm:=(by cases a1<;>cases a0<;>kernel_rfl)) 3 (Zan (ys:=[a6,iv al]) (by cases a1<;>cases a0<;>kernel_rfl) (bw .i64)) (Zab.u (hm:=(by cases a1<;>cases a0<;>kernel_rfl)) 1 (ZbH (H:=a5) (off:=1) (cs:=[.int .i64 bZ.Port]) (r:=iv bZ.Port) Zap bE ci (by cases a1<;>cases a0<;>kernel_rfl) (by cases a1<;>cases a0<;>kernel_rfl) (by cases a1<;>cases a0<;>kernel_rfl) (by cases a1<;>cases a0<;>kernel_rfl)) (Zab.f (h:=(by cases a1<;>cases a0<;>kernel_rfl))))) (by cases a1<;>cases a0<;>kernel_rfl) (tq (it h (λcR h=>?_) (λcR h=>?_)))
      ·obtain ⟨bY,bD,h⟩:=bs h
       obtain ⟨dx,dq,_,df,cg,dg,bu⟩:=HP.elem (k:=1) (a:=a6) (sz:=4) (frz:=false) Zap hH rfl bD
       obtain ⟨bX,bC,h⟩:=bs h
       obtain ⟨dw,dp,_,dd,cf,de,bt⟩:=HP.elem (k:=0) (a:=aa) (sz:=1) (frz:=true) eI64 hH rfl bC
       obtain ⟨d4,cB,h⟩:=bs h
       refine rqS ⟨[(3,.loc 3 0),(6,.loc 6 0),(9,.loc 9 0),(10,bv a4.1),(15,iv ab),(16,bv false),(17,iv ad),(18,iv (w64 (aS+d4))),(19,iv al)],[(3,(Zac a0_)),(6,[Zad true [],Zas true []]),(9,[aa,a6])],a5⟩ (Zab.u (hm:=(by cases a1<;>cases a0<;>kernel_rfl)) 7 (Zan (ys:=[a6,iv al]) (by cases a1<;>cases a0<;>kernel_rfl) (bu .i64)) (Zab.u (hm:=(by cases a1<;>cases a0<;>kernel_rfl)) 1 (ZaK (ZbH (H:=a5) (off:=0) (cs:=[.int .i64 bY.Stream]) (r:=iv bY.Stream) Zap bD cg (by cases a1<;>cases a0<;>kernel_rfl) (by cases a1<;>cases a0<;>kernel_rfl) (by cases a1<;>cases a0<;>kernel_rfl) (by cases a1<;>cases a0<;>kernel_rfl)) (by cases a1<;>cases a0<;>kernel_rfl)) (Zab.u (hm:=(by cases a1<;>cases a0<;>kernel_rfl)) 0 (Zan (ys:=[aa,iv bY.Stream]) (by cases a1<;>cases a0<;>kernel_rfl) (bt .i64)) (Zab.u (hm:=(by cases a1<;>cases a0<;>kernel_rfl)) 0 (ZaK (ZbH (H:=a5) (off:=0) (cs:=[.int .i64 bX]) (r:=iv bX) eI64 bC cf (by cases a1<;>cases a0<;>kernel_rfl) (by cases a1<;>cases a0<;>kernel_rfl) (by cases a1<;>cases a0<;>kernel_rfl) (by cases a1<;>cases a0<;>kernel_rfl)) (by cases a1<;>cases a0<;>kernel_rfl)) (Zab.u (hm:=(by cases a1<;>cases a0<;>kernel_rfl)) 0 (Zan (ys:=[iv ab,iv bX]) (by cases a1<;>cases a0<;>kernel_rfl) (Zhn cB)) (Zab.f (h:=(by cases a1<;>cases a0<;>kernel_rfl)))))))) (by cases a1<;>cases a0<;>kernel_rfl) (bn ?_)
       cases h
       exact ⟨rfl,(by show _=_;cases a1<;>cases a0<;>kernel_rfl)⟩
      refine sk (bn ?_)
      cases h
      exact ⟨rfl,(by show _=_;cases a1<;>cases a0<;>kernel_rfl)⟩
     clear bj
     rintro s hR
     obtain rfl:=hR
     refine rgS ⟨[(3,.loc 3 0),(6,.loc 6 0),(9,.loc 9 0),(10,bv a4.1),(15,iv ab),(16,bv false),(17,iv ad),(18,iv ct),(19,iv (w64 (al+1)))],[(3,(Zac a0_)),(6,[Zad true [],Zas true []]),(9,[aa,a6])],a5⟩ Zab.f (by cases a1<;>cases a0<;>kernel_rfl) ?_
     cases h
     exact ⟨_,rfl,(by show _=_;cases a1<;>cases a0<;>kernel_rfl)⟩
    refine kq (xq (tx ?_))
    cases h
    exact ⟨_,rfl,rfl,(by show _=_;cases a1<;>cases a0<;>kernel_rfl)⟩
   rintro e s hq
   obtain ⟨rfl,hR⟩:=hq
   obtain rfl:=hR
   refine bx (tq (sq (rgS ⟨[(3,.loc 3 0),(6,.loc 6 0),(9,.loc 9 0),(10,bv a4.1),(15,iv ab),(16,bv false),(17,iv ad),(180,bv (decide (cn>63)))],[(3,(Zac a0_)),(6,[Zad true [],Zas true []]),(9,[aa,a6])],a5⟩ Zab.f (by cases a1<;>cases a0<;>kernel_rfl) (tq (it h (λcQ h=>?_) (λcQ h=>?_))))))
   ·refine sq (rgS ⟨[(6,.loc 6 0),(7,iv 7)],[(6,[Zad true [],Zas true []])],a5⟩ Zab.f kr ?_)
    replace hH:HP _ []:=HP.pick hH [] rfl
    refine tq (rt (br (tr ?_)))
    cases h
    exact ⟨_,rfl,rfl,ZaA kr⟩
   refine sk (bn (tq (kq (rgS ⟨[(3,.loc 3 0),(6,.loc 6 0),(9,.loc 9 0),(10,bv a4.1),(15,iv ab),(16,bv false),(17,iv (w64 (ad+1)))],[(3,(Zac a0_)),(6,[Zad true [],Zas true []]),(9,[aa,a6])],a5⟩ Zab.f (by cases a1<;>cases a0<;>kernel_rfl) ?_))))
   cases h
   exact ⟨_,rfl,(by show _=_;cases a1<;>cases a0<;>kernel_rfl)⟩
  refine kq (xq (tx ?_))
  cases h
  exact ⟨_,rfl,rfl,(by show _=_;cases a1<;>cases a0<;>kernel_rfl)⟩
 rintro e s hq
 rcases cm with dA|dz
 ·dsimp only at h hq
  obtain ⟨rfl,hR⟩:=hq
  obtain rfl:=hR
  refine bx (tq (sq (sq (rgS ⟨[(6,.loc 6 0),(9,.loc 9 0),(10,bv a4.1),(16,bv false),(20,iv 0)],[(6,[Zad true [],Zas true []]),(9,[aa,a6])],a5⟩ Zab.f (by cases a1<;>cases a0<;>kernel_rfl) (tq (bk ?_))))))
  obtain ⟨cl,bb,h⟩:=bs h
  refine ZaT ((ZaI (λ(x:Bool×Int) s=>s=⟨[(6,.loc 6 0),(9,.loc 9 0),(10,bv a4.1),(16,bv x.1),(20,iv x.2)],[(6,[Zad true [],Zas true []]),(9,[aa,a6])],a5⟩) (λx:Bool×Int=>Zfw N a4 x.1 x.2) (λ(p:Bool) e s=>e=.exit 10/\(s=⟨[(6,.loc 6 0),(9,.loc 9 0),(10,bv a4.1),(16,bv p)],[(6,[Zad true [],Zas true []]),(9,[aa,a6])],a5⟩)) ?_ N _ cl _ bb (by show _=_;cases a1<;>cases a0<;>kernel_rfl)).mono ?_)
  ·clear h bb
   rintro ⟨aZ,ax⟩ o s h hR
   obtain rfl:=hR
   replace h:Zfw N a4 aZ ax=some o:=h
   unfold Zfw at h
   refine sq (sq ?_)
   have c9:=HP.len (k:=1) (a:=a6) (sz:=4) (frz:=false) (l:=a4.2.2) Zap hH rfl
   refine rgS ⟨[(6,.loc 6 0),(9,.loc 9 0),(10,bv a4.1),(16,bv aZ),(20,iv ax),(186,bv (decide (ax<((List.length a4.2.2:Nat):Int))))],[(6,[Zad true [],Zas true []]),(9,[aa,a6])],a5⟩ (Zab.u (hm:=(by cases a1<;>cases a0<;>kernel_rfl)) 3 (Zan (ys:=[a6]) (by cases a1<;>cases a0<;>kernel_rfl) c9) (Zab.f (h:=(by cases a1<;>cases a0<;>kernel_rfl)))) (by cases a1<;>cases a0<;>kernel_rfl) (tq (it h (λcM h=>?_) (λcM h=>?_)))
   ·refine sk (tq (kq (sq (bk ?_))))
    obtain ⟨cr,hj,h⟩:=bs h
    refine rqR (λs=>s=⟨[(6,.loc 6 0),(9,.loc 9 0),(10,bv a4.1),(16,bv cr),(20,iv ax)],[(6,[Zad true [],Zas true []]),(9,[aa,a6])],a5⟩) ?_ ?_
    ·clear h
     rcases ZaC hj with ⟨cL,hj⟩|⟨cK,hj⟩
     ·obtain rfl:=Zao hj
      exact (EP.u 0 (Zam (c:=aZ) (h:=cL)) (EP.f (by show _=_;cases a1<;>cases a0<;>kernel_rfl)))
     refine (EP.u 0 (Zam (c:=aZ) (h:=cK)) ?_)
     obtain ⟨aW,bB,hj⟩:=bs hj
     obtain ⟨dv,dn,_,db,ce,dc,bq⟩:=HP.elem (k:=1) (a:=a6) (sz:=4) (frz:=false) Zap hH rfl bB
     refine (EP.u (hm:=(by cases a1<;>cases a0<;>kernel_rfl)) 4 (Zan (ys:=[a6,iv ax]) (by cases a1<;>cases a0<;>kernel_rfl) (bq .i64)) (EP.u (hm:=(by cases a1<;>cases a0<;>kernel_rfl)) 1 (ZaK (ZbH (H:=a5) (off:=3) (cs:=[.int .i64 aW.Long]) (r:=iv aW.Long) Zap bB ce (by cases a1<;>cases a0<;>kernel_rfl) (by cases a1<;>cases a0<;>kernel_rfl) (by cases a1<;>cases a0<;>kernel_rfl) (by cases a1<;>cases a0<;>kernel_rfl)) (by cases a1<;>cases a0<;>kernel_rfl)) ?_))
     obtain ⟨bW,bA,hj⟩:=bs hj
     obtain ⟨du,dm,_,d9,cd,da,bp⟩:=HP.elem (k:=1) (a:=a6) (sz:=4) (frz:=false) Zap hH rfl bA
     refine (EP.u (hm:=(by cases a1<;>cases a0<;>kernel_rfl)) 5 (Zan (ys:=[a6,iv ax]) (by cases a1<;>cases a0<;>kernel_rfl) (bp .i64)) (EP.u (hm:=(by cases a1<;>cases a0<;>kernel_rfl)) 1 (ZaK (ZbH (H:=a5) (off:=0) (cs:=[.int .i64 bW.Stream]) (r:=iv bW.Stream) Zap bA cd (by cases a1<;>cases a0<;>kernel_rfl) (by cases a1<;>cases a0<;>kernel_rfl) (by cases a1<;>cases a0<;>kernel_rfl) (by cases a1<;>cases a0<;>kernel_rfl)) (by cases a1<;>cases a0<;>kernel_rfl)) ?_))
     obtain ⟨aV,bz,hj⟩:=bs hj
     obtain ⟨dt,dl,_,d7,cc,d8,bm⟩:=HP.elem (k:=0) (a:=aa) (sz:=1) (frz:=true) eI64 hH rfl bz
     refine (EP.u (hm:=(by cases a1<;>cases a0<;>kernel_rfl)) 0 (Zan (ys:=[aa,iv bW.Stream]) (by cases a1<;>cases a0<;>kernel_rfl) (bm .i64)) (EP.u (hm:=(by cases a1<;>cases a0<;>kernel_rfl)) 0 (ZaK (ZbH (H:=a5) (off:=0) (cs:=[.int .i64 aV]) (r:=iv aV) eI64 bz cc (by cases a1<;>cases a0<;>kernel_rfl) (by cases a1<;>cases a0<;>kernel_rfl) (by cases a1<;>cases a0<;>kernel_rfl) (by cases a1<;>cases a0<;>kernel_rfl)) (by cases a1<;>cases a0<;>kernel_rfl)) ?_))
     rcases ZaC hj with ⟨cJ,hj⟩|⟨cI,hj⟩
     ·obtain rfl:=Zao hj
      exact (EP.u (hm:=(by cases a1<;>cases a0<;>kernel_rfl)) 2 (Zam (c:=(decide (aW.Long>aV))) (by cases a1<;>cases a0<;>kernel_rfl) cJ) (EP.f (by show _=_;cases a1<;>cases a0<;>kernel_rfl)))
     obtain rfl:=Zao hj
     exact (EP.u (hm:=(by cases a1<;>cases a0<;>kernel_rfl)) 2 (Zam (c:=(decide (aW.Long>aV))) (by cases a1<;>cases a0<;>kernel_rfl) cI) (EP.f (by show _=_;cases a1<;>cases a0<;>kernel_rfl)))
    clear hj
    rintro s hR
    obtain rfl:=hR
    refine bn (tq (rgS ⟨[(6,.loc 6 0),(9,.loc 9 0),(10,bv a4.1),(16,bv cr),(20,iv (w64 (ax+1)))],[(6,[Zad true [],Zas true []]),(9,[aa,a6])],a5⟩ Zab.f (by cases a1<;>cases a0<;>kernel_rfl) ?_))
    cases h
    exact ⟨_,rfl,(by show _=_;cases a1<;>cases a0<;>kernel_rfl)⟩
   refine kq (xq (tx ?_))
   cases h
   exact ⟨_,rfl,rfl,(by show _=_;cases a1<;>cases a0<;>kernel_rfl)⟩
  rintro e s hq
  obtain ⟨rfl,hR⟩:=hq
  obtain rfl:=hR
  refine bx (tq (sq (sq (rgS ⟨[(6,.loc 6 0),(9,.loc 9 0),(10,bv a4.1),(209,bv cl)],[(6,[Zad true [],Zas true []]),(9,[aa,a6])],a5⟩ Zab.f (by cases a1<;>cases a0<;>kernel_rfl) (tq (it h (λcG h=>?_) (λcG h=>?_)))))))
  ·refine sq (rgS ⟨[(6,.loc 6 0),(7,iv 341)],[(6,[Zad true [],Zas true []])],a5⟩ Zab.f kr ?_)
   replace hH:HP _ []:=HP.pick hH [] rfl
   refine tq (rt (tr ?_))
   cases h
   exact ZaA kr
  refine sk (tq (kq (sq (sq (rgS ⟨[(6,.loc 6 0),(9,.loc 9 0),(211,bv a4.1)],[(6,[Zad true [],Zas true []]),(9,[aa,a6])],a5⟩ Zab.f (by cases a1<;>cases a0<;>kernel_rfl) (tq (it h (λcE h=>?_) (λcE h=>?_))))))))
  ·refine sq (rgS ⟨[(6,.loc 6 0),(7,iv 342)],[(6,[Zad true [],Zas true []])],a5⟩ Zab.f kr ?_)
   replace hH:HP _ []:=HP.pick hH [] rfl
   refine tq (rt (tr ?_))
   cases h
   exact ZaA kr
  refine sk (tq (kq (sq (rgS ⟨[(6,.loc 6 0),(7,iv 0)],[(6,[aa,a6])],a5⟩ (Zab.f (h:=(by cases a1<;>cases a0<;>kernel_rfl))) (by cases a1<;>cases a0<;>kernel_rfl) (tq (rt ?_))))))
  obtain rfl:=Zao h
  exact ZeB (H:=a5) (ys:=[.agg [aa,a6],iv 0]) (xs:=[.agg [.p (.sl 1 false (List.map eI64 a4.2.1)),.p (.sl 4 false (List.map Zap a4.2.2))],iv 0]) (by cases a1<;>cases a0<;>kernel_rfl) (by cases a1<;>cases a0<;>kernel_rfl) (Zbs (Zkc (Zb6 (HP.pure (k:=0) (frz:=true) eI64 hH rfl).1 (Zb6 (HP.pure (k:=1) (frz:=false) Zap hH rfl).1 Zkd))) (Zbs rfl Zci)) kr
 dsimp only at h hq
 obtain ⟨rfl,hq⟩:=hq
 refine br (tr ?_)
 cases h
 exact hq
theorem Zh0 (N:Nat)(a0_:Zaw)(r:Int)(h:ZhE N a0_=some r):Zba Tryz.prog 12 [.agg (Zaj a0_)] (iv r):=by
 unfold ZhE at h
 have hH  := hp0
 refine ZaG ZLP rfl rfl (Zay _ _ _ ?_) rfl
 refine sq (rg Zab.f (tq (sq (sq (rgX ⟨[(1,.loc 1 0),(19,bv ((decide (((List.length a0_.Periods:Nat):Int)>12))||(decide (((List.length a0_.Uses:Nat):Int)>192))))],[(1,(Zaj a0_))],[]⟩ ?_ ?_)))))
 ·refine (EP.u 2 (Zan (ys:=[Zad false a0_.Periods]) (h:=Zax eI64)) ?_)
  rcases Bool.eq_false_or_eq_true (decide (((List.length a0_.Periods:Nat):Int)>12)) with hc1|hc2
  ·exact (EP.u 0 (Zam (c:=(decide (((List.length a0_.Periods:Nat):Int)>12))) (h:=hc1)) (EP.f (by simp only [hc1];kernel_rfl)))
  exact (EP.u 0 (Zam (c:=(decide (((List.length a0_.Periods:Nat):Int)>12))) (h:=hc2)) (EP.u 3 (Zan (ys:=[Zas false a0_.Uses]) (h:=Zax Zap)) (EP.f (by simp only [hc2];kernel_rfl))))
 refine tq (it h (λhc3 h=>?_) (λhc3 h=>?_))
 ·refine sq (rg Zab.f (tq (rt (tr ?_))))
  cases h
  exact ZaA kr
 refine sk (tq (kq (sq (sq (rg (Zab.u 2 (Zan (ys:=[Zad false a0_.Periods]) (h:=Zax eI64)) Zab.f) (tq (bk ?_)))))))
 obtain ⟨au,al,h⟩:=bs h
 refine ZaT ((ZaI (λ(x:Int) s=>s=⟨[(1,.loc 1 0),(21,Zad false a0_.Periods),(22,iv ((List.length a0_.Periods:Nat):Int)),(23,iv x)],[(1,(Zaj a0_))],[]⟩) (λx:Int=>Zgm N a0_ x) (λ(p:(Unit)⊕(Int)) e s=>match p with|(.inl p)=>e=.exit 0/\(s=⟨[(1,.loc 1 0)],[(1,(Zaj a0_))],[]⟩)|(.inr p)=>e=.ret/\∃ xs,resL s i12.res=some xs/\ZbV xs=iv p) ?_ N _ au _ al kr).mono ?_)
 ·clear h al
  rintro i4 o s h hR
  obtain rfl:=hR
  replace h:Zgm N a0_ i4=some o:=h
  unfold Zgm at h
  refine sq (rg Zab.f (tq (sq (it h (λay h=>?_) (λay h=>?_)))))
  ·refine sk (tq (kq (sq (bk (sq ?_)))))
   obtain ⟨a6,am,h⟩:=bs h
   refine rg (Zab.u 0 (Zan (ys:=[Zad false a0_.Periods,iv i4]) (h:=Zal eI64 am)) (Zab.u 0 (Zav (sz:=1) (off:=0) (cs:=[.int .i64 a6]) (r:=iv a6) eI64 am) Zab.f)) (tq (sq (rgX ⟨[(1,.loc 1 0),(21,Zad false a0_.Periods),(22,iv ((List.length a0_.Periods:Nat):Int)),(23,iv i4),(32,bv ((decide (a6<1))||(decide (a6>240))))],[(1,(Zaj a0_))],[]⟩ ?_ ?_)))
   ·rcases Bool.eq_false_or_eq_true (decide (a6<1)) with ao|an
    ·exact (EP.u 1 (Zam (c:=(decide (a6<1))) (h:=ao)) (EP.f (by simp only [ao];kernel_rfl)))
    exact (EP.u 1 (Zam (c:=(decide (a6<1))) (h:=an)) (EP.f (by simp only [an];kernel_rfl)))
   refine tq (it h (λax h=>?_) (λax h=>?_))
   ·refine sq (rg Zab.f (tq (rt (br (tr ?_)))))
    cases h
    exact ⟨_,rfl,rfl,ZaA kr⟩
   refine sk (bn (tq (kq (rg Zab.f ?_))))
   cases h
   exact ⟨_,rfl,kr⟩
  refine kq (xq (tx ?_))
  cases h
  exact ⟨_,rfl,rfl,kr⟩
 rintro e s hq
 rcases au with aD|aA
 ·dsimp only at h hq
  obtain ⟨rfl,hR⟩:=hq
  obtain rfl:=hR
  refine bx (tq (sq (sq ?_)))
  obtain ⟨az,av,h⟩:=bs h
  refine rg (Zab.v 2 (Zaz (hc:=ZhY N a0_.Periods az av)) Zab.f) (tq (sq (rg Zab.f (tq (it h (λaw h=>?_) (λaw h=>?_))))))
  ·refine sq (rg Zab.f (tq (rt (tr ?_))))
   cases h
   exact ZaA kr
  refine sk (tq (kq (sq (sq (rg (Zab.u 2 (Zan (ys:=[Zas false a0_.Uses]) (h:=Zax Zap)) Zab.f) (tq (bk ?_)))))))
  obtain ⟨ak,a7,h⟩:=bs h
  refine ZaT ((ZaI (λ(x:Int) s=>s=⟨[(1,.loc 1 0),(43,Zas false a0_.Uses),(44,iv ((List.length a0_.Uses:Nat):Int)),(45,iv x)],[(1,(Zaj a0_))],[]⟩) (λx:Int=>Zgl N a0_ x) (λ(p:(Unit)⊕(Int)) e s=>match p with|(.inl p)=>e=.exit 2/\(s=⟨[],[],[]⟩)|(.inr p)=>e=.ret/\∃ xs,resL s i12.res=some xs/\ZbV xs=iv p) ?_ N _ ak _ a7 kr).mono ?_)
  ·clear h a7
   rintro aj o s h hR
   obtain rfl:=hR
   replace h:Zgl N a0_ aj=some o:=h
   unfold Zgl at h
   refine sq (rg Zab.f (tq (sq (it h (λar h=>?_) (λar h=>?_)))))
   ·refine sk (tq (kq (sq (bk (sq ?_)))))
    obtain ⟨a0,a9,h⟩:=bs h
    refine rg (Zab.u 0 (Zan (ys:=[Zas false a0_.Uses,iv aj]) (h:=Zal Zap a9)) (Zab.u 0 (Zav (sz:=4) (off:=0) (cs:=[.int .i64 a0.Stream,.int .i64 a0.Port,.int .i64 a0.From,.int .i64 a0.Long]) (r:=.agg (Zbb a0)) Zap a9) Zab.f)) (tq (sq (sq (rgX ⟨[(1,.loc 1 0),(8,.loc 8 0),(43,Zas false a0_.Uses),(44,iv ((List.length a0_.Uses:Nat):Int)),(45,iv aj),(69,bv ((decide (a0.Stream<0))||((decide (a0.Stream≥((List.length a0_.Periods:Nat):Int)))||((decide (a0.Port<0))||(decide (a0.Port≥48))))))],[(1,(Zaj a0_)),(8,(Zbb a0))],[]⟩ ?_ ?_))))
    ·rcases Bool.eq_false_or_eq_true (decide (a0.Stream<0)) with ai|a3
     ·exact (EP.u 2 (Zam (c:=(decide (a0.Stream<0))) (h:=ai)) (EP.f (by simp only [ai];kernel_rfl)))
     refine (EP.u 2 (Zam (c:=(decide (a0.Stream<0))) (h:=a3)) (EP.u 5 (Zan (ys:=[Zad false a0_.Periods]) (h:=Zax eI64)) ?_))
     rcases Bool.eq_false_or_eq_true (decide (a0.Stream≥((List.length a0_.Periods:Nat):Int))) with ag|a5
     ·exact (EP.u 0 (Zam (c:=(decide (a0.Stream≥((List.length a0_.Periods:Nat):Int)))) (h:=ag)) (EP.f (by simp only [a3,ag];kernel_rfl)))
     refine (EP.u 0 (Zam (c:=(decide (a0.Stream≥((List.length a0_.Periods:Nat):Int)))) (h:=a5)) ?_)
     rcases Bool.eq_false_or_eq_true (decide (a0.Port<0)) with af|ae
     ·exact (EP.u 4 (Zam (c:=(decide (a0.Port<0))) (h:=af)) (EP.f (by simp only [a3,a5,af];kernel_rfl)))
     exact (EP.u 4 (Zam (c:=(decide (a0.Port<0))) (h:=ae)) (EP.f (by simp only [a3,a5,ae];kernel_rfl)))
    refine tq (it h (λaq h=>?_) (λaq h=>?_))
    ·refine sq (rg Zab.f (tq (rt (tr (br (tr ?_))))))
     cases h
     exact ⟨_,rfl,rfl,ZaA kr⟩
    refine sk (tq (kq (sq ?_)))
    obtain ⟨a1,a8,h⟩:=bs h
    refine rg (Zab.u 4 (Zan (ys:=[Zad false a0_.Periods,iv a0.Stream]) (h:=Zal eI64 a8)) (Zab.u 0 (Zav (sz:=1) (off:=0) (cs:=[.int .i64 a1]) (r:=iv a1) eI64 a8) Zab.f)) (tq (sq (rgX ⟨[(1,.loc 1 0),(43,Zas false a0_.Uses),(44,iv ((List.length a0_.Uses:Nat):Int)),(45,iv aj),(95,bv ((decide (a0.From<0))||((decide (a0.From≥a1))||((decide (a0.Long<1))||(decide (a0.Long>a1))))))],[(1,(Zaj a0_))],[]⟩ ?_ ?_)))
    ·rcases Bool.eq_false_or_eq_true (decide (a0.From<0)) with ad|a2
     ·exact (EP.u 2 (Zam (c:=(decide (a0.From<0))) (h:=ad)) (EP.f (by simp only [ad];kernel_rfl)))
     refine (EP.u 2 (Zam (c:=(decide (a0.From<0))) (h:=a2)) ?_)
     rcases Bool.eq_false_or_eq_true (decide (a0.From≥a1)) with ac|a4
     ·exact (EP.u 4 (Zam (c:=(decide (a0.From≥a1))) (h:=ac)) (EP.f (by simp only [a2,ac];kernel_rfl)))
     refine (EP.u 4 (Zam (c:=(decide (a0.From≥a1))) (h:=a4)) ?_)
     rcases Bool.eq_false_or_eq_true (decide (a0.Long<1)) with ab|aa
     ·exact (EP.u 4 (Zam (c:=(decide (a0.Long<1))) (h:=ab)) (EP.f (by simp only [a2,a4,ab];kernel_rfl)))
     exact (EP.u 4 (Zam (c:=(decide (a0.Long<1))) (h:=aa)) (EP.f (by simp only [a2,a4,aa];kernel_rfl)))
    refine tq (it h (λap h=>?_) (λap h=>?_))
    ·refine sq (rg Zab.f (tq (rt (br (tr ?_)))))
     cases h
     exact ⟨_,rfl,rfl,ZaA kr⟩
    refine sk (bn (tq (kq (rg Zab.f ?_))))
    cases h
    exact ⟨_,rfl,kr⟩
   refine kq (xq (tx ?_))
   cases h
   exact ⟨_,rfl,rfl,kr⟩
  rintro e s hq
  rcases ak with aC|aB
  ·dsimp only at h hq
   obtain ⟨rfl,hR⟩:=hq
   obtain rfl:=hR
   refine bx (tq (sq (rg Zab.f (tq (rt ?_)))))
   cases h
   exact ZaA kr
  dsimp only at h hq
  obtain ⟨rfl,hq⟩:=hq
  refine br (tr ?_)
  cases h
  exact hq
 dsimp only at h hq
 obtain ⟨rfl,hq⟩:=hq
 refine br (tr ?_)
 cases h
 exact hq
theorem ZjO (N:Nat)(a0_:ZbC)(p0_:Nat)(bc0_0_:AV)(bc0_1_:AV)(H:List HO)(hH:HP H [.cel p0_ [bc0_0_,bc0_1_,bv a0_.late],.arr bc0_0_ 1 true (List.map eI64 a0_.Problem.Periods),.arr bc0_1_ 4 true (List.map Zap a0_.Problem.Uses)])(r:Int)(h:ZdY N a0_=some r):∃ (H':List HO),Zcm Tryz.prog 21 [.ptr p0_ 0] H (iv r) H'/\Fp H H' [.cel p0_ [bc0_0_,bc0_1_,bv a0_.late],.arr bc0_0_ 1 true (List.map eI64 a0_.Problem.Periods),.arr bc0_1_ 4 true (List.map Zap a0_.Problem.Uses)] [.cel p0_ [bc0_0_,bc0_1_,bv a0_.late],.arr bc0_0_ 1 true (List.map eI64 a0_.Problem.Periods),.arr bc0_1_ 4 true (List.map Zap a0_.Problem.Uses)]:=by
 suffices hs:∃ r' H',Zcm Tryz.prog 21 [.ptr p0_ 0] H r' H'/\r'=iv r/\Fp H H' [.cel p0_ [bc0_0_,bc0_1_,bv a0_.late],.arr bc0_0_ 1 true (List.map eI64 a0_.Problem.Periods),.arr bc0_1_ 4 true (List.map Zap a0_.Problem.Uses)] [.cel p0_ [bc0_0_,bc0_1_,bv a0_.late],.arr bc0_0_ 1 true (List.map eI64 a0_.Problem.Periods),.arr bc0_1_ 4 true (List.map Zap a0_.Problem.Uses)] by
  obtain ⟨_,H',h1,he,h2⟩:=hs
  exact ⟨H',he ▸ h1,h2⟩
 unfold ZdY at h
 replace hH:=Fp.refl hH
 have hfbc0_0_:=ZaS (Fp.get hH 1 rfl)
 have hfbc0_1_:=ZaS (Fp.get hH 2 rfl)
 refine ZjT ZLG [] (λr' H'=>r'=iv r/\Fp H H' [.cel p0_ [bc0_0_,bc0_1_,bv a0_.late],.arr bc0_0_ 1 true (List.map eI64 a0_.Problem.Periods),.arr bc0_1_ 4 true (List.map Zap a0_.Problem.Uses)] [.cel p0_ [bc0_0_,bc0_1_,bv a0_.late],.arr bc0_0_ 1 true (List.map eI64 a0_.Problem.Periods),.arr bc0_1_ 4 true (List.map Zap a0_.Problem.Uses)]) (λr' H' q=>by obtain ⟨e,hp⟩:=q;subst e;rfl) rfl rfl (sq (rg Zab.f (tq (sq ?_))))
 have hlc1:=Fp.get hH 0 rfl
 obtain ⟨r2,hr2,h⟩:=bs h
 obtain ⟨H3,hzH3,hzH3v,hH⟩:=Fp.frz (k:=1) (a:=bc0_0_) (sz:=1) (frz:=true) eI64 hH rfl
 replace hH:Fp _ _ _ [.cel p0_ [bc0_0_,bc0_1_,bv a0_.late],.arr bc0_0_ 1 true (List.map eI64 a0_.Problem.Periods),.arr bc0_1_ 4 true (List.map Zap a0_.Problem.Uses)]:=hH
 refine rg (Zab.u 4 (ZaD (H:=H) (id:=p0_) (off:=0) (cs:=[bc0_0_,bc0_1_,bv a0_.late]) (c:=[bc0_0_]) (r:=bc0_0_) (by cases hfbc0_0_<;>kernel_rfl) (by cases hfbc0_0_<;>kernel_rfl) hlc1 (by cases hfbc0_0_<;>kernel_rfl) (by cases hfbc0_0_<;>kernel_rfl) (by cases hfbc0_0_<;>kernel_rfl)) (Zab.v 0 (Zi0 (H:=H) (ys:=[bc0_0_]) (by cases hfbc0_0_<;>kernel_rfl) (by cases hfbc0_0_<;>kernel_rfl) (Zfm hzH3v Zi8) (ZhY N a0_.Problem.Periods r2 hr2)) Zab.f)) (tq (sq (sq (rg Zab.f (tq (it h (λhc3 h=>?_) (λhc3 h=>?_)))))))
 ·refine sq (rg Zab.f (tq (rt (tr ?_))))
  cases h
  exact ⟨[iv r2.2],kr,kr,Fp.pk hH [0,1,2] rfl⟩
 refine sk (tq (kq (sq ?_)))
 obtain ⟨idm,H2,hidm,hH2,hH⟩:=Fp.mapNew (sz:=4) Zap hH
 replace hH:Fp H H2 [.cel p0_ [bc0_0_,bc0_1_,bv a0_.late],.arr bc0_0_ 1 true (List.map eI64 a0_.Problem.Periods),.arr bc0_1_ 4 true (List.map Zap a0_.Problem.Uses)] ([.cel p0_ [bc0_0_,bc0_1_,bv a0_.late],.arr bc0_0_ 1 true (List.map eI64 a0_.Problem.Periods),.arr bc0_1_ 4 true (List.map Zap a0_.Problem.Uses)]++mapT idm 4 Zap ([]:List (Int×List ZaB)) []):=Fp.pick hH [1,2,3,0] rfl
 refine rg (Zab.h 0 (st_mkMap' (H:=H3) 0 kr hidm hH2) Zab.f) (tq (sq (sq ?_)))
 have hlc4:=Fp.get hH 0 rfl
 have hln6:=Fp.len (k:=2) (a:=bc0_1_) (sz:=4) (frz:=true) (l:=a0_.Problem.Uses) Zap hH rfl
 refine rgS ⟨[(0,.ptr p0_ 0),(3,iv r2.1),(5,.map idm),(32,bc0_1_),(33,iv ((List.length a0_.Problem.Uses:Nat):Int)),(34,iv 0)],[],H2⟩ (Zab.u 4 (ZaD (H:=H2) (id:=p0_) (off:=1) (cs:=[bc0_0_,bc0_1_,bv a0_.late]) (c:=[bc0_1_]) (r:=bc0_1_) (by cases hfbc0_1_<;>kernel_rfl) (by cases hfbc0_1_<;>kernel_rfl) hlc4 (by cases hfbc0_1_<;>kernel_rfl) (by cases hfbc0_1_<;>kernel_rfl) (by cases hfbc0_1_<;>kernel_rfl)) (Zab.u 0 (Zan (ys:=[bc0_1_]) (by cases hfbc0_1_<;>kernel_rfl) hln6) Zab.f)) (by cases hfbc0_1_<;>kernel_rfl) (tq (bk ?_))
 obtain ⟨a0,aA,h⟩:=bs h
 refine ZaT ((ZaI (λ(x:Int×(List (Int×(List ZaB)))) s=>∃ (as_:List AV) (H5:List HO),s=⟨[(0,.ptr p0_ 0),(3,iv r2.1),(5,.map idm),(32,bc0_1_),(33,iv ((List.length a0_.Problem.Uses:Nat):Int)),(34,iv x.1)],[],H5⟩/\as_.length=x.2.length/\Fp H H5 [.cel p0_ [bc0_0_,bc0_1_,bv a0_.late],.arr bc0_0_ 1 true (List.map eI64 a0_.Problem.Periods),.arr bc0_1_ 4 true (List.map Zap a0_.Problem.Uses)] ([.cel p0_ [bc0_0_,bc0_1_,bv a0_.late],.arr bc0_0_ 1 true (List.map eI64 a0_.Problem.Periods),.arr bc0_1_ 4 true (List.map Zap a0_.Problem.Uses)]++mapT idm 4 Zap x.2 as_)) (λx:Int×(List (Int×(List ZaB)))=>Zcs N a0_ x.1 x.2) (λ(p:(List (Int×(List ZaB)))) e s=>e=.exit 0/\∃ (as_:List AV) (H5:List HO),s=⟨[(0,.ptr p0_ 0),(3,iv r2.1),(5,.map idm)],[],H5⟩/\as_.length=p.length/\Fp H H5 [.cel p0_ [bc0_0_,bc0_1_,bv a0_.late],.arr bc0_0_ 1 true (List.map eI64 a0_.Problem.Periods),.arr bc0_1_ 4 true (List.map Zap a0_.Problem.Uses)] ([.cel p0_ [bc0_0_,bc0_1_,bv a0_.late],.arr bc0_0_ 1 true (List.map eI64 a0_.Problem.Periods),.arr bc0_1_ 4 true (List.map Zap a0_.Problem.Uses)]++mapT idm 4 Zap p as_)) ?_ N _ a0 _ aA ⟨[],H2,(by show _=_;cases hfbc0_1_<;>kernel_rfl),rfl,hH⟩).mono ?_)
 ·clear h aA hln6 hH hlc4 hlc1
  rintro ⟨i5,m5⟩ o s h ⟨as_,H5,rfl,hl5,hH⟩
  replace h:Zcs N a0_ i5 m5=some o:=h
  unfold Zcs at h
  refine sq (rgS ⟨[(0,.ptr p0_ 0),(3,iv r2.1),(5,.map idm),(32,bc0_1_),(33,iv ((List.length a0_.Problem.Uses:Nat):Int)),(34,iv i5),(35,bv (decide (i5<((List.length a0_.Problem.Uses:Nat):Int))))],[],H5⟩ Zab.f (by cases hfbc0_1_<;>kernel_rfl) (tq (sq (it h (λaZ h=>?_) (λaZ h=>?_)))))
  ·refine sk (tq (kq (sq (bk (sq ?_)))))
   obtain ⟨a3,aB,h⟩:=bs h
   obtain ⟨bp,bd,_,bb,aE,bc,ar⟩:=Fp.elem (k:=2) (a:=bc0_1_) (sz:=4) (frz:=true) Zap hH rfl aB
   refine rgS ⟨[(0,.ptr p0_ 0),(3,iv r2.1),(5,.map idm),(7,.loc 7 0),(32,bc0_1_),(33,iv ((List.length a0_.Problem.Uses:Nat):Int)),(34,iv i5)],[(7,(Zbb a3))],H5⟩ (Zab.u 0 (Zan (ys:=[bc0_1_,iv i5]) (by cases hfbc0_1_<;>kernel_rfl) (ar .i64)) (Zab.u 0 (ZbH (H:=H5) (off:=0) (cs:=[.int .i64 a3.Stream,.int .i64 a3.Port,.int .i64 a3.From,.int .i64 a3.Long]) (r:=.agg (Zbb a3)) Zap aB aE) (Zab.f (h:=(by cases hfbc0_1_<;>kernel_rfl))))) (by cases hfbc0_1_<;>kernel_rfl) (tq ?_)
   obtain ⟨bt,aQ,h⟩:=bs h
   obtain ⟨hid5,hno5,a1,H6,as2,H7,ha1,hid6,hok1,hl6,hH7,hH⟩:=Fp.mapApp Zap hH hl5 aQ
   refine rqS ⟨[(0,.ptr p0_ 0),(3,iv r2.1),(5,.map idm),(32,bc0_1_),(33,iv ((List.length a0_.Problem.Uses:Nat):Int)),(34,iv i5)],[],H7⟩ (Zab.u 6 (ZsT (H:=H5) (id:=idm) (es:=zipE m5 as_) (x:=a3.Port) (r:=mval 4 m5 as_ a3.Port) kr kr hid5 rfl hno5) (Zab.h 2 (Ze9 (H:=H5) (a:=mval 4 m5 as_ a3.Port) (b:=.p (.sl 4 true [Zap a3])) (new:=[Zap a3]) kr kr kr kr ha1) (Zab.o 0 (ZsS (H:=H6) (id:=idm) (es:=zipE m5 as_) (x:=a3.Port) (y:=a1) kr kr hid6 hok1 hH7) (Zab.f (h:=(by cases hfbc0_1_<;>kernel_rfl)))))) (by cases hfbc0_1_<;>kernel_rfl) (bn (tq (rgS ⟨[(0,.ptr p0_ 0),(3,iv r2.1),(5,.map idm),(32,bc0_1_),(33,iv ((List.length a0_.Problem.Uses:Nat):Int)),(34,iv (w64 (i5+1)))],[],H7⟩ Zab.f (by cases hfbc0_1_<;>kernel_rfl) ?_)))
   cases h
   exact ⟨_,rfl,as2,H7,(by show _=_;cases hfbc0_1_<;>kernel_rfl),hl6,hH⟩
  refine kq (xq (tx ?_))
  cases h
  exact ⟨_,rfl,rfl,as_,H5,kr,hl5,hH⟩
 clear hH hln6 hlc4 hlc1
 rintro e s hq
 obtain ⟨rfl,as_,H5,rfl,hl5,hH⟩:=hq
 refine bx (tq (sq ?_))
 obtain ⟨bq,aM,h⟩:=bs h
 obtain ⟨hb1,hb2⟩:=Ztu aM
 have hid5:H5[idm]?=some (.lp mapL [] (.mp 0 (zipE a0 as_))):=Fp.get hH 3 rfl
 have hidlt:idm<H5.length:=(List.getElem?_eq_some_iff.1 hid5).1
 refine Zt6 (Zsm (s0:=⟨[(0,.ptr p0_ 0),(3,iv r2.1),(5,.map idm),(49,.map idm)],[],H5⟩) (id:=idm) (kn:=0) (L:=mapL) (fr:=[]) (es:=zipE a0 as_) (Zo2 (ZcG N a0_ r2) a0) (sF:=[(2,iv 7)]) (bF:=[]) (ZtR kr kr) kr hid5 rfl kr kr (by decide) ?_ ?_)
 ·clear h
  intro i_ p_ hp_ bs_ ck_ sn_ y_ hy_
  obtain ⟨q_,hq_,hpk_,hzt_⟩:=Zts (enc:=Zap) (sz:=4) hl5 i_ p_ hp_
  have hHI:=ZyH (kn:=0) (es:=zipE a0 as_) (bs:=bs_) (clock:=ck_) (seen:=sn_++[y_]) hH
  replace hH:=HP.three (i:=0) (j:=1) (k:=i_+3) hHI rfl rfl (by simpa using hzt_) (by omega) (by omega) (by omega)
  have hfae_:=ZlW (HP.get hH 2 rfl)
  obtain ⟨hoka_,_⟩:=ZqN (HP.get hH 2 rfl)
  obtain ⟨c_,hc_⟩:=hb1 i_ q_ hq_
  have hbad:Zo2 (ZcG N a0_ r2) a0 i_=c_:=by
   unfold Zo2
   rw [hq_]
   simp only [hc_]
   cases c_<;>rfl
  rw [hbad]
  unfold ZcG at hc_
  have hjm:=Zt0 (kn:=0) (L:=mapL) (fr:=[]) (es:=zipE a0 as_) (bs:=bs_) (clock:=ck_) (seen:=sn_++[y_]) hidlt
  have hjt:=ZyG (H:=H5) (id:=idm) (kn:=0) (L:=mapL) (fr:=[]) (es:=zipE a0 as_) (bs:=bs_) (clock:=ck_) (seen:=sn_++[y_])
  refine Zt7 ⟨[(0,.ptr p0_ 0),(3,iv r2.1),(50,.map (List.length H5))],[],(hIt H5 idm mapL [] 0 (zipE a0 as_) bs_ ck_ (sn_++[y_]))⟩ kr (sq (rgS ⟨[(0,.ptr p0_ 0),(3,iv r2.1),(9,p_.2),(50,.map (List.length H5))],[],(hIt H5 idm mapL [] 0 (zipE a0 as_) bs_ ck_ (sn_++[y_]))⟩ (Zab.u 0 (Zr1 (H:=(hIt H5 idm mapL [] 0 (zipE a0 as_) bs_ ck_ (sn_++[y_]))) (id:=idm) (j:=List.length H5) (kn:=0) (L:=mapL) (fr:=[]) (es:=zipE a0 as_) (bs:=bs_) (clock:=ck_) (seen:=sn_) (x:=y_) (i:=i_) (p:=p_) kr kr hp_ hy_ hoka_ hjm hjt) Zab.f) kr (tq (sq ?_))))
  obtain ⟨pk_,ae_⟩:=p_
  replace hfae_:ae_=.p (.sl 4 true [])∨∃ id ver,ae_=.osl 4 id ver 0 (q_.2.map Zap).length:=hfae_
  refine rgS ⟨[(0,.ptr p0_ 0),(3,iv r2.1),(9,ae_),(10,iv 0),(50,.map (List.length H5))],[],(hIt H5 idm mapL [] 0 (zipE a0 as_) bs_ ck_ (sn_++[y_]))⟩ Zab.f (by rcases hfae_ with hae_e|⟨_,_,hae_e⟩<;>rw [hae_e]<;>kernel_rfl) (tq (sq (sq ?_)))
  have aD:=HP.len (k:=2) (a:=ae_) (sz:=4) (frz:=false) (l:=q_.2) Zap hH rfl
  refine rgS ⟨[(0,.ptr p0_ 0),(3,iv r2.1),(10,iv 0),(50,.map (List.length H5)),(55,ae_),(56,iv ((List.length q_.2:Nat):Int)),(57,iv 0)],[],(hIt H5 idm mapL [] 0 (zipE a0 as_) bs_ ck_ (sn_++[y_]))⟩ (Zab.u 1 (Zan (ys:=[ae_]) (by rcases hfae_ with hae_e|⟨_,_,hae_e⟩<;>rw [hae_e]<;>kernel_rfl) aD) Zab.f) (by rcases hfae_ with hae_e|⟨_,_,hae_e⟩<;>rw [hae_e]<;>kernel_rfl) (tq (bk ?_))
  obtain ⟨a7,aa,hc_⟩:=bs hc_
  refine ZaT ((ZaI (λ(x:Int×Int) s=>s=⟨[(0,.ptr p0_ 0),(3,iv r2.1),(10,iv x.1),(50,.map (List.length H5)),(55,ae_),(56,iv ((List.length q_.2:Nat):Int)),(57,iv x.2)],[],(hIt H5 idm mapL [] 0 (zipE a0 as_) bs_ ck_ (sn_++[y_]))⟩) (λx:Int×Int=>Zcr N a0_ r2 q_.2 x.1 x.2) (λ(p:Int) e s=>e=.exit 4/\(s=⟨[(0,.ptr p0_ 0),(3,iv r2.1),(10,iv p),(50,.map (List.length H5))],[],(hIt H5 idm mapL [] 0 (zipE a0 as_) bs_ ck_ (sn_++[y_]))⟩)) ?_ N _ a7 _ aa (by show _=_;rcases hfae_ with hae_e|⟨_,_,hae_e⟩<;>rw [hae_e]<;>kernel_rfl)).mono ?_)
  ·clear hc_ aa
   rintro ⟨a8,a6⟩ o s h hR
   obtain rfl:=hR
   replace h:Zcr N a0_ r2 q_.2 a8 a6=some o:=h
   unfold Zcr at h
   refine sq (rgS ⟨[(0,.ptr p0_ 0),(3,iv r2.1),(10,iv a8),(50,.map (List.length H5)),(55,ae_),(56,iv ((List.length q_.2:Nat):Int)),(57,iv a6),(58,bv (decide (a6<((List.length q_.2:Nat):Int))))],[],(hIt H5 idm mapL [] 0 (zipE a0 as_) bs_ ck_ (sn_++[y_]))⟩ Zab.f (by rcases hfae_ with hae_e|⟨_,_,hae_e⟩<;>rw [hae_e]<;>kernel_rfl) (tq (sq (it h (λaL h=>?_) (λaL h=>?_)))))
   ·refine sk (tq (kq (sq (bk (sq ?_)))))
    obtain ⟨a5,aj,h⟩:=bs h
    obtain ⟨bj,ba,_,aX,ax,aY,ae⟩:=HP.elem (k:=2) (a:=ae_) (sz:=4) (frz:=false) Zap hH rfl aj
    refine rgS ⟨[(0,.ptr p0_ 0),(3,iv r2.1),(10,iv a8),(12,.loc 12 0),(50,.map (List.length H5)),(55,ae_),(56,iv ((List.length q_.2:Nat):Int)),(57,iv a6)],[(12,(Zbb a5))],(hIt H5 idm mapL [] 0 (zipE a0 as_) bs_ ck_ (sn_++[y_]))⟩ (Zab.u 0 (Zan (ys:=[ae_,iv a6]) (by rcases hfae_ with hae_e|⟨_,_,hae_e⟩<;>rw [hae_e]<;>kernel_rfl) (ae .i64)) (Zab.u 0 (ZbH (H:=(hIt H5 idm mapL [] 0 (zipE a0 as_) bs_ ck_ (sn_++[y_]))) (off:=0) (cs:=[.int .i64 a5.Stream,.int .i64 a5.Port,.int .i64 a5.From,.int .i64 a5.Long]) (r:=.agg (Zbb a5)) Zap aj ax) (Zab.f (h:=(by rcases hfae_ with hae_e|⟨_,_,hae_e⟩<;>rw [hae_e]<;>kernel_rfl))))) (by rcases hfae_ with hae_e|⟨_,_,hae_e⟩<;>rw [hae_e]<;>kernel_rfl) (tq ?_)
    have aq:=HP.get hH 0 rfl
    obtain ⟨al,ai,h⟩:=bs h
    obtain ⟨bi,b2,_,aV,aw,aW,ad⟩:=HP.elem (k:=1) (a:=bc0_0_) (sz:=1) (frz:=true) eI64 hH rfl ai
    obtain ⟨ay,aC,h⟩:=bs h
    refine rqS ⟨[(0,.ptr p0_ 0),(3,iv r2.1),(10,iv (w64 (a8+ay))),(50,.map (List.length H5)),(55,ae_),(56,iv ((List.length q_.2:Nat):Int)),(57,iv a6)],[],(hIt H5 idm mapL [] 0 (zipE a0 as_) bs_ ck_ (sn_++[y_]))⟩ (Zab.u 6 (ZaK (ZaD (H:=(hIt H5 idm mapL [] 0 (zipE a0 as_) bs_ ck_ (sn_++[y_]))) (id:=p0_) (off:=0) (cs:=[bc0_0_,bc0_1_,bv a0_.late]) (c:=[bc0_0_]) (r:=bc0_0_) (by cases hfbc0_0_<;>kernel_rfl) (by cases hfbc0_0_<;>kernel_rfl) aq (by cases hfbc0_0_<;>kernel_rfl) (by cases hfbc0_0_<;>kernel_rfl) (by cases hfbc0_0_<;>kernel_rfl)) (by cases hfbc0_0_<;>kernel_rfl)) (Zab.u 2 (Zan (ys:=[bc0_0_,iv a5.Stream]) (by cases hfbc0_0_<;>kernel_rfl) (ad .i64)) (Zab.u 0 (ZaK (ZbH (H:=(hIt H5 idm mapL [] 0 (zipE a0 as_) bs_ ck_ (sn_++[y_]))) (off:=0) (cs:=[.int .i64 al]) (r:=iv al) eI64 ai aw)) (Zab.u 0 (Zan (ys:=[iv r2.1,iv al]) (h:=Zhn aC)) Zab.f)))) (by cases hfbc0_0_<;>rcases hfae_ with hae_e|⟨_,_,hae_e⟩<;>rw [hae_e]<;>kernel_rfl) (bn (tq (rgS ⟨[(0,.ptr p0_ 0),(3,iv r2.1),(10,iv (w64 (a8+ay))),(50,.map (List.length H5)),(55,ae_),(56,iv ((List.length q_.2:Nat):Int)),(57,iv (w64 (a6+1)))],[],(hIt H5 idm mapL [] 0 (zipE a0 as_) bs_ ck_ (sn_++[y_]))⟩ Zab.f (by rcases hfae_ with hae_e|⟨_,_,hae_e⟩<;>rw [hae_e]<;>kernel_rfl) ?_)))
    cases h
    exact ⟨_,rfl,(by show _=_;rcases hfae_ with hae_e|⟨_,_,hae_e⟩<;>rw [hae_e]<;>kernel_rfl)⟩
   refine kq (xq (tx ?_))
   cases h
   exact ⟨_,rfl,rfl,kr⟩
  rintro e s hq
  obtain ⟨rfl,hR⟩:=hq
  obtain rfl:=hR
  refine bx (tq (sq (rg Zab.f ?_)))
  have h:(if (decide (a7>63))=true then some true else some false)=some c_:=by
   rw [← hc_]
   cases decide (a7>63)<;>rfl
  refine tq (it h (λaK h=>?_) (λaK h=>?_))
  ·cases h
   refine sq (rg Zab.f (tq (rt (br ?_))))
   rw [Z9 rfl]
   exact ⟨rfl,kr⟩
  cases h
  refine sk (bn ?_)
  rw [Z8 (by simp)]
  exact ⟨rfl,kr⟩
 replace hH:=Fp.push hH (.lp itL [] .itd)
 rw [ZqA hl5,hb2]
 rcases ZaC h with ⟨hcb,h⟩|⟨hcb,h⟩
 ·rw [Z9 hcb]
  refine tr ?_
  cases h
  exact ⟨[iv 7],kr,kr,Fp.pk hH [0,1,2] rfl⟩
 rw [Z8 (by rw [hcb];simp)]
 refine tq ?_
 replace hH:Fp _ _ _ [.cel p0_ [bc0_0_,bc0_1_,bv a0_.late],.arr bc0_0_ 1 true (List.map eI64 a0_.Problem.Periods),.arr bc0_1_ 4 true (List.map Zap a0_.Problem.Uses)]:=Fp.pick hH [0,1,2] rfl
 refine Zt7 ⟨[(0,.ptr p0_ 0)],[],(hEnd H5)⟩ kr (sq (sq ?_))
 have ap:=Fp.get hH 0 rfl
 have am:=Fp.len (k:=2) (a:=bc0_1_) (sz:=4) (frz:=true) (l:=a0_.Problem.Uses) Zap hH rfl
 refine rgS ⟨[(0,.ptr p0_ 0),(81,bc0_1_),(82,iv ((List.length a0_.Problem.Uses:Nat):Int)),(83,iv 0)],[],(hEnd H5)⟩ (Zab.u 4 (ZaD (H:=(hEnd H5)) (id:=p0_) (off:=1) (cs:=[bc0_0_,bc0_1_,bv a0_.late]) (c:=[bc0_1_]) (r:=bc0_1_) (by cases hfbc0_1_<;>kernel_rfl) (by cases hfbc0_1_<;>kernel_rfl) ap (by cases hfbc0_1_<;>kernel_rfl) (by cases hfbc0_1_<;>kernel_rfl) (by cases hfbc0_1_<;>kernel_rfl)) (Zab.u 0 (Zan (ys:=[bc0_1_]) (by cases hfbc0_1_<;>kernel_rfl) am) Zab.f)) (by cases hfbc0_1_<;>kernel_rfl) (tq (bk ?_))
 obtain ⟨az,a9,h⟩:=bs h
 refine ZaT ((ZaI (λ(x:Int) s=>s=⟨[(0,.ptr p0_ 0),(81,bc0_1_),(82,iv ((List.length a0_.Problem.Uses:Nat):Int)),(83,iv x)],[],(hEnd H5)⟩) (λx:Int=>Zb2 N a0_ x) (λ(p:(Unit)⊕(Int)) e s=>match p with|(.inl p)=>e=.exit 6/\(s=⟨[(0,.ptr p0_ 0)],[],(hEnd H5)⟩)|(.inr p)=>e=.ret/\∃ xs,rawL (wS [] s) i21.res=some xs/\ZbV xs=iv p/\Fp H (weakH [] s.H) [.cel p0_ [bc0_0_,bc0_1_,bv a0_.late],.arr bc0_0_ 1 true (List.map eI64 a0_.Problem.Periods),.arr bc0_1_ 4 true (List.map Zap a0_.Problem.Uses)] [.cel p0_ [bc0_0_,bc0_1_,bv a0_.late],.arr bc0_0_ 1 true (List.map eI64 a0_.Problem.Periods),.arr bc0_1_ 4 true (List.map Zap a0_.Problem.Uses)]) ?_ N _ az _ a9 (by show _=_;cases hfbc0_1_<;>kernel_rfl)).mono ?_)
 ·clear h a9
  rintro a4 o s h hR
  obtain rfl:=hR
  replace h:Zb2 N a0_ a4=some o:=h
  unfold Zb2 at h
  refine sq (rgS ⟨[(0,.ptr p0_ 0),(81,bc0_1_),(82,iv ((List.length a0_.Problem.Uses:Nat):Int)),(83,iv a4),(84,bv (decide (a4<((List.length a0_.Problem.Uses:Nat):Int))))],[],(hEnd H5)⟩ Zab.f (by cases hfbc0_1_<;>kernel_rfl) (tq (sq (it h (λaJ h=>?_) (λaJ h=>?_)))))
  ·refine sk (tq (kq (sq (bk (sq ?_)))))
   obtain ⟨a2,ag,h⟩:=bs h
   obtain ⟨bf,b1,_,aT,av,aU,ac⟩:=Fp.elem (k:=2) (a:=bc0_1_) (sz:=4) (frz:=true) Zap hH rfl ag
   refine rgS ⟨[(0,.ptr p0_ 0),(14,.loc 14 0),(81,bc0_1_),(82,iv ((List.length a0_.Problem.Uses:Nat):Int)),(83,iv a4)],[(14,(Zbb a2))],(hEnd H5)⟩ (Zab.u 0 (Zan (ys:=[bc0_1_,iv a4]) (by cases hfbc0_1_<;>kernel_rfl) (ac .i64)) (Zab.u 0 (ZbH (H:=(hEnd H5)) (off:=0) (cs:=[.int .i64 a2.Stream,.int .i64 a2.Port,.int .i64 a2.From,.int .i64 a2.Long]) (r:=.agg (Zbb a2)) Zap ag av) (Zab.f (h:=(by cases hfbc0_1_<;>kernel_rfl))))) (by cases hfbc0_1_<;>kernel_rfl) (tq (sq ?_))
   have ao:=Fp.get hH 0 rfl
   obtain ⟨ak,af,h⟩:=bs h
   obtain ⟨be,b0,_,aR,au,aS,ab⟩:=Fp.elem (k:=1) (a:=bc0_0_) (sz:=1) (frz:=true) eI64 hH rfl af
   refine rqS ⟨[(0,.ptr p0_ 0),(81,bc0_1_),(82,iv ((List.length a0_.Problem.Uses:Nat):Int)),(83,iv a4),(98,bv (decide (a2.Long>ak)))],[],(hEnd H5)⟩ (Zab.u 6 (ZaK (ZaD (H:=(hEnd H5)) (id:=p0_) (off:=0) (cs:=[bc0_0_,bc0_1_,bv a0_.late]) (c:=[bc0_0_]) (r:=bc0_0_) (by cases hfbc0_0_<;>cases hfbc0_1_<;>kernel_rfl) (by cases hfbc0_0_<;>cases hfbc0_1_<;>kernel_rfl) ao (by cases hfbc0_0_<;>cases hfbc0_1_<;>kernel_rfl) (by cases hfbc0_0_<;>cases hfbc0_1_<;>kernel_rfl) (by cases hfbc0_0_<;>cases hfbc0_1_<;>kernel_rfl)) (by cases hfbc0_0_<;>cases hfbc0_1_<;>kernel_rfl)) (Zab.u 2 (Zan (ys:=[bc0_0_,iv a2.Stream]) (by cases hfbc0_0_<;>kernel_rfl) (ab .i64)) (Zab.u 0 (ZaK (ZbH (H:=(hEnd H5)) (off:=0) (cs:=[.int .i64 ak]) (r:=iv ak) eI64 af au)) Zab.f))) (by cases hfbc0_0_<;>cases hfbc0_1_<;>kernel_rfl) (tq (it h (λaI h=>?_) (λaI h=>?_)))
   ·refine sq (rgS ⟨[(2,iv 341)],[],(hEnd H5)⟩ Zab.f kr (tq (rt (br (tr ?_)))))
    cases h
    exact ⟨_,rfl,rfl,⟨[iv 341],kr,kr,Fp.pk hH [0,1,2] rfl⟩⟩
   refine sk (bn (tq (kq (rgS ⟨[(0,.ptr p0_ 0),(81,bc0_1_),(82,iv ((List.length a0_.Problem.Uses:Nat):Int)),(83,iv (w64 (a4+1)))],[],(hEnd H5)⟩ Zab.f (by cases hfbc0_1_<;>kernel_rfl) ?_))))
   cases h
   exact ⟨_,rfl,(by show _=_;cases hfbc0_1_<;>kernel_rfl)⟩
  refine kq (xq (tx ?_))
  cases h
  exact ⟨_,rfl,rfl,kr⟩
 rintro e s hq
 rcases az with bm|bl
 ·dsimp only at h hq
  obtain ⟨rfl,hR⟩:=hq
  obtain rfl:=hR
  refine bx (tq (sq (sq ?_)))
  have an:=Fp.get hH 0 rfl
  refine rg (Zab.u 3 (ZaD (H:=(hEnd H5)) (id:=p0_) (off:=2) (cs:=[bc0_0_,bc0_1_,bv a0_.late]) (c:=[bv a0_.late]) (r:=bv a0_.late) (hl:=an)) Zab.f) (tq (it h (λaG h=>?_) (λaG h=>?_)))
  ·refine sq (rg Zab.f (tq (rt (tr ?_))))
   cases h
   exact ⟨[iv 342],kr,kr,Fp.pk hH [0,1,2] rfl⟩
  refine sk (tq (kq (sq (rg Zab.f (tq (rt ?_))))))
  cases h
  exact ⟨[iv 0],kr,kr,Fp.pk hH [0,1,2] rfl⟩
 dsimp only at h hq
 obtain ⟨rfl,hq⟩:=hq
 refine br (tr ?_)
 cases h
 exact hq
theorem Zke (N:Nat)(a0_:Zaw)(r:Int×Int)(h:Zi3 N a0_=some r):Zba Tryz.prog 31 [.agg (Zaj a0_)] (.tup [iv r.1,iv r.2]):=by
 unfold Zi3 at h
 have hH  := hp0
 refine ZaG ZLw rfl rfl (Zay _ _ _ ?_) rfl
 refine sq (rg Zab.f (tq (sq (sq ?_))))
 obtain ⟨r1,hr1,h⟩:=bs h
 refine rg (Zab.v 1 (Zaz (hc:=Zh0 N a0_ r1 hr1)) Zab.f) (tq (sq (rg Zab.f (tq (it h (λhc2 h=>?_) (λhc2 h=>?_))))))
 ·refine sq (rg Zab.f (tq (rt (tr ?_))))
  cases h
  exact ZaA kr
 refine sk (tq (kq (sq ?_)))
 obtain ⟨r3,hr3,h⟩:=bs h
 refine rg (Zab.v 2 (Zaz (hc:=ZhY N a0_.Periods r3 hr3)) Zab.f) (tq (rt ?_))
 cases h
 exact ZaA kr
theorem ZlT (N:Nat)(a0_:Zaw)(a1_:Int)(a2_:Int)(a3_:Int)(a4_:Int)(r:Bool×Int)(h:ZhZ N a0_ a1_ a2_ a3_ a4_=some r):Zba Tryz.prog 55 [.agg (Zaj a0_),iv a1_,iv a2_,iv a3_,iv a4_] (.tup [bv r.1,iv r.2]):=by
 unfold ZhZ at h
 have hH  := hp0
 refine ZaG ZK8 rfl rfl (Zay _ _ _ ?_) rfl
 refine sq (rg Zab.f (tq (sq (sq ?_))))
 obtain ⟨r1,hr1,h⟩:=bs h
 refine rg (Zab.v 1 (Zaz (hc:=Zh0 N a0_ r1 hr1)) Zab.f) (tq (sq (rg Zab.f (tq (it h (λhc2 h=>?_) (λhc2 h=>?_))))))
 ·refine sq (rg Zab.f (tq (rt (tr ?_))))
  cases h
  exact ZaA kr
 refine sk (tq (kq (sq (sq (rgX ⟨[(1,iv a1_),(2,iv a2_),(3,iv a3_),(4,iv a4_),(5,.loc 5 0),(37,bv ((decide (a1_<0))||((decide (a1_≥((List.length a0_.Periods:Nat):Int)))||((decide (a3_<0))||(decide (a3_≥((List.length a0_.Periods:Nat):Int)))))))],[(5,(Zaj a0_))],[]⟩ ?_ ?_)))))
 ·rcases Bool.eq_false_or_eq_true (decide (a1_<0)) with hc3|hc4
  ·exact (EP.u 1 (Zam (c:=(decide (a1_<0))) (h:=hc3)) (EP.f (by simp only [hc3];kernel_rfl)))
  refine (EP.u 1 (Zam (c:=(decide (a1_<0))) (h:=hc4)) (EP.u 4 (Zan (ys:=[Zad false a0_.Periods]) (h:=Zax eI64)) ?_))
  rcases Bool.eq_false_or_eq_true (decide (a1_≥((List.length a0_.Periods:Nat):Int))) with hc5|hc6
  ·exact (EP.u 0 (Zam (c:=(decide (a1_≥((List.length a0_.Periods:Nat):Int)))) (h:=hc5)) (EP.f (by simp only [hc4,hc5];kernel_rfl)))
  refine (EP.u 0 (Zam (c:=(decide (a1_≥((List.length a0_.Periods:Nat):Int)))) (h:=hc6)) ?_)
  rcases Bool.eq_false_or_eq_true (decide (a3_<0)) with hc7|hc8
  ·exact (EP.u 3 (Zam (c:=(decide (a3_<0))) (h:=hc7)) (EP.f (by simp only [hc4,hc6,hc7];kernel_rfl)))
  exact (EP.u 3 (Zam (c:=(decide (a3_<0))) (h:=hc8)) (EP.u 5 (Zan (ys:=[Zad false a0_.Periods]) (h:=Zax eI64)) (EP.f (by simp only [hc4,hc6,hc8];kernel_rfl))))
 refine tq (it h (λhc9 h=>?_) (λhc9 h=>?_))
 ·refine sq (rg Zab.f (tq (rt (tr ?_))))
  cases h
  exact ZaA kr
 refine sk (tq (kq (sq (sq ?_))))
 obtain ⟨ad,hj,h⟩:=bs h
 refine rgR (λs=>s=⟨[(1,iv a1_),(2,iv a2_),(3,iv a3_),(4,iv a4_),(5,.loc 5 0),(59,bv ad)],[(5,(Zaj a0_))],[]⟩) ?_ ?_
 ·clear h
  obtain ⟨a1,a4,hj⟩:=bs hj
  refine (EP.v 3 (Zaz (hc:=Zhi N a0_ a1_ a2_ a1 a4)) ?_)
  rcases ZaC hj with ⟨ab,hj⟩|⟨aa,hj⟩
  ·obtain rfl:=Zao hj
   exact (EP.u 0 (Zam (c:=(!a1)) (h:=ab)) (EP.f kr))
  refine (EP.u 0 (Zam (c:=(!a1)) (h:=aa)) ?_)
  obtain ⟨a0,a3,hj⟩:=bs hj
  refine (EP.v 4 (Zaz (hc:=Zhi N a0_ a3_ a4_ a0 a3)) ?_)
  rcases ZaC hj with ⟨a9,hj⟩|⟨a8,hj⟩
  ·obtain rfl:=Zao hj
   exact (EP.u 0 (Zam (c:=(!a0)) (h:=a9)) (EP.f kr))
  refine (EP.u 0 (Zam (c:=(!a0)) (h:=a8)) ?_)
  rcases ZaC hj with ⟨a7,hj⟩|⟨a6,hj⟩
  ·obtain rfl:=Zao hj
   exact (EP.u 4 (Zam (c:=(a1_==a3_)) (h:=a7)) (EP.f kr))
  obtain rfl:=Zao hj
  exact (EP.u 4 (Zam (c:=(a1_==a3_)) (h:=a6)) (EP.f kr))
 clear hj
 rintro s hR
 obtain rfl:=hR
 refine tq (it h (λa5 h=>?_) (λa5 h=>?_))
 ·refine sq (rg Zab.f (tq (rt (tr ?_))))
  cases h
  exact ZaA kr
 refine sk (tq (kq (sq ?_)))
 obtain ⟨ac,a2,h⟩:=bs h
 refine rg (Zab.v 5 (Zaz (hc:=Zif N a0_ a1_ a2_ a3_ a4_ ac a2)) Zab.f) (tq (rt ?_))
 cases h
 exact ZaA kr
theorem Zpy (N:Nat)(a0_:Zaw)(a1_:(List Int))(r:Bool×Int)(h:ZmH N a0_ a1_=some r):Zba Tryz.prog 56 [.agg (Zaj a0_),Zad false a1_] (.tup [bv r.1,iv r.2]):=by
 unfold ZmH at h
 have hH  := hp0
 refine ZaG ZK7 rfl rfl (Zay _ _ _ ?_) rfl
 refine sq (rg Zab.f (tq (sq (sq ?_))))
 obtain ⟨r1,hr1,h⟩:=bs h
 refine rg (Zab.v 1 (Zaz (hc:=Zh0 N a0_ r1 hr1)) Zab.f) (tq (sq (rg Zab.f (tq (it h (λhc2 h=>?_) (λhc2 h=>?_))))))
 ·refine sq (rg Zab.f (tq (rt (tr ?_))))
  cases h
  exact ZaA kr
 refine sk (tq (kq (sq (sq (rg (Zab.u 1 (Zan (ys:=[Zad false a1_]) (h:=Zax eI64)) (Zab.u 2 (Zan (ys:=[Zad false a0_.Periods]) (h:=Zax eI64)) Zab.f)) (tq (it h (λhc3 h=>?_) (λhc3 h=>?_))))))))
 ·refine sq (rg Zab.f (tq (rt (tr ?_))))
  cases h
  exact ZaA kr
 refine sk (tq (kq (sq (sq (rg (Zab.u 1 (Zan (ys:=[Zad false a1_]) (h:=Zax eI64)) Zab.f) (tq (bk ?_)))))))
 obtain ⟨al,ab,h⟩:=bs h
 refine ZaT ((ZaI (λ(x:Int) s=>s=⟨[(1,Zad false a1_),(2,.loc 2 0),(24,Zad false a1_),(25,iv ((List.length a1_:Nat):Int)),(26,iv x)],[(2,(Zaj a0_))],[]⟩) (λx:Int=>Zg3 N a0_ a1_ x) (λ(p:(Unit)⊕(Bool×Int)) e s=>match p with|(.inl p)=>e=.exit 0/\(s=⟨[(1,Zad false a1_),(2,.loc 2 0)],[(2,(Zaj a0_))],[]⟩)|(.inr p)=>e=.ret/\∃ xs,resL s i56.res=some xs/\ZbV xs=.tup [bv p.1,iv p.2]) ?_ N _ al _ ab kr).mono ?_)
 ·clear h ab
  rintro i4 o s h hR
  obtain rfl:=hR
  replace h:Zg3 N a0_ a1_ i4=some o:=h
  unfold Zg3 at h
  refine sq (rg Zab.f (tq (sq (it h (λao h=>?_) (λao h=>?_)))))
  ·refine sk (tq (kq (sq (bk (sq ?_)))))
   obtain ⟨aj,ac,h⟩:=bs h
   refine rg (Zab.u 1 (Zan (ys:=[Zad false a1_,iv i4]) (h:=Zal eI64 ac)) (Zab.u 0 (Zav (sz:=1) (off:=0) (cs:=[.int .i64 aj]) (r:=iv aj) eI64 ac) Zab.f)) (tq (sq ?_))
   obtain ⟨ap,am,h⟩:=bs h
   refine rg (Zab.v 3 (Zaz (hc:=Zhi N a0_ i4 aj ap am)) Zab.f) (tq (it h (λan h=>?_) (λan h=>?_)))
   ·refine sq (rg Zab.f (tq (rt (br (tr ?_)))))
    cases h
    exact ⟨_,rfl,rfl,ZaA kr⟩
   refine sk (bn (tq (kq (rg Zab.f ?_))))
   cases h
   exact ⟨_,rfl,kr⟩
  refine kq (xq (tx ?_))
  cases h
  exact ⟨_,rfl,rfl,kr⟩
 rintro e s hq
 rcases al with ax|aq
 ·dsimp only at h hq
  obtain ⟨rfl,hR⟩:=hq
  obtain rfl:=hR
  refine bx (tq (sq (sq (rg (Zab.u 1 (Zan (ys:=[Zad false a1_]) (h:=Zax eI64)) Zab.f) (tq (bk ?_))))))
  obtain ⟨a9,a4,h⟩:=bs h
  refine ZaT ((ZaI (λ(x:Int) s=>s=⟨[(1,Zad false a1_),(2,.loc 2 0),(37,Zad false a1_),(38,iv ((List.length a1_:Nat):Int)),(39,iv x)],[(2,(Zaj a0_))],[]⟩) (λx:Int=>Zg2 N a0_ a1_ x) (λ(p:(Unit)⊕(Bool×Int)) e s=>match p with|(.inl p)=>e=.exit 2/\(s=⟨[],[],[]⟩)|(.inr p)=>e=.ret/\∃ xs,resL s i56.res=some xs/\ZbV xs=.tup [bv p.1,iv p.2]) ?_ N _ a9 _ a4 kr).mono ?_)
  ·clear h a4
   rintro a2 o s h hR
   obtain rfl:=hR
   replace h:Zg2 N a0_ a1_ a2=some o:=h
   unfold Zg2 at h
   refine sq (rg Zab.f (tq (sq (it h (λai h=>?_) (λai h=>?_)))))
   ·refine sk (tq (kq (sq (bk (sq ?_)))))
    obtain ⟨a1,a7,h⟩:=bs h
    refine rg (Zab.u 1 (Zan (ys:=[Zad false a1_,iv a2]) (h:=Zal eI64 a7)) (Zab.u 0 (Zav (sz:=1) (off:=0) (cs:=[.int .i64 a1]) (r:=iv a1) eI64 a7) Zab.f)) (tq (sq ?_))
    obtain ⟨a0,ae,h⟩:=bs h
    refine rg (Zab.u 3 (Zan (ys:=[Zad false a1_,iv (w64 (a2+1))]) (h:=ZhH eI64 ae)) (Zab.u 0 (Zan (ys:=[Zad false a0]) (h:=Zax eI64)) Zab.f)) (tq (bk ?_))
    obtain ⟨aa,a5,h⟩:=bs h
    refine ZaT ((ZaI (λ(x:Int) s=>s=⟨[(1,Zad false a1_),(2,.loc 2 0),(9,iv a2),(10,iv a1),(37,Zad false a1_),(38,iv ((List.length a1_:Nat):Int)),(39,iv a2),(47,Zad false a0),(48,iv ((List.length a0:Nat):Int)),(49,iv x)],[(2,(Zaj a0_))],[]⟩) (λx:Int=>Zg1 N a0_ a2 a1 a0 x) (λ(p:(Unit)⊕(Bool×Int)) e s=>match p with|(.inl p)=>e=.exit 4/\(s=⟨[(1,Zad false a1_),(2,.loc 2 0),(37,Zad false a1_),(38,iv ((List.length a1_:Nat):Int)),(39,iv a2)],[(2,(Zaj a0_))],[]⟩)|(.inr p)=>e=.ret/\∃ xs,resL s i56.res=some xs/\ZbV xs=.tup [bv p.1,iv p.2]) ?_ N _ aa _ a5 kr).mono ?_)
    ·clear h a5
     rintro a3 o s h hR
     obtain rfl:=hR
     replace h:Zg1 N a0_ a2 a1 a0 a3=some o:=h
     unfold Zg1 at h
     refine sq (rg Zab.f (tq (sq (it h (λag h=>?_) (λag h=>?_)))))
     ·refine sk (tq (kq (sq (bk (sq ?_)))))
      obtain ⟨a8,a6,h⟩:=bs h
      refine rg (Zab.u 1 (Zan (ys:=[Zad false a0,iv a3]) (h:=Zal eI64 a6)) (Zab.u 0 (Zav (sz:=1) (off:=0) (cs:=[.int .i64 a8]) (r:=iv a8) eI64 a6) Zab.f)) (tq (sq ?_))
      obtain ⟨ak,ad,h⟩:=bs h
      refine rg (Zab.v 5 (Zaz (hc:=Zif N a0_ a3 a8 a2 a1 ak ad)) Zab.f) (tq (it h (λaf h=>?_) (λaf h=>?_)))
      ·refine sq (rg Zab.f (tq (rt (br (tr ?_)))))
       cases h
       exact ⟨_,rfl,rfl,ZaA kr⟩
      refine sk (bn (tq (kq (rg Zab.f ?_))))
      cases h
      exact ⟨_,rfl,kr⟩
     refine kq (xq (tx ?_))
     cases h
     exact ⟨_,rfl,rfl,kr⟩
    rintro e s hq
    rcases aa with aw|av
    ·dsimp only at h hq
     obtain ⟨rfl,hR⟩:=hq
     obtain rfl:=hR
     refine bx (bn (tq (rg Zab.f ?_)))
     cases h
     exact ⟨_,rfl,kr⟩
    dsimp only at h hq
    obtain ⟨rfl,hq⟩:=hq
    refine br (br (tr ?_))
    cases h
    exact ⟨_,rfl,rfl,hq⟩
   refine kq (xq (tx ?_))
   cases h
   exact ⟨_,rfl,rfl,kr⟩
  rintro e s hq
  rcases a9 with au|ar
  ·dsimp only at h hq
   obtain ⟨rfl,hR⟩:=hq
   obtain rfl:=hR
   refine bx (tq (sq (rg Zab.f (tq (rt ?_)))))
   cases h
   exact ZaA kr
  dsimp only at h hq
  obtain ⟨rfl,hq⟩:=hq
  refine br (tr ?_)
  cases h
  exact hq
 dsimp only at h hq
 obtain ⟨rfl,hq⟩:=hq
 refine br (tr ?_)
 cases h
 exact hq
theorem ZkJ (N:Nat)(a0_:Zag)(a1_:(List Int))(a2_:Za7->Option (Bool×Int))(a2_f:Nat)(a2_p a2_c:List AV)(ha2_n:(noLocL a2_p&&noLocL a2_c)=true)(its:List Za9)(ha2_:∀ (H:List HO) (x0:Za7) (r:Bool×Int),HP H its->a2_ x0=some r->Zh7 Tryz.prog (.fn a2_f a2_p a2_c) [.agg [iv x0.Topo.Nodes,s_eB false x0.Topo.Station,Zae false x0.Topo.Links]] H (.tup [bv r.1,iv r.2]) H)(H:List HO)(hH:HP H (its))(r:Bool×Int)(h:Zd3 N a0_ a1_ a2_=some r):Zcm Tryz.prog 95 [.agg (Zac a0_),Zad false a1_,.fn a2_f a2_p a2_c] H (.tup [bv r.1,iv r.2]) H:=by
 unfold Zd3 at h
 refine ZcN ZKu rfl (by simpa [noLocL,Za3.noLocL,Za3] using ha2_n) rfl (Zay _ _ _ (sq (rg Zab.f (tq (sq (rg Zab.f (tq (sq (sq ?_)))))))))
 obtain ⟨r1,hr1,h⟩:=bs h
 refine rg (Zab.v 2 (Zaz (hc:=Zjp N a0_ a1_ r1 hr1)) Zab.f) (tq (sq (rg Zab.f (tq (it h (λhc2 h=>?_) (λhc2 h=>?_))))))
 ·refine sq (rg Zab.f (tq (rt (tr ?_))))
  cases h
  exact Zb8 kr kr
 refine sk (tq (kq (sq ?_)))
 obtain ⟨r3,hr3,h⟩:=bs h
 have hvr3:=ha2_ _ (Za7.mk a0_) _ hH hr3
 refine rg (Zab.v 3 (Zd9 (H:=H) (ys:=[.agg (Zac a0_)]) (hc:=hvr3)) Zab.f) (tq (rt ?_))
 cases h
 exact Zb8 kr kr
theorem Znu (N:Nat)(a0_:Zag)(a1_:(List Int))(r:(List Int)×Int)(h:Zee N a0_ a1_=some r):Zba Tryz.prog 105 [.agg (Zac a0_),Zad false a1_] (.tup [Zad false r.1,iv r.2]):=by
 unfold Zee at h
 have hH  := hp0
 refine ZaG ZyW rfl rfl (Zay _ _ _ ?_) rfl
 refine sq ?_
 obtain ⟨id1,H2,hid1,hH2,hH⟩:=HP.newCell hH [Zad false a1_]
 replace hH:HP _ [.cel id1 [Zad false a1_]]:=hH
 refine rg (Zab.h 1 (Zdn (H:=[]) (v:=Zad false a1_) (hid:=hid1) (hH:=hH2)) Zab.f) (tq (sq ?_))
 have hlc3:=HP.get hH 0 rfl
 obtain ⟨r4,hr4,h⟩:=bs h
 have hvr4:=(ZkK N a0_ a1_ (λx0=>Zfa N x0 a1_)   113 [] [.ptr id1 0] kr [.cel id1 [Zad false a1_]] (λH x0 r hH h=>Zh7.of kr (ZlG N  x0 a1_ id1 H hH r h)) H2 (HP.now (HP.pick hH [0] rfl)) r4 hr4)
 refine rg (Zab.u 1 (ZaD (H:=H2) (id:=id1) (off:=0) (cs:=[Zad false a1_]) (c:=[Zad false a1_]) (r:=Zad false a1_) (hl:=hlc3)) (Zab.v 1 (ZhN (H:=H2) (ys:=[.agg (Zac a0_),Zad false a1_,.fn 113 [] [.ptr id1 0]]) kr kr kr hvr4) Zab.f)) ?_
 replace hH:HP _ []:=HP.pick hH [] rfl
 refine tq (rt ?_)
 cases h
 exact ZaA kr
theorem Zcu (N:Nat)(a0_:Zaw)(a1_:Int)(a2_:Int)(r:Bool)(h:Zd6 N a0_ a1_ a2_=some r):Zba Tryz.prog 32 [.agg (Zaj a0_),iv a1_,iv a2_] (bv r):=by
 unfold Zd6 at h
 have hH  := hp0
 refine ZaG ZLv rfl rfl (Zay _ _ _ ?_) rfl
 refine sq (rg Zab.f (tq (sq ?_)))
 obtain ⟨r1,hr1,h⟩:=bs h
 refine rg (Zab.v 3 (Zaz (hc:=ZlT N a0_ 0 a1_ 1 a2_ r1 hr1)) Zab.f) (tq (sq (rgX ⟨[(6,bv (r1.1&&(r1.2==0)))],[],[]⟩ ?_ ?_)))
 ·rcases Bool.eq_false_or_eq_true r1.1 with hc2|hc3
  ·exact (EP.u 0 (Zam (c:=r1.1) (h:=hc2)) (EP.f (by simp only [hc2];kernel_rfl)))
  exact (EP.u 0 (Zam (c:=r1.1) (h:=hc3)) (EP.f (by simp only [hc3];kernel_rfl)))
 refine tq (rt ?_)
 cases h
 exact ZaA kr
theorem Zfk (N:Nat)(a0_:Zaw)(a1_:(List Int))(r:Bool)(h:ZhF N a0_ a1_=some r):Zba Tryz.prog 33 [.agg (Zaj a0_),Zad false a1_] (bv r):=by
 unfold ZhF at h
 have hH  := hp0
 refine ZaG ZLu rfl rfl (Zay _ _ _ ?_) rfl
 refine sq (rg Zab.f (tq (sq ?_)))
 obtain ⟨r1,hr1,h⟩:=bs h
 refine rg (Zab.v 2 (Zaz (hc:=Zpy N a0_ a1_ r1 hr1)) Zab.f) (tq (sq (rgX ⟨[(4,bv (r1.1&&(r1.2==0)))],[],[]⟩ ?_ ?_)))
 ·rcases Bool.eq_false_or_eq_true r1.1 with hc2|hc3
  ·exact (EP.u 0 (Zam (c:=r1.1) (h:=hc2)) (EP.f (by simp only [hc2];kernel_rfl)))
  exact (EP.u 0 (Zam (c:=r1.1) (h:=hc3)) (EP.f (by simp only [hc3];kernel_rfl)))
 refine tq (rt ?_)
 cases h
 exact ZaA kr
theorem Zny (N:Nat)(a0_:Zag)(a1_:(List Int))(a2_:(List Int))(r:Bool×Int)(h:Zeg N a0_ a1_ a2_=some r):Zba Tryz.prog 79 [.agg (Zac a0_),Zad false a1_,Zad false a2_] (.tup [bv r.1,iv r.2]):=by
 unfold Zeg at h
 have hH  := hp0
 refine ZaG ZKK rfl rfl (Zay _ _ _ ?_) rfl
 refine sq ?_
 obtain ⟨id1,H2,hid1,hH2,hH⟩:=HP.newCell hH [Zad false a1_]
 replace hH:HP _ [.cel id1 [Zad false a1_]]:=hH
 obtain ⟨id3,H4,hid3,hH4,hH⟩:=HP.newCell hH [Zad false a2_]
 replace hH:HP _ [.cel id3 [Zad false a2_],.cel id1 [Zad false a1_]]:=hH
 refine rg (Zab.h 1 (Zdn (H:=[]) (v:=Zad false a1_) (hid:=hid1) (hH:=hH2)) (Zab.h 0 (Zdn (H:=H2) (v:=Zad false a2_) (hid:=hid3) (hH:=hH4)) Zab.f)) (tq (sq ?_))
 have hlc5:=HP.get hH 1 rfl
 obtain ⟨r6,hr6,h⟩:=bs h
 have hvr6:=(ZkJ N a0_ a1_ (λx0=>Zeq N x0 a2_ a1_)   96 [] [.ptr id3 0,.ptr id1 0] kr [.cel id3 [Zad false a2_],.cel id1 [Zad false a1_]] (λH x0 r hH h=>Zh7.of kr (ZlH N  x0 a2_ a1_ id3 id1 H hH r h)) H4 (HP.now (HP.pick hH [0,1] rfl)) r6 hr6)
 refine rg (Zab.u 1 (ZaD (H:=H4) (id:=id1) (off:=0) (cs:=[Zad false a1_]) (c:=[Zad false a1_]) (r:=Zad false a1_) (hl:=hlc5)) (Zab.v 1 (ZhN (H:=H4) (ys:=[.agg (Zac a0_),Zad false a1_,.fn 96 [] [.ptr id3 0,.ptr id1 0]]) kr kr kr hvr6) Zab.f)) ?_
 replace hH:HP _ []:=HP.pick hH [] rfl
 refine tq (rt ?_)
 cases h
 exact ZaA kr
theorem Zoy (N:Nat)(a0_:Zag)(a1_:(List Int))(r:Int×Int×Int)(h:Zep N a0_ a1_=some r):Zba Tryz.prog 94 [.agg (Zac a0_),Zad false a1_] (.tup [iv r.1,iv r.2.1,iv r.2.2]):=by
 unfold Zep at h
 have hH  := hp0
 refine ZaG ZKv rfl rfl (Zay _ _ _ ?_) rfl
 refine sq (rg Zab.f (tq (sq ?_)))
 obtain ⟨r1,hr1,h⟩:=bs h
 refine rg (Zab.v 2 (Zaz (hc:=Znu N a0_ a1_ r1 hr1)) Zab.f) (tq (sq (sq (rg Zab.f (tq (it h (λhc2 h=>?_) (λhc2 h=>?_)))))))
 ·refine sq (rg Zab.f (tq (rt (tr ?_))))
  cases h
  exact ZaA kr
 refine sk (tq (kq (sq ?_)))
 obtain ⟨e3,he3,h⟩:=bs h
 obtain ⟨e4,he4,h⟩:=bs h
 refine rq (Zab.u 1 (Zan (ys:=[Zad false r1.1,iv 0]) (h:=Zal eI64 he3)) (Zab.u 0 (ZaK (Zav (sz:=1) (off:=0) (cs:=[.int .i64 e3]) (r:=iv e3) eI64 he3)) (Zab.u 2 (Zan (ys:=[Zad false r1.1]) (h:=Zax eI64)) (Zab.u 1 (Zan (ys:=[Zad false r1.1,iv (w64 (((List.length r1.1:Nat):Int)-1))]) (h:=Zal eI64 he4)) (Zab.u 0 (ZaK (Zav (sz:=1) (off:=0) (cs:=[.int .i64 e4]) (r:=iv e4) eI64 he4)) Zab.f))))) (tq (rt ?_))
 cases h
 exact ZaA kr
theorem Zmh (N:Nat)(a0_:Zag)(a1_:(List Int))(a2_:Int)(a3_:Int)(r:Bool)(h:ZfU N a0_ a1_ a2_ a3_=some r):Zba Tryz.prog 77 [.agg (Zac a0_),Zad false a1_,iv a2_,iv a3_] (bv r):=by
 unfold ZfU at h
 have hH  := hp0
 refine ZaG ZKM rfl rfl (Zay _ _ _ ?_) rfl
 refine sq (rg Zab.f (tq (sq ?_)))
 obtain ⟨r1,hr1,h⟩:=bs h
 refine rg (Zab.v 2 (Zaz (hc:=Zoy N a0_ a1_ r1 hr1)) Zab.f) (tq (sq (rgX ⟨[(8,bv ((r1.2.2==0)&&((r1.1==a2_)&&(r1.2.1==a3_))))],[],[]⟩ ?_ ?_)))
 ·rcases Bool.eq_false_or_eq_true (r1.2.2==0) with hc2|hc5
  ·refine (EP.u 1 (Zam (c:=(r1.2.2==0)) (h:=hc2)) ?_)
   rcases Bool.eq_false_or_eq_true (r1.1==a2_) with hc3|hc4
   ·exact (EP.u 3 (Zam (c:=(r1.1==a2_)) (h:=hc3)) (EP.f (by simp only [hc2,hc3];kernel_rfl)))
   exact (EP.u 3 (Zam (c:=(r1.1==a2_)) (h:=hc4)) (EP.f (by simp only [hc2,hc4];kernel_rfl)))
  exact (EP.u 1 (Zam (c:=(r1.2.2==0)) (h:=hc5)) (EP.f (by simp only [hc5];kernel_rfl)))
 refine tq (rt ?_)
 cases h
 exact ZaA kr
theorem Zkx (N:Nat)(c0_:Zah)(c1_:Zag)(k0_:Nat)(k1_:Nat)(H:List HO)(hH:HP H [.cel k0_ (Zai c0_),.cel k1_ (Zac c1_)])(r:Bool)(h:ZeC N c0_ c1_=some r):Zcm Tryz.prog 78 [.ptr k0_ 0,.ptr k1_ 0] H (bv r) H:=by
 unfold ZeC at h
 refine ZcN ZKL rfl rfl rfl (Zay _ _ _ (sq (rg Zab.f (tq (sq (sq ?_))))))
 have hlc1:=HP.get hH 0 rfl
 refine rg (Zab.u 1 (ZaD (H:=H) (id:=k0_) (off:=9) (cs:=(Zai c0_)) (c:=[Zaq false c0_.Routes]) (r:=Zaq false c0_.Routes) (hl:=hlc1)) (Zab.u 0 (Zan (ys:=[Zaq false c0_.Routes]) (h:=Zax (eSl 1 eI64))) Zab.f)) (tq (it h (λhc2 h=>?_) (λhc2 h=>?_)))
 ·refine sq (rg Zab.f ?_)
  replace hH:HP _ []:=HP.pick hH [] rfl
  refine tq (rt (tr ?_))
  cases h
  exact Zb8 kr kr
 refine sk (tq (kq (sq ?_)))
 have hlc3:=HP.get hH 1 rfl
 have hlc4:=HP.get hH 0 rfl
 obtain ⟨e5,he5,h⟩:=bs h
 have hlc6:=HP.get hH 0 rfl
 obtain ⟨e7,he7,h⟩:=bs h
 obtain ⟨r8,hr8,h⟩:=bs h
 refine rq (Zab.u 0 (ZaK (ZaD (H:=H) (id:=k1_) (off:=0) (cs:=(Zac c1_)) (c:=(Zac c1_)) (r:=.agg (Zac c1_)) (hl:=hlc3))) (Zab.u 1 (ZaK (ZaD (H:=H) (id:=k0_) (off:=9) (cs:=(Zai c0_)) (c:=[Zaq false c0_.Routes]) (r:=Zaq false c0_.Routes) (hl:=hlc4))) (Zab.u 0 (Zan (ys:=[Zaq false c0_.Routes,iv 0]) (h:=Zal (eSl 1 eI64) he5)) (Zab.u 0 (ZaK (Zav (sz:=1) (off:=0) (cs:=[.sl 1 false (List.map eI64 e5)]) (r:=Zad false e5) (eSl 1 eI64) he5)) (Zab.u 1 (ZaK (ZaD (H:=H) (id:=k0_) (off:=9) (cs:=(Zai c0_)) (c:=[Zaq false c0_.Routes]) (r:=Zaq false c0_.Routes) (hl:=hlc6))) (Zab.u 0 (Zan (ys:=[Zaq false c0_.Routes,iv 1]) (h:=Zal (eSl 1 eI64) he7)) (Zab.u 0 (ZaK (Zav (sz:=1) (off:=0) (cs:=[.sl 1 false (List.map eI64 e7)]) (r:=Zad false e7) (eSl 1 eI64) he7)) (Zab.v 0 (Zaz (hc:=Zny N c1_ e5 e7 r8 hr8)) Zab.f)))))))) ?_
 replace hH:HP _ []:=HP.pick hH [] rfl
 refine tq (sq (rgX ⟨[(2,bv ((r8.2==0)&&r8.1))],[],H⟩ ?_ ?_))
 ·rcases Bool.eq_false_or_eq_true (r8.2==0) with hc9|a0
  ·exact (EP.u 1 (Zam (c:=(r8.2==0)) (h:=hc9)) (EP.f (by simp only [hc9];kernel_rfl)))
  exact (EP.u 1 (Zam (c:=(r8.2==0)) (h:=a0)) (EP.f (by simp only [a0];kernel_rfl)))
 refine tq (rt ?_)
 cases h
 exact Zb8 kr kr
theorem Zkz (N:Nat)(c0_:Zah)(c1_:Zag)(k0_:Nat)(k1_:Nat)(H:List HO)(hH:HP H [.cel k0_ (Zai c0_),.cel k1_ (Zac c1_)])(r:Bool)(h:ZeD N c0_ c1_=some r):Zcm Tryz.prog 76 [.ptr k0_ 0,.ptr k1_ 0] H (bv r) H:=by
 unfold ZeD at h
 refine ZcN ZKN rfl rfl rfl (Zay _ _ _ (sq (rg Zab.f (tq (sq (sq ?_))))))
 have hlc1:=HP.get hH 0 rfl
 refine rg (Zab.u 1 (ZaD (H:=H) (id:=k0_) (off:=9) (cs:=(Zai c0_)) (c:=[Zaq false c0_.Routes]) (r:=Zaq false c0_.Routes) (hl:=hlc1)) (Zab.u 0 (Zan (ys:=[Zaq false c0_.Routes]) (h:=Zax (eSl 1 eI64))) Zab.f)) (tq (bk ?_))
 obtain ⟨a6,a0,h⟩:=bs h
 refine ZaT ((ZaI (λ(x:Int) s=>s=⟨[(0,.ptr k0_ 0),(1,.ptr k1_ 0),(6,Zaq false c0_.Routes),(7,iv ((List.length c0_.Routes:Nat):Int)),(8,iv x)],[],H⟩) (λx:Int=>Zcp N c0_ c1_ x) (λ(p:(Unit)⊕(Bool)) e s=>match p with|(.inl p)=>e=.exit 0/\(s=⟨[],[],H⟩)|(.inr p)=>e=.ret/\∃ xs,rawL s i76.res=some xs/\ZbV (weakVs xs)=bv p/\s.H=H) ?_ N _ a6 _ a0 kr).mono ?_)
 ·clear h a0
  rintro i2 o s h hR
  obtain rfl:=hR
  replace h:Zcp N c0_ c1_ i2=some o:=h
  unfold Zcp at h
  refine sq (rg Zab.f (tq (sq (it h (λa9 h=>?_) (λa9 h=>?_)))))
  ·refine sk (tq (kq (sq (bk (sq ?_)))))
   obtain ⟨a5,a1,h⟩:=bs h
   refine rg (Zab.u 0 (Zan (ys:=[Zaq false c0_.Routes,iv i2]) (h:=Zal (eSl 1 eI64) a1)) (Zab.u 0 (Zav (sz:=1) (off:=0) (cs:=[.sl 1 false (List.map eI64 a5)]) (r:=Zad false a5) (eSl 1 eI64) a1) Zab.f)) (tq (sq ?_))
   have a4:=HP.get hH 1 rfl
   have a3:=HP.get hH 0 rfl
   have a2:=HP.get hH 0 rfl
   obtain ⟨aa,a7,h⟩:=bs h
   refine rg (Zab.u 0 (ZaD (H:=H) (id:=k1_) (off:=0) (cs:=(Zac c1_)) (c:=(Zac c1_)) (r:=.agg (Zac c1_)) (hl:=a4)) (Zab.u 2 (ZaD (H:=H) (id:=k0_) (off:=1) (cs:=(Zai c0_)) (c:=[iv c0_.Talker]) (r:=iv c0_.Talker) (hl:=a3)) (Zab.u 1 (ZaD (H:=H) (id:=k0_) (off:=2) (cs:=(Zai c0_)) (c:=[iv c0_.Listener]) (r:=iv c0_.Listener) (hl:=a2)) (Zab.v 0 (Zaz (hc:=Zmh N c1_ a5 c0_.Talker c0_.Listener aa a7)) Zab.f)))) (tq (it h (λa8 h=>?_) (λa8 h=>?_)))
   ·refine sq (rg Zab.f ?_)
    replace hH:HP _ []:=HP.pick hH [] rfl
    refine tq (rt (br (tr ?_)))
    cases h
    exact ⟨_,rfl,rfl,Zb8 kr kr⟩
   refine sk (bn (tq (kq (rg Zab.f ?_))))
   cases h
   exact ⟨_,rfl,kr⟩
  refine kq ?_
  replace hH:HP _ []:=HP.pick hH [] rfl
  refine xq (tx ?_)
  cases h
  exact ⟨_,rfl,rfl,kr⟩
 rintro e s hq
 rcases a6 with ac|ab
 ·dsimp only at h hq
  obtain ⟨rfl,hR⟩:=hq
  obtain rfl:=hR
  replace hH:HP _ []:=HP.pick hH [] rfl
  refine bx (tq (sq (rg Zab.f (tq (rt ?_)))))
  cases h
  exact Zb8 kr kr
 dsimp only at h hq
 obtain ⟨rfl,hq⟩:=hq
 refine br (tr ?_)
 cases h
 exact hq
theorem Zip (N:Nat)(a0_:Zag)(a1_:Zah)(r:Bool)(h:ZeX N a0_ a1_=some r):Zba Tryz.prog 45 [.agg (Zac a0_),.agg (Zai a1_)] (bv r):=by
 unfold ZeX at h
 have hH  := hp0
 refine ZaG ZLi rfl rfl (Zay _ _ _ ?_) rfl
 refine sq ?_
 obtain ⟨id1,H2,hid1,hH2,hH⟩:=HP.newCell hH (Zac a0_)
 replace hH:HP _ [.cel id1 (Zac a0_)]:=hH
 obtain ⟨id3,H4,hid3,hH4,hH⟩:=HP.newCell hH (Zai a1_)
 replace hH:HP _ [.cel id3 (Zai a1_),.cel id1 (Zac a0_)]:=hH
 refine rg (Zab.h 0 (Zdn (H:=[]) (v:=.agg (Zac a0_)) (hid:=hid1) (hH:=hH2)) (Zab.h 0 (Zdn (H:=H2) (v:=.agg (Zai a1_)) (hid:=hid3) (hH:=hH4)) Zab.f)) (tq (sq ?_))
 obtain ⟨id5,H6,hid5,hH6,hH⟩:=HP.newCell hH [.fn 68 [] [.ptr id3 0],.fn 69 [] [.ptr id1 0,.ptr id3 0],.fn 71 [] [.ptr id3 0],.fn 72 [] [.ptr id3 0],.fn 73 [] [.ptr id3 0],.fn 75 [] [.ptr id3 0],.fn 76 [] [.ptr id3 0,.ptr id1 0],.fn 78 [] [.ptr id3 0,.ptr id1 0]]
 replace hH:HP _ [.cel id5 [.fn 68 [] [.ptr id3 0],.fn 69 [] [.ptr id1 0,.ptr id3 0],.fn 71 [] [.ptr id3 0],.fn 72 [] [.ptr id3 0],.fn 73 [] [.ptr id3 0],.fn 75 [] [.ptr id3 0],.fn 76 [] [.ptr id3 0,.ptr id1 0],.fn 78 [] [.ptr id3 0,.ptr id1 0]],.cel id3 (Zai a1_),.cel id1 (Zac a0_)]:=hH
 refine rg (Zab.h 8 (ZtN (H:=H4) (ys:=[.fn 68 [] [.ptr id3 0],.fn 69 [] [.ptr id1 0,.ptr id3 0],.fn 71 [] [.ptr id3 0],.fn 72 [] [.ptr id3 0],.fn 73 [] [.ptr id3 0],.fn 75 [] [.ptr id3 0],.fn 76 [] [.ptr id3 0,.ptr id1 0],.fn 78 [] [.ptr id3 0,.ptr id1 0]]) kr kr kr hid5 hH6) Zab.f) (tq (sq (sq (rg Zab.f (tq (bk (Ze6 18 (Zbl (sq (rg Zab.f (tq (sq (Zco kr (sk (tq (kq (sq (bk (sq ?_)))))))))))))))))))
 have hlc7:=HP.get hH 0 rfl
 refine rg (Zab.u 1 (ZaD (H:=H6) (id:=id5) (off:=0) (cs:=[.fn 68 [] [.ptr id3 0],.fn 69 [] [.ptr id1 0,.ptr id3 0],.fn 71 [] [.ptr id3 0],.fn 72 [] [.ptr id3 0],.fn 73 [] [.ptr id3 0],.fn 75 [] [.ptr id3 0],.fn 76 [] [.ptr id3 0,.ptr id1 0],.fn 78 [] [.ptr id3 0,.ptr id1 0]]) (c:=[.fn 68 [] [.ptr id3 0]]) (r:=.fn 68 [] [.ptr id3 0]) (hl:=hlc7)) Zab.f) (tq (sq ?_))
 obtain ⟨r8,hr8,h⟩:=bs h
 have hvr8:=(ZkG N  a1_ id3 H6 (HP.now (HP.pick hH [1] rfl)) r8 hr8)
 refine rg (Zab.v 1 (Zd9 (H:=H6) (fv:=.fn 68 [] [.ptr id3 0]) (ys:=[]) (hc:=Zh7.of kr hvr8)) Zab.f) (tq (it h (λhc9 h=>?_) (λhc9 h=>?_)))
 ·refine sq (rg Zab.f ?_)
  replace hH:HP _ []:=HP.pick hH [] rfl
  refine tq (rt (br (tr (tr (br (tr ?_))))))
  cases h
  exact ZaA kr
 refine sk (bn (tq (kq (rg Zab.f (tq (Zbl (sq (rg Zab.f (tq (sq (Zco kr (sk (tq (kq (sq (bk (sq ?_)))))))))))))))))
 have ad:=HP.get hH 0 rfl
 refine rg (Zab.u 1 (ZaD (H:=H6) (id:=id5) (off:=1) (cs:=[.fn 68 [] [.ptr id3 0],.fn 69 [] [.ptr id1 0,.ptr id3 0],.fn 71 [] [.ptr id3 0],.fn 72 [] [.ptr id3 0],.fn 73 [] [.ptr id3 0],.fn 75 [] [.ptr id3 0],.fn 76 [] [.ptr id3 0,.ptr id1 0],.fn 78 [] [.ptr id3 0,.ptr id1 0]]) (c:=[.fn 69 [] [.ptr id1 0,.ptr id3 0]]) (r:=.fn 69 [] [.ptr id1 0,.ptr id3 0]) (hl:=ad)) Zab.f) (tq (sq ?_))
 obtain ⟨aB,al,h⟩:=bs h
 have a6:=(ZkF N  a0_ a1_ id1 id3 H6 (HP.now (HP.pick hH [2,1] rfl)) aB al)
 refine rg (Zab.v 1 (Zd9 (H:=H6) (fv:=.fn 69 [] [.ptr id1 0,.ptr id3 0]) (ys:=[]) (hc:=Zh7.of kr a6)) Zab.f) (tq (it h (λau h=>?_) (λau h=>?_)))
 ·refine sq (rg Zab.f ?_)
  replace hH:HP _ []:=HP.pick hH [] rfl
  refine tq (rt (br (tr (tr (br (tr ?_))))))
  cases h
  exact ZaA kr
 refine sk (bn (tq (kq (rg Zab.f (tq (Zbl (sq (rg Zab.f (tq (sq (Zco kr (sk (tq (kq (sq (bk (sq ?_)))))))))))))))))
 have ac:=HP.get hH 0 rfl
 refine rg (Zab.u 1 (ZaD (H:=H6) (id:=id5) (off:=2) (cs:=[.fn 68 [] [.ptr id3 0],.fn 69 [] [.ptr id1 0,.ptr id3 0],.fn 71 [] [.ptr id3 0],.fn 72 [] [.ptr id3 0],.fn 73 [] [.ptr id3 0],.fn 75 [] [.ptr id3 0],.fn 76 [] [.ptr id3 0,.ptr id1 0],.fn 78 [] [.ptr id3 0,.ptr id1 0]]) (c:=[.fn 71 [] [.ptr id3 0]]) (r:=.fn 71 [] [.ptr id3 0]) (hl:=ac)) Zab.f) (tq (sq ?_))
 obtain ⟨aA,ak,h⟩:=bs h
 have a5:=(ZkE N  a1_ id3 H6 (HP.now (HP.pick hH [1] rfl)) aA ak)
 refine rg (Zab.v 1 (Zd9 (H:=H6) (fv:=.fn 71 [] [.ptr id3 0]) (ys:=[]) (hc:=Zh7.of kr a5)) Zab.f) (tq (it h (λar h=>?_) (λar h=>?_)))
 ·refine sq (rg Zab.f ?_)
  replace hH:HP _ []:=HP.pick hH [] rfl
  refine tq (rt (br (tr (tr (br (tr ?_))))))
  cases h
  exact ZaA kr
 refine sk (bn (tq (kq (rg Zab.f (tq (Zbl (sq (rg Zab.f (tq (sq (Zco kr (sk (tq (kq (sq (bk (sq ?_)))))))))))))))))
 have ab:=HP.get hH 0 rfl
 refine rg (Zab.u 1 (ZaD (H:=H6) (id:=id5) (off:=3) (cs:=[.fn 68 [] [.ptr id3 0],.fn 69 [] [.ptr id1 0,.ptr id3 0],.fn 71 [] [.ptr id3 0],.fn 72 [] [.ptr id3 0],.fn 73 [] [.ptr id3 0],.fn 75 [] [.ptr id3 0],.fn 76 [] [.ptr id3 0,.ptr id1 0],.fn 78 [] [.ptr id3 0,.ptr id1 0]]) (c:=[.fn 72 [] [.ptr id3 0]]) (r:=.fn 72 [] [.ptr id3 0]) (hl:=ab)) Zab.f) (tq (sq ?_))
 obtain ⟨az,aj,h⟩:=bs h
 have a4:=(ZkD N  a1_ id3 H6 (HP.now (HP.pick hH [1] rfl)) az aj)
 refine rg (Zab.v 1 (Zd9 (H:=H6) (fv:=.fn 72 [] [.ptr id3 0]) (ys:=[]) (hc:=Zh7.of kr a4)) Zab.f) (tq (it h (λaq h=>?_) (λaq h=>?_)))
 ·refine sq (rg Zab.f ?_)
  replace hH:HP _ []:=HP.pick hH [] rfl
  refine tq (rt (br (tr (tr (br (tr ?_))))))
  cases h
  exact ZaA kr
 refine sk (bn (tq (kq (rg Zab.f (tq (Zbl (sq (rg Zab.f (tq (sq (Zco kr (sk (tq (kq (sq (bk (sq ?_)))))))))))))))))
 have aa:=HP.get hH 0 rfl
 refine rg (Zab.u 1 (ZaD (H:=H6) (id:=id5) (off:=4) (cs:=[.fn 68 [] [.ptr id3 0],.fn 69 [] [.ptr id1 0,.ptr id3 0],.fn 71 [] [.ptr id3 0],.fn 72 [] [.ptr id3 0],.fn 73 [] [.ptr id3 0],.fn 75 [] [.ptr id3 0],.fn 76 [] [.ptr id3 0,.ptr id1 0],.fn 78 [] [.ptr id3 0,.ptr id1 0]]) (c:=[.fn 73 [] [.ptr id3 0]]) (r:=.fn 73 [] [.ptr id3 0]) (hl:=aa)) Zab.f) (tq (sq ?_))
 obtain ⟨ay,ai,h⟩:=bs h
 have a3:=(ZkC N  a1_ id3 H6 (HP.now (HP.pick hH [1] rfl)) ay ai)
 refine rg (Zab.v 1 (Zd9 (H:=H6) (fv:=.fn 73 [] [.ptr id3 0]) (ys:=[]) (hc:=Zh7.of kr a3)) Zab.f) (tq (it h (λap h=>?_) (λap h=>?_)))
 ·refine sq (rg Zab.f ?_)
  replace hH:HP _ []:=HP.pick hH [] rfl
  refine tq (rt (br (tr (tr (br (tr ?_))))))
  cases h
  exact ZaA kr
 refine sk (bn (tq (kq (rg Zab.f (tq (Zbl (sq (rg Zab.f (tq (sq (Zco kr (sk (tq (kq (sq (bk (sq ?_)))))))))))))))))
 have a9:=HP.get hH 0 rfl
 refine rg (Zab.u 1 (ZaD (H:=H6) (id:=id5) (off:=5) (cs:=[.fn 68 [] [.ptr id3 0],.fn 69 [] [.ptr id1 0,.ptr id3 0],.fn 71 [] [.ptr id3 0],.fn 72 [] [.ptr id3 0],.fn 73 [] [.ptr id3 0],.fn 75 [] [.ptr id3 0],.fn 76 [] [.ptr id3 0,.ptr id1 0],.fn 78 [] [.ptr id3 0,.ptr id1 0]]) (c:=[.fn 75 [] [.ptr id3 0]]) (r:=.fn 75 [] [.ptr id3 0]) (hl:=a9)) Zab.f) (tq (sq ?_))
 obtain ⟨ax,ag,h⟩:=bs h
 have a2:=(ZkB N  a1_ id3 H6 (HP.now (HP.pick hH [1] rfl)) ax ag)
 refine rg (Zab.v 1 (Zd9 (H:=H6) (fv:=.fn 75 [] [.ptr id3 0]) (ys:=[]) (hc:=Zh7.of kr a2)) Zab.f) (tq (it h (λao h=>?_) (λao h=>?_)))
 ·refine sq (rg Zab.f ?_)
  replace hH:HP _ []:=HP.pick hH [] rfl
  refine tq (rt (br (tr (tr (br (tr ?_))))))
  cases h
  exact ZaA kr
 refine sk (bn (tq (kq (rg Zab.f (tq (Zbl (sq (rg Zab.f (tq (sq (Zco kr (sk (tq (kq (sq (bk (sq ?_)))))))))))))))))
 have a8:=HP.get hH 0 rfl
 refine rg (Zab.u 1 (ZaD (H:=H6) (id:=id5) (off:=6) (cs:=[.fn 68 [] [.ptr id3 0],.fn 69 [] [.ptr id1 0,.ptr id3 0],.fn 71 [] [.ptr id3 0],.fn 72 [] [.ptr id3 0],.fn 73 [] [.ptr id3 0],.fn 75 [] [.ptr id3 0],.fn 76 [] [.ptr id3 0,.ptr id1 0],.fn 78 [] [.ptr id3 0,.ptr id1 0]]) (c:=[.fn 76 [] [.ptr id3 0,.ptr id1 0]]) (r:=.fn 76 [] [.ptr id3 0,.ptr id1 0]) (hl:=a8)) Zab.f) (tq (sq ?_))
 obtain ⟨aw,af,h⟩:=bs h
 have a1:=(Zkz N  a1_ a0_ id3 id1 H6 (HP.now (HP.pick hH [1,2] rfl)) aw af)
 refine rg (Zab.v 1 (Zd9 (H:=H6) (fv:=.fn 76 [] [.ptr id3 0,.ptr id1 0]) (ys:=[]) (hc:=Zh7.of kr a1)) Zab.f) (tq (it h (λan h=>?_) (λan h=>?_)))
 ·refine sq (rg Zab.f ?_)
  replace hH:HP _ []:=HP.pick hH [] rfl
  refine tq (rt (br (tr (tr (br (tr ?_))))))
  cases h
  exact ZaA kr
 refine sk (bn (tq (kq (rg Zab.f (tq (Zbl (sq (rg Zab.f (tq (sq (Zco kr (sk (tq (kq (sq (bk (sq ?_)))))))))))))))))
 have a7:=HP.get hH 0 rfl
 refine rg (Zab.u 1 (ZaD (H:=H6) (id:=id5) (off:=7) (cs:=[.fn 68 [] [.ptr id3 0],.fn 69 [] [.ptr id1 0,.ptr id3 0],.fn 71 [] [.ptr id3 0],.fn 72 [] [.ptr id3 0],.fn 73 [] [.ptr id3 0],.fn 75 [] [.ptr id3 0],.fn 76 [] [.ptr id3 0,.ptr id1 0],.fn 78 [] [.ptr id3 0,.ptr id1 0]]) (c:=[.fn 78 [] [.ptr id3 0,.ptr id1 0]]) (r:=.fn 78 [] [.ptr id3 0,.ptr id1 0]) (hl:=a7)) Zab.f) (tq (sq ?_))
 obtain ⟨av,ae,h⟩:=bs h
 have a0:=(Zkx N  a1_ a0_ id3 id1 H6 (HP.now (HP.pick hH [1,2] rfl)) av ae)
 refine rg (Zab.v 1 (Zd9 (H:=H6) (fv:=.fn 78 [] [.ptr id3 0,.ptr id1 0]) (ys:=[]) (hc:=Zh7.of kr a0)) Zab.f) (tq (it h (λam h=>?_) (λam h=>?_)))
 ·refine sq (rg Zab.f ?_)
  replace hH:HP _ []:=HP.pick hH [] rfl
  refine tq (rt (br (tr (tr (br (tr ?_))))))
  cases h
  exact ZaA kr
 refine sk (bn (tq (kq (rg Zab.f (tq (Zbl (sq (rg Zab.f (tq (sq (Ze7 kr (kq ?_))))))))))))
 replace hH:HP _ []:=HP.pick hH [] rfl
 refine xq (tx (tx (bx (tq (sq (rg Zab.f (tq (rt ?_))))))))
 cases h
 exact ZaA kr
theorem ZgS (N:Nat)(a0_:Zag)(a1_:(List Zah))(r:Int)(h:ZdB N a0_ a1_=some r):Zba Tryz.prog 18 [.agg (Zac a0_),Zaf false a1_] (iv r):=by
 unfold ZdB at h
 have hH  := hp0
 refine ZaG ZLJ rfl rfl (Zay _ _ _ ?_) rfl
 refine sq (rg Zab.f (tq (sq (sq ?_))))
 obtain ⟨r1,hr1,h⟩:=bs h
 refine rg (Zab.v 1 (Zaz (hc:=ZhI N a0_ r1 hr1)) Zab.f) (tq (sq (rg Zab.f (tq (it h (λhc2 h=>?_) (λhc2 h=>?_))))))
 ·refine sq (rg Zab.f (tq (rt (tr ?_))))
  cases h
  exact ZaA kr
 refine sk (tq (kq (sq (sq (rg (Zab.u 1 (Zan (ys:=[Zaf false a1_]) (h:=Zax Zar)) Zab.f) (tq (it h (λhc3 h=>?_) (λhc3 h=>?_))))))))
 ·refine sq (rg Zab.f (tq (rt (tr ?_))))
  cases h
  exact ZaA kr
 refine sk (tq (kq (sq (sq (rg (Zab.u 1 (Zan (ys:=[Zaf false a1_]) (h:=Zax Zar)) Zab.f) (tq (bk ?_)))))))
 obtain ⟨ai,ab,h⟩:=bs h
 refine ZaT ((ZaI (λ(x:Int) s=>s=⟨[(1,Zaf false a1_),(2,.loc 2 0),(19,Zaf false a1_),(20,iv ((List.length a1_:Nat):Int)),(21,iv x)],[(2,(Zac a0_))],[]⟩) (λx:Int=>Zcc N a0_ a1_ x) (λ(p:(Unit)⊕(Int)) e s=>match p with|(.inl p)=>e=.exit 0/\(s=⟨[(1,Zaf false a1_)],[],[]⟩)|(.inr p)=>e=.ret/\∃ xs,resL s i18.res=some xs/\ZbV xs=iv p) ?_ N _ ai _ ab kr).mono ?_)
 ·clear h ab
  rintro i4 o s h hR
  obtain rfl:=hR
  replace h:Zcc N a0_ a1_ i4=some o:=h
  unfold Zcc at h
  refine sq (rg Zab.f (tq (sq (it h (λam h=>?_) (λam h=>?_)))))
  ·refine sk (tq (kq (sq (bk (sq ?_)))))
   obtain ⟨a1,ac,h⟩:=bs h
   refine rg (Zab.u 0 (Zan (ys:=[Zaf false a1_,iv i4]) (h:=Zal Zar ac)) (Zab.u 0 (Zav (sz:=10) (off:=0) (cs:=[.int .i64 a1.Id,.int .i64 a1.Talker,.int .i64 a1.Listener,.int .i64 a1.Class,.int .i64 a1.Size,.int .i64 a1.Period,.int .i64 a1.Bucket.Burst,.int .i64 a1.Bucket.Rate,.int .i64 a1.Deadline,.sl 1 false (List.map (eSl 1 eI64) a1.Routes)]) (r:=.agg (Zai a1)) Zar ac) Zab.f)) (tq (sq ?_))
   obtain ⟨ap,ak,h⟩:=bs h
   refine rg (Zab.v 2 (Zaz (hc:=Zip N a0_ a1 ap ak)) Zab.f) (tq (it h (λal h=>?_) (λal h=>?_)))
   ·refine sq (rg Zab.f (tq (rt (br (tr ?_)))))
    cases h
    exact ⟨_,rfl,rfl,ZaA kr⟩
   refine sk (bn (tq (kq (rg Zab.f ?_))))
   cases h
   exact ⟨_,rfl,kr⟩
  refine kq (xq (tx ?_))
  cases h
  exact ⟨_,rfl,rfl,kr⟩
 rintro e s hq
 rcases ai with aw|ar
 ·dsimp only at h hq
  obtain ⟨rfl,hR⟩:=hq
  obtain rfl:=hR
  refine bx (tq (sq ?_))
  obtain ⟨a2,aq,ad,an,hH⟩:=HP.newMp hH 0
  replace hH:HP _ [mpT a2 0 (encE ke1 bv [])]:=hH
  refine rg (Zab.h 0 (st_mkMap' (H:=[]) 0 kr ad an) Zab.f) (tq (sq (sq (rg (Zab.u 1 (Zan (ys:=[Zaf false a1_]) (h:=Zax Zar)) Zab.f) (tq (bk ?_))))))
  obtain ⟨aa,a5,h⟩:=bs h
  refine ZaT ((ZaI (λ(x:Int×(List (Int×Bool))) s=>∃ (a4:List HO),s=⟨[(8,.map a2),(31,Zaf false a1_),(32,iv ((List.length a1_:Nat):Int)),(33,iv x.1)],[],a4⟩/\HP a4 [mpT a2 0 (encE ke1 bv x.2)]) (λx:Int×(List (Int×Bool))=>ZbG N a1_ x.1 x.2) (λ(p:(Unit)⊕(Int)) e s=>match p with|(.inl p)=>e=.exit 2/\(∃ (a7:List HO),s=⟨[],[],a7⟩/\HP a7 [])|(.inr p)=>e=.ret/\∃ xs,resL s i18.res=some xs/\ZbV xs=iv p) ?_ N _ aa _ a5 ⟨aq,kr,(HP.pick hH [0] rfl)⟩).mono ?_)
  ·clear h a5
   rintro ⟨aj,a3⟩ o s h hR
   obtain ⟨a4,rfl,hH⟩:=hR
   replace hH:HP _ [mpT a2 0 (encE ke1 bv a3)]:=hH
   replace h:ZbG N a1_ aj a3=some o:=h
   unfold ZbG at h
   refine sq (rg Zab.f (tq (sq (it h (λaf h=>?_) (λaf h=>?_)))))
   ·refine sk (tq (kq (sq (bk (sq ?_)))))
    obtain ⟨a0,a6,h⟩:=bs h
    refine rg (Zab.u 0 (Zan (ys:=[Zaf false a1_,iv aj]) (h:=Zal Zar a6)) (Zab.u 0 (Zav (sz:=10) (off:=0) (cs:=[.int .i64 a0.Id,.int .i64 a0.Talker,.int .i64 a0.Listener,.int .i64 a0.Class,.int .i64 a0.Size,.int .i64 a0.Period,.int .i64 a0.Bucket.Burst,.int .i64 a0.Bucket.Rate,.int .i64 a0.Deadline,.sl 1 false (List.map (eSl 1 eI64) a0.Routes)]) (r:=.agg (Zai a0)) Zar a6) Zab.f)) (tq (sq (sq ?_)))
    have a9:=HP.get hH 0 rfl
    refine rg (Zab.u 3 (ZtM (H:=a4) (id:=a2) (kn:=0) (ke:=ke1) (ve:=bv) (l:=a3) (x:=a0.Id) (z:=false) (r:=bv (Zhk a3 a0.Id false)) kr kr a9 kr kr (λ_=>rfl)) Zab.f) (tq (it h (λae h=>?_) (λae h=>?_)))
    ·refine sq (rg Zab.f ?_)
     replace hH:HP _ []:=HP.pick hH [] rfl
     refine tq (rt (tr (br (tr ?_))))
     cases h
     exact ⟨_,rfl,rfl,ZaA kr⟩
    refine sk (tq (kq ?_))
    have a8:=HP.get hH 0 rfl
    obtain ⟨ao,ag,hH⟩:=HP.setMp (k:=0) hH rfl (encE ke1 bv (Zed a3 a0.Id true))
    replace hH:HP _ [mpT a2 0 (encE ke1 bv (Zed a3 a0.Id true))]:=hH
    refine rg (Zab.o 3 (ZtL (H:=a4) (id:=a2) (kn:=0) (ke:=ke1) (ve:=bv) (l:=a3) (x:=a0.Id) (v:=true) (y:=bv true) kr kr a8 kr kr ag) Zab.f) (bn (tq (kq (rg Zab.f ?_))))
    cases h
    exact ⟨_,rfl,⟨ao,kr,(HP.pick hH [0] rfl)⟩⟩
   refine kq ?_
   replace hH:HP _ []:=HP.pick hH [] rfl
   refine xq (tx ?_)
   cases h
   exact ⟨_,rfl,rfl,⟨a4,kr,(HP.pick hH [] rfl)⟩⟩
  rintro e s hq
  rcases aa with av|au
  ·dsimp only at h hq
   obtain ⟨rfl,hR⟩:=hq
   obtain ⟨a7,rfl,hH⟩:=hR
   replace hH:HP _ []:=hH
   refine bx (tq (sq (rg Zab.f (tq (rt ?_)))))
   cases h
   exact ZaA kr
  dsimp only at h hq
  obtain ⟨rfl,hq⟩:=hq
  refine br (tr ?_)
  cases h
  exact hq
 dsimp only at h hq
 obtain ⟨rfl,hq⟩:=hq
 refine br (tr ?_)
 cases h
 exact hq
theorem Zj0 (N:Nat)(a0_:Zag)(a1_:ZaE)(a2_:Zah)(a3_:Int)(r:Int)(h:Zgp N a0_ a1_ a2_ a3_=some r):Zba Tryz.prog 35 [.agg (Zac a0_),.agg (Zak a1_),.agg (Zai a2_),iv a3_] (iv r):=by
 unfold Zgp at h
 have hH  := hp0
 refine ZaG ZLs rfl rfl (Zay _ _ _ ?_) rfl
 refine sq (rg Zab.f (tq (sq (sq ?_))))
 obtain ⟨r1,hr1,h⟩:=bs h
 refine rg (Zab.v 1 (Zaz (hc:=ZhI N a0_ r1 hr1)) Zab.f) (tq (sq (rg Zab.f (tq (it h (λhc2 h=>?_) (λhc2 h=>?_))))))
 ·refine sq (rg Zab.f (tq (rt (tr ?_))))
  cases h
  exact ZaA kr
 refine sk (tq (kq (sq (sq ?_))))
 obtain ⟨r3,hr3,h⟩:=bs h
 refine rg (Zab.v 1 (Zaz (hc:=Zgb N a1_ r3 hr3)) Zab.f) (tq (sq (rg Zab.f (tq (it h (λhc4 h=>?_) (λhc4 h=>?_))))))
 ·refine sq (rg Zab.f (tq (rt (tr ?_))))
  cases h
  exact ZaA kr
 refine sk (tq (kq (sq (sq ?_))))
 obtain ⟨r5,hr5,h⟩:=bs h
 refine rg (Zab.v 2 (Zaz (hc:=Zip N a0_ a2_ r5 hr5)) Zab.f) (tq (it h (λhc6 h=>?_) (λhc6 h=>?_)))
 ·refine sq (rg Zab.f (tq (rt (tr ?_))))
  cases h
  exact ZaA kr
 refine sk (tq (kq (sq (sq ?_))))
 obtain ⟨a1,hj,h⟩:=bs h
 refine rgR (λs=>s=⟨[(36,bv a1)],[],[]⟩) ?_ ?_
 ·clear h
  rcases ZaC hj with ⟨hc7,hj⟩|⟨hc8,hj⟩
  ·obtain rfl:=Zao hj
   exact (EP.u 2 (Zam (c:=(a2_.Class != 7)) (h:=hc7)) (EP.f kr))
  refine (EP.u 2 (Zam (c:=(a2_.Class != 7)) (h:=hc8)) (EP.u 4 (Zan (ys:=[Zaq false a2_.Routes]) (h:=Zax (eSl 1 eI64))) ?_))
  obtain ⟨r9,hr9,hj⟩:=bs hj
  obtain rfl:=Zao hj
  exact (EP.v 1 (Zaz (hc:=Zbf N a3_ 0 (w64 (((List.length a2_.Routes:Nat):Int)-1)) r9 hr9)) (EP.f kr))
 clear hj
 rintro s hR
 obtain rfl:=hR
 refine tq (it h (λa0 h=>?_) (λa0 h=>?_))
 ·refine sq (rg Zab.f (tq (rt (tr ?_))))
  cases h
  exact ZaA kr
 refine sk (tq (kq (sq (rg Zab.f (tq (rt ?_))))))
 cases h
 exact ZaA kr
theorem Znr (N:Nat)(a0_:Zag)(a1_:ZaE)(a2_:Zah)(a3_:Int)(r:(List ZaQ)×Int)(h:Zgy N a0_ a1_ a2_ a3_=some r):Zba Tryz.prog 13 [.agg (Zac a0_),.agg (Zak a1_),.agg (Zai a2_),iv a3_] (.tup [Zbg false r.1,iv r.2]):=by
 unfold Zgy at h
 have hH  := hp0
 refine ZaG ZLO rfl rfl (Zay _ _ _ ?_) rfl
 refine sq (rgS ⟨[(3,iv a3_),(4,.loc 4 0),(5,.loc 5 0),(6,.loc 6 0)],[(4,(Zac a0_)),(5,(Zak a1_)),(6,(Zai a2_))],[]⟩ Zab.f kr (tq (sq (sq ?_))))
 obtain ⟨r1,hr1,h⟩:=bs h
 refine rgS ⟨[(3,iv a3_),(4,.loc 4 0),(5,.loc 5 0),(6,.loc 6 0),(10,iv r1)],[(4,(Zac a0_)),(5,(Zak a1_)),(6,(Zai a2_))],[]⟩ (Zab.v 4 (Zaz (hc:=Zj0 N a0_ a1_ a2_ a3_ r1 hr1)) Zab.f) kr (tq (sq (rgS ⟨[(3,iv a3_),(4,.loc 4 0),(5,.loc 5 0),(6,.loc 6 0),(10,iv r1),(19,bv (r1 != 0))],[(4,(Zac a0_)),(5,(Zak a1_)),(6,(Zai a2_))],[]⟩ Zab.f kr (tq (it h (λhc2 h=>?_) (λhc2 h=>?_))))))
 ·refine sq (rgS ⟨[(8,Zbg true []),(9,iv r1)],[],[]⟩ Zab.f kr (tq (rt (tr ?_))))
  cases h
  exact ZaA kr
 refine sk (tq (kq (sq ?_)))
 obtain ⟨id3,H4,hid3,hH4,hH⟩:=HP.newCell hH [Zbg true []]
 replace hH:HP _ [.cel id3 [Zbg true []]]:=hH
 refine rgS ⟨[(3,iv a3_),(4,.loc 4 0),(5,.loc 5 0),(6,.loc 6 0),(11,.ptr id3 0)],[(4,(Zac a0_)),(5,(Zak a1_)),(6,(Zai a2_))],H4⟩ (Zab.h 0 (Zir (H:=[]) kr hid3 hH4) Zab.f) kr (tq (sq (sq ?_)))
 obtain ⟨r5,hr5,h⟩:=bs h
 obtain ⟨id7,id8,id9,a4,H6,hvr5,hpr5⟩:=Zji N a0_ a1_ a2_ a3_ H4 r5 hr5
 replace hH:HP _ [.cel id7 (Zai r5.1),.cel id8 [iv r5.2.1],.cel id9 (Zac r5.2.2.1),.cel a4 (Zak r5.2.2.2),.cel id3 [Zbg true []]]:=HP.callee (fp:=[]) (rest:=[.cel id3 [Zbg true []]]) hH hpr5
 refine rgS ⟨[(11,.ptr id3 0),(25,.fn 58 [] [.ptr id7 0,.ptr id8 0,.ptr id9 0,.ptr a4 0])],[],H6⟩ (Zab.v 4 (ZhN (H:=H4) (ys:=[.agg (Zac a0_),.agg (Zak a1_),.agg (Zai a2_),iv a3_]) kr kr kr hvr5) Zab.f) kr (tq (bk ?_))
 obtain ⟨a5,ae,h⟩:=bs h
 have a7:∀ (x12:ZaQ) (s:(List ZaQ)) (r:((List ZaQ))×Bool) (H:List HO) (its:List Za9),(λ(s:(List ZaQ)) (its:List Za9)=>∃ (a1:AV),its=[.arr a1 5 false (List.map ZaZ s),.cel id3 [a1]]++[.lp (List.length H6) (lcOf Tryz.prog i13.nt [26] Zg0 ZgY) [(11,.ptr id3 0)] .ready]) s its->HP H its->(λ(s:(List ZaQ)) (x12:ZaQ)=>Ze5 (λv:(List ZaQ)=>ZcW N v x12) s) s x12=some r->∃ H' its',ZiY Tryz.prog (List.length H6) [.agg (Zcn x12)] H r.2 H'/\(λ(s:(List ZaQ)) (its:List Za9)=>∃ (a1:AV),its=[.arr a1 5 false (List.map ZaZ s),.cel id3 [a1]]++[.lp (List.length H6) (lcOf Tryz.prog i13.nt [26] Zg0 ZgY) [(11,.ptr id3 0)] .ready]) r.1 its'/\Fp H H' its its':=by
  clear h
  intro x12 s r ab its hT hH h
  obtain ⟨q,hb,rfl⟩:=ZjE h
  clear h
  obtain ⟨vs,rfl⟩:∃ v,v=s:=⟨s,rfl⟩
  obtain ⟨ad,rfl⟩:∃ v,v=vs:=⟨vs,rfl⟩
  obtain ⟨a1,rfl⟩:=hT
  replace h:ZcW N ad x12=some q:=hb
  clear hb
  unfold ZcW at h
  replace hH:Fp _ _ _ [.arr a1 5 false (List.map ZaZ ad),.cel id3 [a1],.lp (List.length H6) (lcOf Tryz.prog i13.nt [26] Zg0 ZgY) [(11,.ptr id3 0)] .ready]:=Fp.refl hH
  have a0:=ZaS (Fp.get hH 0 rfl)
  suffices hs:∃ H',ZiY Tryz.prog (List.length H6) [.agg (Zcn x12)] ab true H'/\∃ its',(λ(s:(List ZaQ)) (its:List Za9)=>∃ (a1:AV),its=[.arr a1 5 false (List.map ZaZ s),.cel id3 [a1]]++[.lp (List.length H6) (lcOf Tryz.prog i13.nt [26] Zg0 ZgY) [(11,.ptr id3 0)] .ready]) q its'/\Fp ab H' [.arr a1 5 false (List.map ZaZ ad),.cel id3 [a1],.lp (List.length H6) (lcOf Tryz.prog i13.nt [26] Zg0 ZgY) [(11,.ptr id3 0)] .ready] its' by
   obtain ⟨H',h1,its',h2,h3⟩:=hs
   exact ⟨H',its',h1,h2,h3⟩
  refine Zin (id:=(List.length H6)) (args:=[.agg (Zcn x12)]) (H:=ab) (n:=i13.nt) (ps:=[26]) (fr0:=[(11,.ptr id3 0)]) (ia:=Zg0) (ib:=ZgY) true (λH'=>∃ its',(λ(s:(List ZaQ)) (its:List Za9)=>∃ (a1:AV),its=[.arr a1 5 false (List.map ZaZ s),.cel id3 [a1]]++[.lp (List.length H6) (lcOf Tryz.prog i13.nt [26] Zg0 ZgY) [(11,.ptr id3 0)] .ready]) q its'/\Fp ab H' [.arr a1 5 false (List.map ZaZ ad),.cel id3 [a1],.lp (List.length H6) (lcOf Tryz.prog i13.nt [26] Zg0 ZgY) [(11,.ptr id3 0)] .ready] its') (Fp.get hH 2 rfl) rfl (by decide +kernel) rfl ?_
  show vc _ _ _ _ ⟨[(11,.ptr id3 0),(26,.agg (Zcn x12))],[],ab⟩
  refine rgS ⟨[(11,.ptr id3 0),(12,.loc 12 0)],[(12,(Zcn x12))],ab⟩ Zab.f kr (Zm0 (k:=2) hH rfl ?_)
  intro aa hH
  replace hH:Fp _ _ _ [.arr a1 5 false (List.map ZaZ ad),.cel id3 [a1],.lp (List.length H6) (lcOf Tryz.prog i13.nt [26] Zg0 ZgY) [(11,.ptr id3 0)] .busy]:=hH
  show vc _ _ _ _ ⟨[(11,.ptr id3 0),(12,.loc 12 0)],[(12,(Zcn x12))],aa⟩
  refine bk ?_
  have a9:=Fp.get hH 1 rfl
  obtain ⟨ac,af,h⟩:=bs h
  obtain ⟨a3,ak,ag,hH⟩:=Fp.app (k:=0) (a:=a1) (sz:=5) (frz:=false) ZaZ hH rfl af
  replace hH:Fp _ _ _ [.arr a3 5 false (List.map ZaZ ac),.cel id3 [a1],.lp (List.length H6) (lcOf Tryz.prog i13.nt [26] Zg0 ZgY) [(11,.ptr id3 0)] .busy]:=hH
  have a2:=ZaS (Fp.get hH 0 rfl)
  obtain ⟨aj,ai,hH⟩:=Fp.setCell (k:=1) (off:=0) (cs:=[a1]) (vs:=[a3]) (cs':=[a3]) hH rfl kr
  replace hH:Fp _ _ _ [.arr a3 5 false (List.map ZaZ ac),.cel id3 [a3],.lp (List.length H6) (lcOf Tryz.prog i13.nt [26] Zg0 ZgY) [(11,.ptr id3 0)] .busy]:=hH
  refine rgS ⟨[],[],aj⟩ (Zab.u 0 (ZaD (H:=aa) (id:=id3) (off:=0) (cs:=[a1]) (c:=[a1]) (r:=a1) (by cases a0<;>kernel_rfl) (by cases a0<;>kernel_rfl) a9 (by cases a0<;>kernel_rfl) (by cases a0<;>kernel_rfl) (by cases a0<;>kernel_rfl)) (Zab.h 2 (Ze9 (H:=aa) (a:=a1) (b:=Zbg true [x12]) (by cases a0<;>kernel_rfl) (by cases a0<;>kernel_rfl) (by cases a0<;>kernel_rfl) (by cases a0<;>kernel_rfl) ag) (Zab.o 0 (Zhr (H:=ak) (v:=a3) (cs:=[a3]) (by cases a2<;>kernel_rfl) (by cases a2<;>kernel_rfl) (by cases a2<;>kernel_rfl) (by cases a2<;>kernel_rfl) (by cases a2<;>kernel_rfl) ai) Zab.f))) kr (bn ?_)
  cases h
  exact rbd (k:=2) (.ready) hH rfl rfl (λH6 hH=>⟨_,⟨a3,Eq.refl _⟩,(Fp.pick hH [0,1,2] rfl)⟩)
 refine ZjY (s:=⟨[(11,.ptr id3 0),(25,.fn 58 [] [.ptr id7 0,.ptr id8 0,.ptr id9 0,.ptr a4 0])],[],H6⟩) [(11,.ptr id3 0)] (FrOK.cons kr kr FrOK.nil) kr (λH=>rfl) (capT:=[.cel id7 (Zai r5.1),.cel id8 [iv r5.2.1],.cel id9 (Zac r5.2.2.1),.cel a4 (Zak r5.2.2.2)]) (cells0:=[.arr (.p (.sl 5 true [])) 5 false (List.map ZaZ []),.cel id3 [Zbg true []]]) (rest:=[]) (HP.now (HP.pick (HP.nilArr hH 5 false) [1,2,3,4,0,5] rfl)) (λ(s:(List ZaQ)) (its:List Za9)=>∃ (a1:AV),its=[.arr a1 5 false (List.map ZaZ s),.cel id3 [a1]]++[.lp (List.length H6) (lcOf Tryz.prog i13.nt [26] Zg0 ZgY) [(11,.ptr id3 0)] .ready]) [] a5 (by exact ⟨(.p (.sl 5 true [])),Eq.refl _⟩) (λH its hT hH=>Zia N (λ(s:(List ZaQ)) (x12:ZaQ)=>Ze5 (λv:(List ZaQ)=>ZcW N v x12) s) r5.1 r5.2.1 r5.2.2.1 r5.2.2.2 [] id7 id8 id9 a4 (List.length H6) (λ(s:(List ZaQ)) (its:List Za9)=>∃ (a1:AV),its=[.arr a1 5 false (List.map ZaZ s),.cel id3 [a1]]++[.lp (List.length H6) (lcOf Tryz.prog i13.nt [26] Zg0 ZgY) [(11,.ptr id3 0)] .ready]) a7 H its hT hH a5 ae) ?_
 rintro its hT
 obtain ⟨a1,rfl⟩:=hT
 refine ⟨_,_,rfl,?_⟩
 intro a6 hF
 replace hH:HP _ [.cel id7 (Zai r5.1),.cel id8 [iv r5.2.1],.cel id9 (Zac r5.2.2.1),.cel a4 (Zak r5.2.2.2),.arr a1 5 false (List.map ZaZ a5),.cel id3 [a1]]:=HP.after (HP.pick (HP.nilArr hH 5 false) [1,2,3,4,0,5] rfl) hF
 have a0:=ZaS (HP.get hH 4 rfl)
 refine ZkU (S:=⟨[(11,.ptr id3 0),(25,.fn 58 [] [.ptr id7 0,.ptr id8 0,.ptr id9 0,.ptr a4 0])],[],a6⟩) (bn (tq (kq ?_)))
 replace hH:HP _ [.arr a1 5 false (List.map ZaZ a5),.cel id3 [a1]]:=HP.pick hH [4,5] rfl
 refine sq ?_
 have a8:=HP.get hH 1 rfl
 refine rgS ⟨[(8,a1),(9,iv 0)],[],a6⟩ (Zab.u 0 (ZaD (H:=a6) (id:=id3) (off:=0) (cs:=[a1]) (c:=[a1]) (r:=a1) (by cases a0<;>kernel_rfl) (by cases a0<;>kernel_rfl) a8 (by cases a0<;>kernel_rfl) (by cases a0<;>kernel_rfl) (by cases a0<;>kernel_rfl)) Zab.f) (by cases a0<;>kernel_rfl) ?_
 replace hH:HP _ [.arr a1 5 false (List.map ZaZ a5)]:=HP.pick hH [0] rfl
 refine tq (rt ?_)
 obtain rfl:=Zao h
 exact ZeB (H:=a6) (ys:=[a1,iv 0]) (xs:=[.p (.sl 5 false (List.map ZaZ a5)),iv 0]) (by cases a0<;>kernel_rfl) (by cases a0<;>kernel_rfl) (Zbs (HP.pure (k:=0) (frz:=false) ZaZ hH rfl).2 (Zbs rfl Zci)) kr
theorem Znq (N:Nat)(a0_:Zag)(a1_:ZaE)(a2_:Zah)(a3_:Int)(r:Int×Int)(h:Zgx N a0_ a1_ a2_ a3_=some r):Zba Tryz.prog 14 [.agg (Zac a0_),.agg (Zak a1_),.agg (Zai a2_),iv a3_] (.tup [iv r.1,iv r.2]):=by
 unfold Zgx at h
 have hH  := hp0
 refine ZaG ZLN rfl rfl (Zay _ _ _ ?_) rfl
 refine sq ?_
 obtain ⟨id1,H2,hid1,hH2,hH⟩:=HP.newCell hH (Zac a0_)
 replace hH:HP _ [.cel id1 (Zac a0_)]:=hH
 obtain ⟨id3,H4,hid3,hH4,hH⟩:=HP.newCell hH (Zak a1_)
 replace hH:HP _ [.cel id3 (Zak a1_),.cel id1 (Zac a0_)]:=hH
 refine rgS ⟨[(3,iv a3_),(4,.ptr id1 0),(5,.ptr id3 0),(6,.loc 6 0)],[(6,(Zai a2_))],H4⟩ (Zab.h 0 (Zdn (H:=[]) (v:=.agg (Zac a0_)) (hid:=hid1) (hH:=hH2)) (Zab.h 0 (Zdn (H:=H2) (v:=.agg (Zak a1_)) (hid:=hid3) (hH:=hH4)) Zab.f)) kr (tq (sq (sq ?_)))
 have hlc5:=HP.get hH 1 rfl
 have hlc6:=HP.get hH 0 rfl
 obtain ⟨r7,hr7,h⟩:=bs h
 refine rgS ⟨[(3,iv a3_),(4,.ptr id1 0),(5,.ptr id3 0),(6,.loc 6 0),(10,iv r7)],[(6,(Zai a2_))],H4⟩ (Zab.u 0 (ZaD (H:=H4) (id:=id1) (off:=0) (cs:=(Zac a0_)) (c:=(Zac a0_)) (r:=.agg (Zac a0_)) (hl:=hlc5)) (Zab.u 0 (ZaD (H:=H4) (id:=id3) (off:=0) (cs:=(Zak a1_)) (c:=(Zak a1_)) (r:=.agg (Zak a1_)) (hl:=hlc6)) (Zab.v 2 (Zaz (hc:=Zj0 N a0_ a1_ a2_ a3_ r7 hr7)) Zab.f))) kr (tq (sq (rgS ⟨[(3,iv a3_),(4,.ptr id1 0),(5,.ptr id3 0),(6,.loc 6 0),(10,iv r7),(19,bv (r7 != 0))],[(6,(Zai a2_))],H4⟩ Zab.f kr (tq (it h (λhc8 h=>?_) (λhc8 h=>?_))))))
 ·refine sq (rgS ⟨[(8,iv 0),(9,iv r7)],[],H4⟩ Zab.f kr ?_)
  replace hH:HP _ []:=HP.pick hH [] rfl
  refine tq (rt (tr ?_))
  cases h
  exact ZaA kr
 refine sk (tq (kq (sq ?_)))
 obtain ⟨id9,au,hid9,aq,hH⟩:=HP.newCell hH [iv 0]
 replace hH:HP _ [.cel id9 [iv 0],.cel id3 (Zak a1_),.cel id1 (Zac a0_)]:=hH
 obtain ⟨an,ap,hH⟩:=HP.setCell (k:=0) (off:=0) (cs:=[iv 0]) (vs:=[iv 0]) (cs':=[iv 0]) hH rfl kr
 replace hH:HP _ [.cel id9 [iv 0],.cel id3 (Zak a1_),.cel id1 (Zac a0_)]:=hH
 refine rgS ⟨[(3,iv a3_),(4,.ptr id1 0),(5,.ptr id3 0),(6,.loc 6 0),(11,.ptr id9 0)],[(6,(Zai a2_))],an⟩ (Zab.h 0 (Zir (H:=H4) kr hid9 aq) (Zab.o 0 (Zbe (H:=au) (v:=iv 0) (hw:=ap)) Zab.f)) kr (tq (sq (sq ?_)))
 have al:=HP.get hH 2 rfl
 have ak:=HP.get hH 1 rfl
 obtain ⟨a0,ao,h⟩:=bs h
 obtain ⟨a6,a5,a4,a3,a2,ag,ai⟩:=Zji N a0_ a1_ a2_ a3_ an a0 ao
 replace hH:HP _ [.cel a6 (Zai a0.1),.cel a5 [iv a0.2.1],.cel a4 (Zac a0.2.2.1),.cel a3 (Zak a0.2.2.2),.cel id9 [iv 0],.cel id3 (Zak a1_),.cel id1 (Zac a0_)]:=HP.callee (fp:=[]) (rest:=[.cel id9 [iv 0],.cel id3 (Zak a1_),.cel id1 (Zac a0_)]) hH ai
 refine rgS ⟨[(4,.ptr id1 0),(5,.ptr id3 0),(11,.ptr id9 0),(25,.fn 58 [] [.ptr a6 0,.ptr a5 0,.ptr a4 0,.ptr a3 0])],[],a2⟩ (Zab.u 0 (ZaD (H:=an) (id:=id1) (off:=0) (cs:=(Zac a0_)) (c:=(Zac a0_)) (r:=.agg (Zac a0_)) (hl:=al)) (Zab.u 0 (ZaD (H:=an) (id:=id3) (off:=0) (cs:=(Zak a1_)) (c:=(Zak a1_)) (r:=.agg (Zak a1_)) (hl:=ak)) (Zab.v 2 (ZhN (H:=an) (ys:=[.agg (Zac a0_),.agg (Zak a1_),.agg (Zai a2_),iv a3_]) kr kr kr ag) Zab.f))) kr (tq (bk ?_))
 obtain ⟨a1,aj,h⟩:=bs h
 have aa:∀ (x21:ZaQ) (s:Int) (r:(Int)×Bool) (H:List HO) (its:List Za9),(λ(s:Int) (its:List Za9)=>its=[.cel id9 [iv s],.cel id3 (Zak a1_),.cel id1 (Zac a0_)]++[.lp (List.length a2) (lcOf Tryz.prog i14.nt [26] ZhD ZhC) [(4,.ptr id1 0),(5,.ptr id3 0),(11,.ptr id9 0)] .ready]) s its->HP H its->(λ(s:Int) (x21:ZaQ)=>Ze5 (λv:Int=>ZcV N a0_ a1_ v x21) s) s x21=some r->∃ H' its',ZiY Tryz.prog (List.length a2) [.agg (Zcn x21)] H r.2 H'/\(λ(s:Int) (its:List Za9)=>its=[.cel id9 [iv s],.cel id3 (Zak a1_),.cel id1 (Zac a0_)]++[.lp (List.length a2) (lcOf Tryz.prog i14.nt [26] ZhD ZhC) [(4,.ptr id1 0),(5,.ptr id3 0),(11,.ptr id9 0)] .ready]) r.1 its'/\Fp H H' its its':=by
  clear h
  intro x21 s r af its hT hH h
  obtain ⟨q,hb,rfl⟩:=ZjE h
  clear h
  obtain ⟨vs,rfl⟩:∃ v,v=s:=⟨s,rfl⟩
  obtain ⟨i22,rfl⟩:∃ v,v=vs:=⟨vs,rfl⟩
  obtain rfl:=hT
  replace h:ZcV N a0_ a1_ i22 x21=some q:=hb
  clear hb
  unfold ZcV at h
  replace hH:Fp _ _ _ [.cel id9 [iv i22],.cel id3 (Zak a1_),.cel id1 (Zac a0_),.lp (List.length a2) (lcOf Tryz.prog i14.nt [26] ZhD ZhC) [(4,.ptr id1 0),(5,.ptr id3 0),(11,.ptr id9 0)] .ready]:=Fp.refl hH
  suffices hs:∃ H',ZiY Tryz.prog (List.length a2) [.agg (Zcn x21)] af true H'/\∃ its',(λ(s:Int) (its:List Za9)=>its=[.cel id9 [iv s],.cel id3 (Zak a1_),.cel id1 (Zac a0_)]++[.lp (List.length a2) (lcOf Tryz.prog i14.nt [26] ZhD ZhC) [(4,.ptr id1 0),(5,.ptr id3 0),(11,.ptr id9 0)] .ready]) q its'/\Fp af H' [.cel id9 [iv i22],.cel id3 (Zak a1_),.cel id1 (Zac a0_),.lp (List.length a2) (lcOf Tryz.prog i14.nt [26] ZhD ZhC) [(4,.ptr id1 0),(5,.ptr id3 0),(11,.ptr id9 0)] .ready] its' by
   obtain ⟨H',h1,its',h2,h3⟩:=hs
   exact ⟨H',its',h1,h2,h3⟩
  refine Zin (id:=(List.length a2)) (args:=[.agg (Zcn x21)]) (H:=af) (n:=i14.nt) (ps:=[26]) (fr0:=[(4,.ptr id1 0),(5,.ptr id3 0),(11,.ptr id9 0)]) (ia:=ZhD) (ib:=ZhC) true (λH'=>∃ its',(λ(s:Int) (its:List Za9)=>its=[.cel id9 [iv s],.cel id3 (Zak a1_),.cel id1 (Zac a0_)]++[.lp (List.length a2) (lcOf Tryz.prog i14.nt [26] ZhD ZhC) [(4,.ptr id1 0),(5,.ptr id3 0),(11,.ptr id9 0)] .ready]) q its'/\Fp af H' [.cel id9 [iv i22],.cel id3 (Zak a1_),.cel id1 (Zac a0_),.lp (List.length a2) (lcOf Tryz.prog i14.nt [26] ZhD ZhC) [(4,.ptr id1 0),(5,.ptr id3 0),(11,.ptr id9 0)] .ready] its') (Fp.get hH 3 rfl) rfl (by decide +kernel) rfl ?_
  show vc _ _ _ _ ⟨[(4,.ptr id1 0),(5,.ptr id3 0),(11,.ptr id9 0),(26,.agg (Zcn x21))],[],af⟩
  refine rgS ⟨[(4,.ptr id1 0),(5,.ptr id3 0),(11,.ptr id9 0),(12,.loc 12 0)],[(12,(Zcn x21))],af⟩ Zab.f kr (Zm0 (k:=3) hH rfl ?_)
  intro a8 hH
  replace hH:Fp _ _ _ [.cel id9 [iv i22],.cel id3 (Zak a1_),.cel id1 (Zac a0_),.lp (List.length a2) (lcOf Tryz.prog i14.nt [26] ZhD ZhC) [(4,.ptr id1 0),(5,.ptr id3 0),(11,.ptr id9 0)] .busy]:=hH
  show vc _ _ _ _ ⟨[(4,.ptr id1 0),(5,.ptr id3 0),(11,.ptr id9 0),(12,.loc 12 0)],[(12,(Zcn x21))],a8⟩
  refine bk ?_
  have ad:=Fp.get hH 2 rfl
  obtain ⟨a7,a9,h⟩:=bs h
  have ac:=Fp.get hH 1 rfl
  obtain ⟨ar,am,hH⟩:=Fp.setCell (k:=0) (off:=0) (cs:=[iv i22]) (vs:=[iv (w64 ((w64 ((w64 (x21.Open+x21.Long))+a7.Delay))+a1_.Proc))]) (cs':=[iv (w64 ((w64 ((w64 (x21.Open+x21.Long))+a7.Delay))+a1_.Proc))]) hH rfl kr
  replace hH:Fp _ _ _ [.cel id9 [iv (w64 ((w64 ((w64 (x21.Open+x21.Long))+a7.Delay))+a1_.Proc))],.cel id3 (Zak a1_),.cel id1 (Zac a0_),.lp (List.length a2) (lcOf Tryz.prog i14.nt [26] ZhD ZhC) [(4,.ptr id1 0),(5,.ptr id3 0),(11,.ptr id9 0)] .busy]:=hH
  refine rqS ⟨[],[],ar⟩ (Zab.u 6 (ZaK (ZaD (H:=a8) (id:=id1) (off:=2) (cs:=(Zac a0_)) (c:=[Zae false a0_.Links]) (r:=Zae false a0_.Links) (hl:=ad))) (Zab.u 3 (Zan (ys:=[Zae false a0_.Links,iv (w64 (Int.tdiv x21.Port 2))]) (h:=Zal Zat a9)) (Zab.u 1 (ZaK (Zav (sz:=4) (off:=3) (cs:=[.int .i64 a7.Delay]) (r:=iv a7.Delay) Zat a9)) (Zab.u 2 (ZaK (ZaD (H:=a8) (id:=id3) (off:=2) (cs:=(Zak a1_)) (c:=[iv a1_.Proc]) (r:=iv a1_.Proc) (hl:=ac))) (Zab.o 1 (Zmn (Zbe (H:=a8) (v:=iv (w64 ((w64 ((w64 (x21.Open+x21.Long))+a7.Delay))+a1_.Proc))) (hw:=am)) kr) Zab.f))))) kr (bn ?_)
  cases h
  exact rbd (k:=3) (.ready) hH rfl rfl (λH6 hH=>⟨_,(Eq.refl _),(Fp.pick hH [0,1,2,3] rfl)⟩)
 refine ZjY (s:=⟨[(4,.ptr id1 0),(5,.ptr id3 0),(11,.ptr id9 0),(25,.fn 58 [] [.ptr a6 0,.ptr a5 0,.ptr a4 0,.ptr a3 0])],[],a2⟩) [(4,.ptr id1 0),(5,.ptr id3 0),(11,.ptr id9 0)] (FrOK.cons kr kr (FrOK.cons kr kr (FrOK.cons kr kr FrOK.nil))) kr (λH=>rfl) (capT:=[.cel a6 (Zai a0.1),.cel a5 [iv a0.2.1],.cel a4 (Zac a0.2.2.1),.cel a3 (Zak a0.2.2.2)]) (cells0:=[.cel id9 [iv 0],.cel id3 (Zak a1_),.cel id1 (Zac a0_)]) (rest:=[]) (HP.now (HP.pick hH [0,1,2,3,4,5,6] rfl)) (λ(s:Int) (its:List Za9)=>its=[.cel id9 [iv s],.cel id3 (Zak a1_),.cel id1 (Zac a0_)]++[.lp (List.length a2) (lcOf Tryz.prog i14.nt [26] ZhD ZhC) [(4,.ptr id1 0),(5,.ptr id3 0),(11,.ptr id9 0)] .ready]) 0 a1 (by exact (Eq.refl _)) (λH its hT hH=>Zia N (λ(s:Int) (x21:ZaQ)=>Ze5 (λv:Int=>ZcV N a0_ a1_ v x21) s) a0.1 a0.2.1 a0.2.2.1 a0.2.2.2 0 a6 a5 a4 a3 (List.length a2) (λ(s:Int) (its:List Za9)=>its=[.cel id9 [iv s],.cel id3 (Zak a1_),.cel id1 (Zac a0_)]++[.lp (List.length a2) (lcOf Tryz.prog i14.nt [26] ZhD ZhC) [(4,.ptr id1 0),(5,.ptr id3 0),(11,.ptr id9 0)] .ready]) aa H its hT hH a1 aj) ?_
 rintro its hT
 obtain rfl:=hT
 refine ⟨_,_,rfl,?_⟩
 intro ae hF
 replace hH:HP _ [.cel a6 (Zai a0.1),.cel a5 [iv a0.2.1],.cel a4 (Zac a0.2.2.1),.cel a3 (Zak a0.2.2.2),.cel id9 [iv a1],.cel id3 (Zak a1_),.cel id1 (Zac a0_)]:=HP.after (HP.pick hH [0,1,2,3,4,5,6] rfl) hF
 refine ZkU (S:=⟨[(4,.ptr id1 0),(5,.ptr id3 0),(11,.ptr id9 0),(25,.fn 58 [] [.ptr a6 0,.ptr a5 0,.ptr a4 0,.ptr a3 0])],[],ae⟩) (bn (tq (kq ?_)))
 replace hH:HP _ [.cel id9 [iv a1]]:=HP.pick hH [4] rfl
 refine sq ?_
 have ab:=HP.get hH 0 rfl
 refine rgS ⟨[(8,iv a1),(9,iv 0)],[],ae⟩ (Zab.u 0 (ZaD (H:=ae) (id:=id9) (off:=0) (cs:=[iv a1]) (c:=[iv a1]) (r:=iv a1) (hl:=ab)) Zab.f) kr ?_
 replace hH:HP _ []:=HP.pick hH [] rfl
 refine tq (rt ?_)
 cases h
 exact ZaA kr
theorem ZkR (N:Nat)(a0_:ZbC)(a1_:Zag)(a2_:ZaE)(a3_:Zah)(p0_:Nat)(bc0_0_:AV)(bc0_1_:AV)(H:List HO)(hH:HP H [.cel p0_ [bc0_0_,bc0_1_,bv a0_.late],.arr bc0_0_ 1 true (List.map eI64 a0_.Problem.Periods),.arr bc0_1_ 4 true (List.map Zap a0_.Problem.Uses)])(r:Int×ZbC)(h:ZeI N a0_ a1_ a2_ a3_=some r):∃ (oc_0_0_:AV) (oc_0_1_:AV) (H':List HO),Zcm Tryz.prog 20 [.ptr p0_ 0,.agg (Zac a1_),.agg (Zak a2_),.agg (Zai a3_)] H (iv r.1) H'/\Fp H H' [.cel p0_ [bc0_0_,bc0_1_,bv a0_.late],.arr bc0_0_ 1 true (List.map eI64 a0_.Problem.Periods),.arr bc0_1_ 4 true (List.map Zap a0_.Problem.Uses)] [.cel p0_ [oc_0_0_,oc_0_1_,bv r.2.late],.arr oc_0_0_ 1 true (List.map eI64 r.2.Problem.Periods),.arr oc_0_1_ 4 true (List.map Zap r.2.Problem.Uses)]:=by
 suffices hs:∃ r' H',Zcm Tryz.prog 20 [.ptr p0_ 0,.agg (Zac a1_),.agg (Zak a2_),.agg (Zai a3_)] H r' H'/\∃ (oc_0_0_:AV) (oc_0_1_:AV),r'=iv r.1/\Fp H H' [.cel p0_ [bc0_0_,bc0_1_,bv a0_.late],.arr bc0_0_ 1 true (List.map eI64 a0_.Problem.Periods),.arr bc0_1_ 4 true (List.map Zap a0_.Problem.Uses)] [.cel p0_ [oc_0_0_,oc_0_1_,bv r.2.late],.arr oc_0_0_ 1 true (List.map eI64 r.2.Problem.Periods),.arr oc_0_1_ 4 true (List.map Zap r.2.Problem.Uses)] by
  obtain ⟨_,H',h1,oc_0_0_,oc_0_1_,he,h2⟩:=hs
  exact ⟨oc_0_0_,oc_0_1_,H',he ▸ h1,h2⟩
 unfold ZeI at h
 replace hH:=Fp.refl hH
 have hfbc0_0_:=ZaS (Fp.get hH 1 rfl)
 have hfbc0_1_:=ZaS (Fp.get hH 2 rfl)
 refine ZjT ZLH [] (λr' H'=>∃ (oc_0_0_:AV) (oc_0_1_:AV),r'=iv r.1/\Fp H H' [.cel p0_ [bc0_0_,bc0_1_,bv a0_.late],.arr bc0_0_ 1 true (List.map eI64 a0_.Problem.Periods),.arr bc0_1_ 4 true (List.map Zap a0_.Problem.Uses)] [.cel p0_ [oc_0_0_,oc_0_1_,bv r.2.late],.arr oc_0_0_ 1 true (List.map eI64 r.2.Problem.Periods),.arr oc_0_1_ 4 true (List.map Zap r.2.Problem.Uses)]) (λr' H' q=>by obtain ⟨oc_0_0_,oc_0_1_,e,hp⟩:=q;subst e;have hfoc_0_0_:=ZaS (Fp.get hp 1 rfl);have hfoc_0_1_:=ZaS (Fp.get hp 2 rfl);show Za3 _=true;cases hfoc_0_0_<;>cases hfoc_0_1_<;>rfl) rfl (by cases hfbc0_0_<;>cases hfbc0_1_<;>kernel_rfl) (sq (rg Zab.f (tq (sq ?_))))
 have hlc1:=Fp.get hH 0 rfl
 have hln2:=Fp.len (k:=1) (a:=bc0_0_) (sz:=1) (frz:=true) (l:=a0_.Problem.Periods) eI64 hH rfl
 refine rg (Zab.u 4 (ZaD (H:=H) (id:=p0_) (off:=0) (cs:=[bc0_0_,bc0_1_,bv a0_.late]) (c:=[bc0_0_]) (r:=bc0_0_) (by cases hfbc0_0_<;>kernel_rfl) (by cases hfbc0_0_<;>kernel_rfl) hlc1 (by cases hfbc0_0_<;>kernel_rfl) (by cases hfbc0_0_<;>kernel_rfl) (by cases hfbc0_0_<;>kernel_rfl)) (Zab.u 0 (Zan (ys:=[bc0_0_]) (by cases hfbc0_0_<;>kernel_rfl) hln2) Zab.f)) (tq (sq ?_))
 have hlc3:=Fp.get hH 0 rfl
 obtain ⟨l6,hl6,h⟩:=bs h
 obtain ⟨a4,H5,ha4,hH⟩:=Fp.app (k:=1) (a:=bc0_0_) (sz:=1) (frz:=true) eI64 hH rfl hl6
 replace hH:Fp _ _ _ [.cel p0_ [bc0_0_,bc0_1_,bv a0_.late],.arr a4 1 true (List.map eI64 l6),.arr bc0_1_ 4 true (List.map Zap a0_.Problem.Uses)]:=hH
 have hfa4:=ZaS (Fp.get hH 1 rfl)
 obtain ⟨H7,hH7,hH⟩:=Fp.setCell (k:=0) (off:=0) (cs:=[bc0_0_,bc0_1_,bv a0_.late]) (vs:=[a4]) (cs':=[a4,bc0_1_,bv a0_.late]) hH rfl kr
 replace hH:Fp _ _ _ [.cel p0_ [a4,bc0_1_,bv a0_.late],.arr a4 1 true (List.map eI64 l6),.arr bc0_1_ 4 true (List.map Zap a0_.Problem.Uses)]:=hH
 refine rq (Zab.u 5 (ZaK (ZaD (H:=H) (id:=p0_) (off:=0) (cs:=[bc0_0_,bc0_1_,bv a0_.late]) (c:=[bc0_0_]) (r:=bc0_0_) (by cases hfbc0_0_<;>kernel_rfl) (by cases hfbc0_0_<;>kernel_rfl) hlc3 (by cases hfbc0_0_<;>kernel_rfl) (by cases hfbc0_0_<;>kernel_rfl) (by cases hfbc0_0_<;>kernel_rfl)) (by cases hfbc0_0_<;>kernel_rfl)) (Zab.h 3 (Ze9 (H:=H) (a:=bc0_0_) (b:=Zad true [a3_.Period]) (by cases hfbc0_0_<;>kernel_rfl) (by cases hfbc0_0_<;>kernel_rfl) (by cases hfbc0_0_<;>kernel_rfl) (by cases hfbc0_0_<;>kernel_rfl) ha4) (Zab.o 3 (Zmn (Zhr (H:=H5) (v:=a4) (cs:=[a4]) (by cases hfa4<;>kernel_rfl) (by cases hfa4<;>kernel_rfl) (by cases hfa4<;>kernel_rfl) (by cases hfa4<;>kernel_rfl) (by cases hfa4<;>kernel_rfl) hH7) (by cases hfa4<;>kernel_rfl)) Zab.f))) (tq (sq (sq (rg (Zab.u 2 (Zan (ys:=[Zaq false a3_.Routes]) (h:=Zax (eSl 1 eI64))) Zab.f) (tq (bk ?_))))))
 obtain ⟨ax,ao,h⟩:=bs h
 refine ZaT ((ZaI (λ(x:Int×Bool×(List ZaB)) s=>∃ (a8:AV) (a9:AV) (b2:List HO),s=⟨[(0,.ptr p0_ 0),(5,.loc 5 0),(6,.loc 6 0),(7,.loc 7 0),(9,iv ((List.length a0_.Problem.Periods:Nat):Int)),(40,iv ((List.length a3_.Routes:Nat):Int)),(41,iv x.1)],[(5,(Zac a1_)),(6,(Zak a2_)),(7,(Zai a3_))],b2⟩/\Fp H b2 [.cel p0_ [bc0_0_,bc0_1_,bv a0_.late],.arr bc0_0_ 1 true (List.map eI64 a0_.Problem.Periods),.arr bc0_1_ 4 true (List.map Zap a0_.Problem.Uses)] [.arr a8 1 true (List.map eI64 l6),.arr a9 4 true (List.map Zap x.2.2),.cel p0_ [a8,a9,bv x.2.1]]) (λx:Int×Bool×(List ZaB)=>Zc2 N a0_ a1_ a2_ a3_ l6 x.1 x.2.1 x.2.2) (λ(p:(Bool×(List ZaB))⊕(Int×ZbC)) e s=>match p with|(.inl p)=>e=.exit 0/\(∃ (am:AV) (al:AV) (aS:List HO),s=⟨[],[],aS⟩/\Fp H aS [.cel p0_ [bc0_0_,bc0_1_,bv a0_.late],.arr bc0_0_ 1 true (List.map eI64 a0_.Problem.Periods),.arr bc0_1_ 4 true (List.map Zap a0_.Problem.Uses)] [.arr am 1 true (List.map eI64 l6),.arr al 4 true (List.map Zap p.2),.cel p0_ [am,al,bv p.1]])|(.inr p)=>e=.ret/\∃ xs,rawL (wS [] s) i20.res=some xs/\∃ (oc_0_0_:AV) (oc_0_1_:AV),ZbV xs=iv p.1/\Fp H (weakH [] s.H) [.cel p0_ [bc0_0_,bc0_1_,bv a0_.late],.arr bc0_0_ 1 true (List.map eI64 a0_.Problem.Periods),.arr bc0_1_ 4 true (List.map Zap a0_.Problem.Uses)] [.cel p0_ [oc_0_0_,oc_0_1_,bv p.2.late],.arr oc_0_0_ 1 true (List.map eI64 p.2.Problem.Periods),.arr oc_0_1_ 4 true (List.map Zap p.2.Problem.Uses)]) ?_ N _ ax _ ao ⟨a4,bc0_1_,H7,kr,(Fp.pick hH [1,2,0] rfl)⟩).mono ?_)
 ·clear h ao
  rintro ⟨i11,b12,bl⟩ o s h hR
  obtain ⟨a8,a9,b2,rfl,hH⟩:=hR
  replace hH:Fp _ _ _ [.arr a8 1 true (List.map eI64 l6),.arr a9 4 true (List.map Zap bl),.cel p0_ [a8,a9,bv b12]]:=hH
  have hfa8:=ZaS (Fp.get hH 0 rfl)
  have hfa9:=ZaS (Fp.get hH 1 rfl)
  replace h:Zc2 N a0_ a1_ a2_ a3_ l6 i11 b12 bl=some o:=h
  unfold Zc2 at h
  refine sq (rg Zab.f (tq (sq (it h (λaX h=>?_) (λaX h=>?_)))))
  ·refine sk (tq (kq (sq (bk (sq (rg Zab.f (tq (sq ?_))))))))
   obtain ⟨ag,aV,h⟩:=bs h
   refine rg (Zab.v 4 (Zaz (hc:=Znr N a1_ a2_ a3_ i11 ag aV)) Zab.f) (tq (sq (sq (rg Zab.f (tq (it h (λaW h=>?_) (λaW h=>?_)))))))
   ·refine sq (rg Zab.f (tq (rt (tr (br (tr ?_))))))
    cases h
    exact ⟨_,rfl,rfl,⟨[iv ag.2],kr,a8,a9,kr,Fp.pk hH [2,0,1] rfl⟩⟩
   refine sk (tq (kq (sq (sq (rg (Zab.u 1 (Zan (ys:=[Zbg false ag.1]) (h:=Zax ZaZ)) Zab.f) (tq (bk ?_)))))))
   obtain ⟨ad,ap,h⟩:=bs h
   refine ZaT ((ZaI (λ(x:Int×(List ZaB)) s=>∃ (a6:AV) (a7:AV) (an:List HO),s=⟨[(0,.ptr p0_ 0),(5,.loc 5 0),(6,.loc 6 0),(7,.loc 7 0),(9,iv ((List.length a0_.Problem.Periods:Nat):Int)),(10,iv i11),(40,iv ((List.length a3_.Routes:Nat):Int)),(41,iv i11),(55,Zbg false ag.1),(56,iv ((List.length ag.1:Nat):Int)),(57,iv x.1)],[(5,(Zac a1_)),(6,(Zak a2_)),(7,(Zai a3_))],an⟩/\Fp H an [.cel p0_ [bc0_0_,bc0_1_,bv a0_.late],.arr bc0_0_ 1 true (List.map eI64 a0_.Problem.Periods),.arr bc0_1_ 4 true (List.map Zap a0_.Problem.Uses)] [.arr a6 1 true (List.map eI64 l6),.arr a7 4 true (List.map Zap x.2),.cel p0_ [a6,a7,bv b12]]) (λx:Int×(List ZaB)=>Zc1 N a0_ a2_ a3_ ag x.1 x.2) (λ(p:(List ZaB)) e s=>e=.exit 2/\(∃ (a1:AV) (a0:AV) (ab:List HO),s=⟨[(0,.ptr p0_ 0),(5,.loc 5 0),(6,.loc 6 0),(7,.loc 7 0),(9,iv ((List.length a0_.Problem.Periods:Nat):Int)),(10,iv i11),(40,iv ((List.length a3_.Routes:Nat):Int)),(41,iv i11)],[(5,(Zac a1_)),(6,(Zak a2_)),(7,(Zai a3_))],ab⟩/\Fp H ab [.cel p0_ [bc0_0_,bc0_1_,bv a0_.late],.arr bc0_0_ 1 true (List.map eI64 a0_.Problem.Periods),.arr bc0_1_ 4 true (List.map Zap a0_.Problem.Uses)] [.arr a1 1 true (List.map eI64 l6),.arr a0 4 true (List.map Zap p),.cel p0_ [a1,a0,bv b12]])) ?_ N _ ad _ ap ⟨a8,a9,b2,kr,(Fp.pick hH [0,1,2] rfl)⟩).mono ?_)
   ·clear h ap
    rintro ⟨aU,aT⟩ o s h hR
    obtain ⟨a6,a7,an,rfl,hH⟩:=hR
    replace hH:Fp _ _ _ [.arr a6 1 true (List.map eI64 l6),.arr a7 4 true (List.map Zap aT),.cel p0_ [a6,a7,bv b12]]:=hH
    have be:=ZaS (Fp.get hH 0 rfl)
    have a2:=ZaS (Fp.get hH 1 rfl)
    replace h:Zc1 N a0_ a2_ a3_ ag aU aT=some o:=h
    unfold Zc1 at h
    refine sq (rg Zab.f (tq (sq (it h (λaK h=>?_) (λaK h=>?_)))))
    ·refine sk (tq (kq (sq (bk (sq ?_)))))
     obtain ⟨a5,aq,h⟩:=bs h
     refine rg (Zab.u 0 (Zan (ys:=[Zbg false ag.1,iv aU]) (h:=Zal ZaZ aq)) (Zab.u 0 (Zav (sz:=5) (off:=0) (cs:=[.int .i64 a5.Port,.int .i64 a5.Early,.int .i64 a5.Late,.int .i64 a5.Open,.int .i64 a5.Long]) (r:=.agg (Zcn a5)) ZaZ aq) Zab.f)) (tq (sq ?_))
     obtain ⟨ai,aD,h⟩:=bs h
     refine rg (Zab.v 4 (Zaz (hc:=ZhW N a5.Early a2_.Grid ai aD)) Zab.f) (tq (sq ?_))
     obtain ⟨av,aC,h⟩:=bs h
     refine rg (Zab.v 11 (Zaz (hc:=ZhW N (w64 ((w64 ((w64 (a5.Open+a5.Long))+a2_.Grid))-1)) a2_.Grid av aC)) Zab.f) (tq (sq ?_))
     obtain ⟨au,aB,h⟩:=bs h
     refine rq (Zab.u 4 (Za1 (hc:=ZhW N ai a3_.Period au aB)) Zab.f) (tq ?_)
     have ar:=Fp.get hH 2 rfl
     obtain ⟨ay,aE,h⟩:=bs h
     obtain ⟨aa,b1,aL,hH⟩:=Fp.app (k:=1) (a:=a7) (sz:=4) (frz:=true) Zap hH rfl aE
     replace hH:Fp _ _ _ [.arr a6 1 true (List.map eI64 l6),.arr aa 4 true (List.map Zap ay),.cel p0_ [a6,a7,bv b12]]:=hH
     have a3:=ZaS (Fp.get hH 1 rfl)
     obtain ⟨b0,aR,hH⟩:=Fp.setCell (k:=2) (off:=1) (cs:=[a6,a7,bv b12]) (vs:=[aa]) (cs':=[a6,aa,bv b12]) hH rfl kr
     replace hH:Fp _ _ _ [.arr a6 1 true (List.map eI64 l6),.arr aa 4 true (List.map Zap ay),.cel p0_ [a6,aa,bv b12]]:=hH
     refine rq (Zab.u 5 (ZaK (ZaD (H:=an) (id:=p0_) (off:=1) (cs:=[a6,a7,bv b12]) (c:=[a7]) (r:=a7) (by cases a2<;>kernel_rfl) (by cases a2<;>kernel_rfl) ar (by cases a2<;>kernel_rfl) (by cases a2<;>kernel_rfl) (by cases a2<;>kernel_rfl)) (by cases a2<;>kernel_rfl)) (Zab.h 9 (Ze9 (H:=an) (a:=a7) (b:=Zas true [(ZaB.mk ((List.length a0_.Problem.Periods:Nat):Int) a5.Port (w64 (ai-(w64 (au*a3_.Period)))) (w64 (av-ai)))]) (by cases a2<;>kernel_rfl) (by cases a2<;>kernel_rfl) (by cases a2<;>kernel_rfl) (by cases a2<;>kernel_rfl) aL) (Zab.o 3 (Zmn (Zhr (H:=b1) (v:=aa) (cs:=[aa]) (by cases a3<;>kernel_rfl) (by cases a3<;>kernel_rfl) (by cases a3<;>kernel_rfl) (by cases a3<;>kernel_rfl) (by cases a3<;>kernel_rfl) aR) (by cases a3<;>kernel_rfl)) Zab.f))) (bn (tq (rg Zab.f ?_)))
     cases h
     exact ⟨_,rfl,⟨a6,aa,b0,kr,(Fp.pick hH [0,1,2] rfl)⟩⟩
    refine kq (xq (tx ?_))
    cases h
    exact ⟨_,rfl,rfl,⟨a6,a7,an,kr,(Fp.pick hH [0,1,2] rfl)⟩⟩
   rintro e s hq
   obtain ⟨rfl,hR⟩:=hq
   obtain ⟨a1,a0,ab,rfl,hH⟩:=hR
   replace hH:Fp _ _ _ [.arr a1 1 true (List.map eI64 l6),.arr a0 4 true (List.map Zap ad),.cel p0_ [a1,a0,bv b12]]:=hH
   have bd:=ZaS (Fp.get hH 0 rfl)
   have bc:=ZaS (Fp.get hH 1 rfl)
   refine bx (tq (sq ?_))
   obtain ⟨ac,aA,h⟩:=bs h
   refine rg (Zab.v 4 (Zaz (hc:=Znq N a1_ a2_ a3_ i11 ac aA)) Zab.f) (tq (sq (sq (rg Zab.f (tq (it h (λaJ h=>?_) (λaJ h=>?_)))))))
   ·refine sq (rg Zab.f (tq (rt (tr (br (tr ?_))))))
    cases h
    exact ⟨_,rfl,rfl,⟨[iv ac.2],kr,a1,a0,kr,Fp.pk hH [2,0,1] rfl⟩⟩
   refine sk (tq (kq ?_))
   obtain ⟨az,hj,h⟩:=bs h
   refine rgR (λs=>∃ (af:AV) (ae:AV) (ak:List HO),s=⟨[(0,.ptr p0_ 0),(5,.loc 5 0),(6,.loc 6 0),(7,.loc 7 0),(9,iv ((List.length a0_.Problem.Periods:Nat):Int)),(40,iv ((List.length a3_.Routes:Nat):Int)),(41,iv i11)],[(5,(Zac a1_)),(6,(Zak a2_)),(7,(Zai a3_))],ak⟩/\Fp H ak [.cel p0_ [bc0_0_,bc0_1_,bv a0_.late],.arr bc0_0_ 1 true (List.map eI64 a0_.Problem.Periods),.arr bc0_1_ 4 true (List.map Zap a0_.Problem.Uses)] [.arr af 1 true (List.map eI64 l6),.arr ae 4 true (List.map Zap ad),.cel p0_ [af,ae,bv az]]) ?_ ?_
   ·clear h
    have aj:=Fp.get hH 2 rfl
    rcases ZaC hj with ⟨aI,hj⟩|⟨aG,hj⟩
    ·refine (EP.u 4 (ZaM.bool (ZaD (H:=ab) (id:=p0_) (off:=2) (cs:=[a1,a0,bv b12]) (c:=[bv b12]) (r:=bv b12) (hl:=aj)) aI) ?_)
     obtain ⟨aZ,aQ,hH⟩:=Fp.setCell (k:=2) (off:=2) (cs:=[a1,a0,bv b12]) (vs:=[bv true]) (cs':=[a1,a0,bv true]) hH rfl kr
     replace hH:Fp _ _ _ [.arr a1 1 true (List.map eI64 l6),.arr a0 4 true (List.map Zap ad),.cel p0_ [a1,a0,bv true]]:=hH
     obtain rfl:=Zao hj
     exact (EP.o 12 (Zbe (H:=ab) (v:=bv true) (hw:=aQ)) (EP.f ⟨a1,a0,aZ,kr,(Fp.pick hH [0,1,2] rfl)⟩))
    refine (EP.u 4 (ZaM.bool (ZaD (H:=ab) (id:=p0_) (off:=2) (cs:=[a1,a0,bv b12]) (c:=[bv b12]) (r:=bv b12) (hl:=aj)) aG) ?_)
    obtain ⟨aY,aM,hH⟩:=Fp.setCell (k:=2) (off:=2) (cs:=[a1,a0,bv b12]) (vs:=[bv (decide ((w64 (ac.1+(w64 (2*a2_.Slack))))>a3_.Deadline))]) (cs':=[a1,a0,bv (decide ((w64 (ac.1+(w64 (2*a2_.Slack))))>a3_.Deadline))]) hH rfl kr
    replace hH:Fp _ _ _ [.arr a1 1 true (List.map eI64 l6),.arr a0 4 true (List.map Zap ad),.cel p0_ [a1,a0,bv (decide ((w64 (ac.1+(w64 (2*a2_.Slack))))>a3_.Deadline))]]:=hH
    obtain rfl:=Zao hj
    exact (EP.o 12 (Zbe (H:=ab) (v:=bv (decide ((w64 (ac.1+(w64 (2*a2_.Slack))))>a3_.Deadline))) (hw:=aM)) (EP.f ⟨a1,a0,aY,kr,(Fp.pick hH [0,1,2] rfl)⟩))
   clear hj
   rintro s hR
   obtain ⟨af,ae,ak,rfl,hH⟩:=hR
   replace hH:Fp _ _ _ [.arr af 1 true (List.map eI64 l6),.arr ae 4 true (List.map Zap ad),.cel p0_ [af,ae,bv az]]:=hH
   have bb:=ZaS (Fp.get hH 0 rfl)
   have ba:=ZaS (Fp.get hH 1 rfl)
   refine bn (tq (kq (rg Zab.f ?_)))
   cases h
   exact ⟨_,rfl,⟨af,ae,ak,kr,(Fp.pick hH [0,1,2] rfl)⟩⟩
  refine kq (xq (tx ?_))
  cases h
  exact ⟨_,rfl,rfl,⟨a8,a9,b2,kr,(Fp.pick hH [0,1,2] rfl)⟩⟩
 rintro e s hq
 rcases ax with aw|bj
 ·dsimp only at h hq
  obtain ⟨rfl,hR⟩:=hq
  obtain ⟨am,al,aS,rfl,hH⟩:=hR
  replace hH:Fp _ _ _ [.arr am 1 true (List.map eI64 l6),.arr al 4 true (List.map Zap aw.2),.cel p0_ [am,al,bv aw.1]]:=hH
  have bi:=ZaS (Fp.get hH 0 rfl)
  have bf:=ZaS (Fp.get hH 1 rfl)
  refine bx (tq (sq (rg Zab.f (tq (rt ?_)))))
  cases h
  exact ⟨[iv 0],kr,am,al,kr,Fp.pk hH [2,0,1] rfl⟩
 dsimp only at h hq
 obtain ⟨rfl,hq⟩:=hq
 refine br (tr ?_)
 cases h
 exact hq
theorem Zex (N:Nat)(a0_:Zag)(a1_:ZaE)(a2_:(List Zah))(r:Zaw×Int)(h:ZfG N a0_ a1_ a2_=some r):Zba Tryz.prog 8 [.agg (Zac a0_),.agg (Zak a1_),Zaf false a2_] (.tup [.agg [Zad false r.1.Periods,Zas false r.1.Uses],iv r.2]):=by
 unfold ZfG at h
 have hH  := hp0
 refine ZaG chk8 rfl rfl (Zay _ _ _ ?_) rfl
 refine sq (rg Zab.f (tq (sq (sq ?_))))
 obtain ⟨r1,hr1,h⟩:=bs h
 refine rg (Zab.v 1 (Zaz (hc:=ZgS N a0_ ([]) r1 hr1)) Zab.f) (tq (sq (rg Zab.f (tq (it h (λhc2 h=>?_) (λhc2 h=>?_))))))
 ·refine sq (rg Zab.f (tq (rt (tr ?_))))
  cases h
  exact ZaA kr
 refine sk (tq (kq (sq (sq ?_))))
 obtain ⟨r3,hr3,h⟩:=bs h
 refine rg (Zab.v 1 (Zaz (hc:=Zgb N a1_ r3 hr3)) Zab.f) (tq (sq (rg Zab.f (tq (it h (λhc4 h=>?_) (λhc4 h=>?_))))))
 ·refine sq (rg Zab.f (tq (rt (tr ?_))))
  cases h
  exact ZaA kr
 refine sk (tq (kq (sq (sq ?_))))
 obtain ⟨r5,hr5,h⟩:=bs h
 refine rg (Zab.v 2 (Zaz (hc:=ZgS N a0_ a2_ r5 hr5)) Zab.f) (tq (sq (rg Zab.f (tq (it h (λhc6 h=>?_) (λhc6 h=>?_))))))
 ·refine sq (rg Zab.f (tq (rt (tr ?_))))
  cases h
  exact ZaA kr
 refine sk (tq (kq (sq ?_)))
 obtain ⟨id7,H8,hid7,hH8,hH⟩:=HP.newCell hH [Zad true [],Zas true [],bv false]
 replace hH:HP _ [.cel id7 [Zad true [],Zas true [],bv false]]:=hH
 refine rg (Zab.h 0 (Zir (H:=[]) kr hid7 hH8) Zab.f) (tq (sq (sq (rg (Zab.u 1 (Zan (ys:=[Zaf false a2_]) (h:=Zax Zar)) Zab.f) (tq (bk ?_))))))
 obtain ⟨am,aa,h⟩:=bs h
 refine ZaT ((ZaI (λ(x:Int×Bool×(List Int)×(List ZaB)) s=>∃ (a9:AV) (a7:AV) (al:List HO),s=⟨[(3,.loc 3 0),(4,.loc 4 0),(6,.loc 6 0),(11,.ptr id7 0),(35,Zaf false a2_),(36,iv ((List.length a2_:Nat):Int)),(37,iv x.1)],[(3,(Zac a0_)),(4,(Zak a1_)),(6,[Zad true [],Zas true []])],al⟩/\HP al [.arr a9 1 true (List.map eI64 x.2.2.1),.arr a7 4 true (List.map Zap x.2.2.2),.cel id7 [a9,a7,bv x.2.1]]) (λx:Int×Bool×(List Int)×(List ZaB)=>ZfF N a0_ a1_ a2_ x.1 x.2.1 x.2.2.1 x.2.2.2) (λ(p:(Bool×(List Int)×(List ZaB))⊕(Zaw×Int)) e s=>match p with|(.inl p)=>e=.exit 0/\(∃ (a4:AV) (a3:AV) (a6:List HO),s=⟨[(6,.loc 6 0),(11,.ptr id7 0)],[(6,[Zad true [],Zas true []])],a6⟩/\HP a6 [.arr a4 1 true (List.map eI64 p.2.1),.arr a3 4 true (List.map Zap p.2.2),.cel id7 [a4,a3,bv p.1]])|(.inr p)=>e=.ret/\∃ xs,resL s i8.res=some xs/\ZbV xs=.tup [.agg [Zad false p.1.Periods,Zas false p.1.Uses],iv p.2]) ?_ N _ am _ aa ⟨(.p (.sl 1 true [])),(.p (.sl 4 true [])),H8,kr,(HP.pick (HP.nilArr (HP.nilArr hH 4 true) 1 true) [0,1,2] rfl)⟩).mono ?_)
 ·clear h aa
  rintro ⟨i12,b13,aw,av⟩ o s h hR
  obtain ⟨a9,a7,al,rfl,hH⟩:=hR
  replace hH:HP _ [.arr a9 1 true (List.map eI64 aw),.arr a7 4 true (List.map Zap av),.cel id7 [a9,a7,bv b13]]:=hH
  have hfa9:=ZaS (HP.get hH 0 rfl)
  have aE:=ZaS (HP.get hH 1 rfl)
  replace h:ZfF N a0_ a1_ a2_ i12 b13 aw av=some o:=h
  unfold ZfF at h
  refine sq (rg Zab.f (tq (sq (it h (λau h=>?_) (λau h=>?_)))))
  ·refine sk (tq (kq (sq (bk (sq ?_)))))
   obtain ⟨a5,ab,h⟩:=bs h
   refine rg (Zab.u 0 (Zan (ys:=[Zaf false a2_,iv i12]) (h:=Zal Zar ab)) (Zab.u 0 (Zav (sz:=10) (off:=0) (cs:=[.int .i64 a5.Id,.int .i64 a5.Talker,.int .i64 a5.Listener,.int .i64 a5.Class,.int .i64 a5.Size,.int .i64 a5.Period,.int .i64 a5.Bucket.Burst,.int .i64 a5.Bucket.Rate,.int .i64 a5.Deadline,.sl 1 false (List.map (eSl 1 eI64) a5.Routes)]) (r:=.agg (Zai a5)) Zar ab) Zab.f)) (tq (sq (sq (rg Zab.f (tq (it h (λar h=>?_) (λar h=>?_)))))))
   ·refine kq (xq (tx (bx (tq (kq (rg Zab.f ?_))))))
    cases h
    exact ⟨_,rfl,⟨a9,a7,al,kr,(HP.pick hH [0,1,2] rfl)⟩⟩
   refine sk (tq (kq (sq ?_)))
   obtain ⟨a8,ao,h⟩:=bs h
   have hl_a9:=HP.get hH 0 rfl
   have aA:=HP.get hH 1 rfl
   obtain ⟨aj,ai,aD,ad,af⟩:=ZkR N (ZbC.mk (Zaw.mk aw av) b13) a0_ a1_ a5  id7 a9 a7 al (HP.now (HP.pick hH [2,0,1] rfl)) a8 ao
   replace hH:HP _ [.cel id7 [aj,ai,bv a8.2.late],.arr aj 1 true (List.map eI64 a8.2.Problem.Periods),.arr ai 4 true (List.map Zap a8.2.Problem.Uses)]:=HP.callee (fp:=[.cel id7 [a9,a7,bv b13],.arr a9 1 true (List.map eI64 aw),.arr a7 4 true (List.map Zap av)]) (rest:=[]) (HP.pick hH [2,0,1] rfl) af
   have aC:=ZaS (HP.get hH 1 rfl)
   have aB:=ZaS (HP.get hH 2 rfl)
   refine rg (Zab.v 3 (ZhM (H:=al) (ys:=[.ptr id7 0,.agg (Zac a0_),.agg (Zak a1_),.agg (Zai a5)]) kr kr [[],[],[],[]] (Zbk (Zb7 rfl) (Zbk (Zb7 rfl) (Zbk (Zb7 rfl) (Zbk (Zb7 rfl) passL_nil')))) ad) Zab.f) (tq (sq (rg Zab.f (tq (it h (λaq h=>?_) (λaq h=>?_))))))
   ·refine sq (rg Zab.f ?_)
    replace hH:HP _ []:=HP.pick hH [] rfl
    refine tq (rt (br (tr ?_)))
    cases h
    exact ⟨_,rfl,rfl,ZaA kr⟩
   refine sk (bn (tq (kq (rg Zab.f ?_))))
   cases h
   exact ⟨_,rfl,⟨aj,ai,aD,kr,(HP.pick hH [1,2,0] rfl)⟩⟩
  refine kq (xq (tx ?_))
  cases h
  exact ⟨_,rfl,rfl,⟨a9,a7,al,kr,(HP.pick hH [0,1,2] rfl)⟩⟩
 rintro e s hq
 rcases am with a2|aG
 ·dsimp only at h hq
  obtain ⟨rfl,hR⟩:=hq
  obtain ⟨a4,a3,a6,rfl,hH⟩:=hR
  replace hH:HP _ [.arr a4 1 true (List.map eI64 a2.2.1),.arr a3 4 true (List.map Zap a2.2.2),.cel id7 [a4,a3,bv a2.1]]:=hH
  have a1:=ZaS (HP.get hH 0 rfl)
  have a0:=ZaS (HP.get hH 1 rfl)
  refine bx (tq (sq (sq ?_)))
  obtain ⟨az,an,h⟩:=bs h
  have ay:=HP.get hH 0 rfl
  have ax:=HP.get hH 1 rfl
  obtain ⟨ak,ac,ae⟩:=ZjO N (ZbC.mk (Zaw.mk a2.2.1 a2.2.2) a2.1)  id7 a4 a3 a6 (HP.now (HP.pick hH [2,0,1] rfl)) az an
  replace hH:HP _ [.cel id7 [a4,a3,bv a2.1],.arr a4 1 true (List.map eI64 a2.2.1),.arr a3 4 true (List.map Zap a2.2.2)]:=HP.callee (fp:=[.cel id7 [a4,a3,bv a2.1],.arr a4 1 true (List.map eI64 a2.2.1),.arr a3 4 true (List.map Zap a2.2.2)]) (rest:=[]) (HP.pick hH [2,0,1] rfl) ae
  refine rg (Zab.v 0 (ZhM (H:=a6) (ys:=[.ptr id7 0]) kr kr [[]] (Zbk (Zb7 rfl) passL_nil') ac) Zab.f) (tq (sq (rg Zab.f (tq (it h (λap h=>?_) (λap h=>?_))))))
  ·refine sq (rg Zab.f ?_)
   replace hH:HP _ []:=HP.pick hH [] rfl
   refine tq (rt (tr ?_))
   cases h
   exact ZaA kr
  refine sk (tq (kq (sq ?_)))
  have ag:=HP.get hH 0 rfl
  refine rgS ⟨[(6,.loc 6 0),(7,iv 0)],[(6,[a4,a3])],ak⟩ (Zab.u 1 (ZaD (H:=ak) (id:=id7) (off:=0) (cs:=[a4,a3,bv a2.1]) (c:=[a4,a3]) (r:=.agg [a4,a3]) (by cases a1<;>cases a0<;>kernel_rfl) (by cases a1<;>cases a0<;>kernel_rfl) ag (by cases a1<;>cases a0<;>kernel_rfl) (by cases a1<;>cases a0<;>kernel_rfl) (by cases a1<;>cases a0<;>kernel_rfl)) (Zab.f (h:=(by cases a1<;>cases a0<;>kernel_rfl)))) (by cases a1<;>cases a0<;>kernel_rfl) ?_
  replace hH:HP _ [.arr a4 1 true (List.map eI64 a2.2.1),.arr a3 4 true (List.map Zap a2.2.2)]:=HP.pick hH [1,2] rfl
  refine tq (rt ?_)
  obtain rfl:=Zao h
  exact ZeB (H:=ak) (ys:=[.agg [a4,a3],iv 0]) (xs:=[.agg [.p (.sl 1 false (List.map eI64 a2.2.1)),.p (.sl 4 false (List.map Zap a2.2.2))],iv 0]) (by cases a1<;>cases a0<;>kernel_rfl) (by cases a1<;>cases a0<;>kernel_rfl) (Zbs (Zkc (Zb6 (HP.pure (k:=0) (frz:=true) eI64 hH rfl).1 (Zb6 (HP.pure (k:=1) (frz:=true) Zap hH rfl).1 Zkd))) (Zbs rfl Zci)) kr
 dsimp only at h hq
 obtain ⟨rfl,hq⟩:=hq
 refine br (tr ?_)
 cases h
 exact hq
theorem ZfH (N:Nat)(a0_:(List Zah))(r:Zaw×Int)(h:Zg4 N a0_=some r):Zba Tryz.prog 29 [Zaf false a0_] (.tup [.agg [Zad false r.1.Periods,Zas false r.1.Uses],iv r.2]):=by
 unfold Zg4 at h
 have hH  := hp0
 refine ZaG ZLy rfl rfl (Zay _ _ _ ?_) rfl
 refine sq (rg Zab.f (tq (sq ?_)))
 obtain ⟨r1,hr1,h⟩:=bs h
 obtain ⟨r2,hr2,h⟩:=bs h
 refine rg (Zab.v 0 (Zaz (hc:=ZoQ N  r1 hr1)) (Zab.v 2 (Zaz (hc:=Zex N r1 (ZaE.mk 100 2 10 8000) a0_ r2 hr2)) Zab.f)) (tq (rt ?_))
 cases h
 exact ZaA kr
theorem ZnM (N:Nat)(r:Bool)(h:ZgJ N=some r):Zba Tryz.prog 11 [] (bv r):=by
 unfold ZgJ at h
 have hH  := hp0
 refine ZaG ZLQ rfl rfl (Zay _ _ _ ?_) rfl
 refine sq (rg Zab.f (tq (sq ?_)))
 obtain ⟨r1,hr1,h⟩:=bs h
 obtain ⟨r2,hr2,h⟩:=bs h
 refine rg (Zab.v 0 (Zaz (hc:=Zcf N 1 20 10000 r1 hr1)) (Zab.v 1 (Zaz (hc:=ZfH N ([r1]) r2 hr2)) Zab.f)) (tq (sq ?_))
 obtain ⟨r3,hr3,h⟩:=bs h
 obtain ⟨r4,hr4,h⟩:=bs h
 refine rg (Zab.v 0 (Zaz (hc:=Zcf N 1 8 10000 r3 hr3)) (Zab.v 1 (Zaz (hc:=ZfH N ([r3]) r4 hr4)) Zab.f)) (tq (sq ?_))
 obtain ⟨r5,hr5,h⟩:=bs h
 obtain ⟨r6,hr6,h⟩:=bs h
 refine rg (Zab.v 0 (Zaz (hc:=Zcf N 1 20 1718 r5 hr5)) (Zab.v 1 (Zaz (hc:=ZfH N ([r5]) r6 hr6)) Zab.f)) (tq (sq ?_))
 obtain ⟨r7,hr7,h⟩:=bs h
 obtain ⟨r8,hr8,h⟩:=bs h
 obtain ⟨r9,hr9,h⟩:=bs h
 refine rg (Zab.v 0 (Zaz (hc:=Zcf N 1 20 10000 r7 hr7)) (Zab.v 0 (Zaz (hc:=Zcf N 2 30 10000 r8 hr8)) (Zab.v 1 (Zaz (hc:=ZfH N ([r7,r8]) r9 hr9)) Zab.f))) (tq (sq ?_))
 obtain ⟨bc,ak,h⟩:=bs h
 obtain ⟨bb,aj,h⟩:=bs h
 obtain ⟨a0,ai,h⟩:=bs h
 refine rg (Zab.v 0 (Zaz (hc:=Zcf N 1 40 10000 bc ak)) (Zab.v 0 (Zaz (hc:=Zcf N 2 40 10000 bb aj)) (Zab.v 1 (Zaz (hc:=ZfH N ([bc,bb]) a0 ai)) Zab.f))) (tq (sq ?_))
 obtain ⟨a8,ag,h⟩:=bs h
 refine rg (Zab.v 0 (Zaz (hc:=ZfH N ([]) a8 ag)) Zab.f) (tq (sq ?_))
 obtain ⟨a1,af,h⟩:=bs h
 refine rg (Zab.v 1 (Zaz (hc:=Zke N r9.1 a1 af)) Zab.f) (tq (sq ?_))
 obtain ⟨a2,ae,h⟩:=bs h
 refine rg (Zab.v 1 (Zaz (hc:=Zke N a8.1 a2 ae)) Zab.f) (tq (sq (rg Zab.f (tq (sq (sq ?_))))))
 obtain ⟨bi,hj,h⟩:=bs h
 refine rgR (λs=>s=⟨[(4,iv r4.2),(6,iv r6.2),(7,.loc 7 0),(9,.loc 9 0),(13,iv a1.1),(15,iv a2.1),(97,bv bi)],[(7,(Zaj r9.1)),(9,(Zaj a0.1))],[]⟩) ?_ ?_
 ·clear h
  rcases ZaC hj with ⟨aY,hj⟩|⟨aX,hj⟩
  ·obtain rfl:=Zao hj
   exact (EP.u 1 (Zam (c:=(r2.2 != 0)) (h:=aY)) (EP.f kr))
  refine (EP.u 1 (Zam (c:=(r2.2 != 0)) (h:=aX)) ?_)
  rcases ZaC hj with ⟨aW,hj⟩|⟨aV,hj⟩
  ·obtain rfl:=Zao hj
   exact (EP.u 2 (Zam (c:=(r9.2 != 0)) (h:=aW)) (EP.f kr))
  refine (EP.u 2 (Zam (c:=(r9.2 != 0)) (h:=aV)) ?_)
  rcases ZaC hj with ⟨aU,hj⟩|⟨aT,hj⟩
  ·obtain rfl:=Zao hj
   exact (EP.u 3 (Zam (c:=(a0.2 != 0)) (h:=aU)) (EP.f kr))
  refine (EP.u 3 (Zam (c:=(a0.2 != 0)) (h:=aT)) ?_)
  rcases ZaC hj with ⟨aS,hj⟩|⟨aR,hj⟩
  ·obtain rfl:=Zao hj
   exact (EP.u 3 (Zam (c:=(a8.2 != 0)) (h:=aS)) (EP.f kr))
  refine (EP.u 3 (Zam (c:=(a8.2 != 0)) (h:=aR)) ?_)
  rcases ZaC hj with ⟨aQ,hj⟩|⟨aM,hj⟩
  ·obtain rfl:=Zao hj
   exact (EP.u 3 (Zam (c:=(a1.2 != 0)) (h:=aQ)) (EP.f kr))
  refine (EP.u 3 (Zam (c:=(a1.2 != 0)) (h:=aM)) ?_)
  rcases ZaC hj with ⟨aL,hj⟩|⟨aK,hj⟩
  ·obtain rfl:=Zao hj
   exact (EP.u 3 (Zam (c:=(a2.2 != 0)) (h:=aL)) (EP.f kr))
  refine (EP.u 3 (Zam (c:=(a2.2 != 0)) (h:=aK)) ?_)
  obtain ⟨be,ad,hj⟩:=bs hj
  obtain rfl:=Zao hj
  exact (EP.v 4 (Zaz (hc:=ZcQ N r2.1 (Zaw.mk ([20]) ([(ZaB.mk 0 0 0 8),(ZaB.mk 0 2 8 9)])) be ad)) (EP.f kr))
 clear hj
 rintro s hR
 obtain rfl:=hR
 refine tq (it h (λaJ h=>?_) (λaJ h=>?_))
 ·refine sq (rg Zab.f (tq (rt (tr ?_))))
  cases h
  exact ZaA kr
 refine sk (tq (kq (sq ?_)))
 obtain ⟨aa,hj,h⟩:=bs h
 refine rgR (λs=>s=⟨[(4,iv r4.2),(6,iv r6.2),(9,.loc 9 0),(13,iv a1.1),(15,iv a2.1),(18,bv aa)],[(9,(Zaj a0.1))],[]⟩) ?_ ?_
 ·clear h
  obtain ⟨ba,a7,hj⟩:=bs hj
  rcases ZaC hj with ⟨aI,hj⟩|⟨aB,hj⟩
  ·refine (EP.h 1 (ZbB kr (Zcu N r9.1 0 8 ba a7) aI) ?_)
   obtain ⟨b2,a6,hj⟩:=bs hj
   rcases ZaC hj with ⟨aG,hj⟩|⟨aC,hj⟩
   ·refine (EP.h 2 (ZbB kr (Zcu N r9.1 0 9 b2 a6) aG) ?_)
    obtain ⟨b1,a5,hj⟩:=bs hj
    rcases ZaC hj with ⟨aE,hj⟩|⟨aD,hj⟩
    ·refine (EP.h 3 (ZbB kr (Zcu N r9.1 0 10 b1 a5) aE) ?_)
     obtain ⟨bd,ac,hj⟩:=bs hj
     obtain rfl:=Zao hj
     exact (EP.v 3 (Zaz (hc:=Zcu N r9.1 0 2 bd ac)) (EP.f kr))
    obtain rfl:=Zao hj
    exact (EP.h 3 (ZbB kr (Zcu N r9.1 0 10 b1 a5) aD) (EP.f kr))
   obtain rfl:=Zao hj
   exact (EP.h 2 (ZbB kr (Zcu N r9.1 0 9 b2 a6) aC) (EP.f kr))
  obtain rfl:=Zao hj
  exact (EP.h 1 (ZbB kr (Zcu N r9.1 0 8 ba a7) aB) (EP.f kr))
 clear hj
 rintro s hR
 obtain rfl:=hR
 refine tq (sq ?_)
 obtain ⟨bf,hj,h⟩:=bs h
 refine rgR (λs=>s=⟨[(0,bv bf)],[],[]⟩) ?_ ?_
 ·clear h
  rcases ZaC hj with ⟨aA,hj⟩|⟨al,hj⟩
  ·refine (EP.u 1 (Zam (c:=(r4.2==341)) (h:=aA)) ?_)
   rcases ZaC hj with ⟨az,hj⟩|⟨am,hj⟩
   ·refine (EP.u 2 (Zam (c:=(r6.2==342)) (h:=az)) ?_)
    rcases ZaC hj with ⟨ay,hj⟩|⟨an,hj⟩
    ·refine (EP.u 2 (Zam (c:=aa) (h:=ay)) ?_)
     obtain ⟨b0,a4,hj⟩:=bs hj
     rcases ZaC hj with ⟨ax,hj⟩|⟨ao,hj⟩
     ·refine (EP.h 4 (ZbB kr (Zfk N a0.1 ([0,9]) b0 a4) ax) ?_)
      obtain ⟨a9,ab,hj⟩:=bs hj
      refine (EP.v 4 (Zaz (hc:=Zfk N a0.1 ([0,8]) a9 ab)) ?_)
      rcases ZaC hj with ⟨aw,hj⟩|⟨ap,hj⟩
      ·refine (EP.u 0 (Zam (c:=(!a9)) (h:=aw)) ?_)
       obtain ⟨aZ,a3,hj⟩:=bs hj
       rcases ZaC hj with ⟨av,hj⟩|⟨aq,hj⟩
       ·refine (EP.h 4 (ZbB kr (Zfk N a0.1 ([35,4]) aZ a3) av) ?_)
        rcases ZaC hj with ⟨au,hj⟩|⟨ar,hj⟩
        ·obtain rfl:=Zao hj
         exact (EP.u 3 (Zam (c:=(a1.1==60)) (h:=au)) (EP.f kr))
        obtain rfl:=Zao hj
        exact (EP.u 3 (Zam (c:=(a1.1==60)) (h:=ar)) (EP.f kr))
       obtain rfl:=Zao hj
       exact (EP.h 4 (ZbB kr (Zfk N a0.1 ([35,4]) aZ a3) aq) (EP.f kr))
      obtain rfl:=Zao hj
      exact (EP.u 0 (Zam (c:=(!a9)) (h:=ap)) (EP.f kr))
     obtain rfl:=Zao hj
     exact (EP.h 4 (ZbB kr (Zfk N a0.1 ([0,9]) b0 a4) ao) (EP.f kr))
    obtain rfl:=Zao hj
    exact (EP.u 2 (Zam (c:=aa) (h:=an)) (EP.f kr))
   obtain rfl:=Zao hj
   exact (EP.u 2 (Zam (c:=(r6.2==342)) (h:=am)) (EP.f kr))
  obtain rfl:=Zao hj
  exact (EP.u 1 (Zam (c:=(r4.2==341)) (h:=al)) (EP.f kr))
 clear hj
 rintro s hR
 obtain rfl:=hR
 refine tq (rt ?_)
 cases h
 exact ZaA kr
end Go.Sh

