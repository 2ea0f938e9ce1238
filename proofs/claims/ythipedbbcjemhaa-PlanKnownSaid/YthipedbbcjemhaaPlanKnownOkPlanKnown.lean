/- Part of the proof. -/
import Derived.Test.YthipedbbcjemhaaPlanKnownOk2
namespace Go.Sh
open Go Go.Eng Go.Proofs
set_option maxRecDepth 100000
set_option maxHeartbeats 4000000
attribute [local irreducible] vc ev ZcK opsD opsF ZeM upd updH updO
theorem law24_PlanKnown_ok (N:Nat)(r:Bool)(h:law24_PlanKnown N=some r):PCall Try.prog 7 [] (bv r):=by
 unfold law24_PlanKnown at h
 have hH:HP ([]:List HO) []:=trivial
 refine ZE chk7 rfl rfl (Zq _ _ _ ?_) rfl
 refine sq (rg Za.f (tq (sq (rg Za.f (tq (sq ?_))))))
 obtain ⟨r1,hr1,h⟩:=bs h
 obtain ⟨r2,hr2,h⟩:=bs h
 obtain ⟨r3,hr3,h⟩:=bs h
 obtain ⟨r4,hr4,h⟩:=bs h
 obtain ⟨r5,hr5,h⟩:=bs h
 obtain ⟨r6,hr6,h⟩:=bs h
 obtain ⟨r7,hr7,h⟩:=bs h
 obtain ⟨r8,hr8,h⟩:=bs h
 refine rq (Za.v 1 (Zaj (H:=[]) (fv:=.fn 22 [] []) (ys:=[iv 1,iv 0,iv 0,iv 1]) (hc:=Zb2.of kr ((ZY N 1 0 0 1 r1 hr1).frame []))) (Za.v 1 (Zaj (H:=[]) (fv:=.fn 22 [] []) (ys:=[iv (-1),iv 0,iv 0,iv 1]) (hc:=Zb2.of kr ((ZY N (-1) 0 0 1 r2 hr2).frame []))) (Za.v 1 (Zaj (H:=[]) (fv:=.fn 22 [] []) (ys:=[iv 0,iv 48,iv 0,iv 1]) (hc:=Zb2.of kr ((ZY N 0 48 0 1 r3 hr3).frame []))) (Za.v 1 (Zaj (H:=[]) (fv:=.fn 22 [] []) (ys:=[iv 0,iv (-1),iv 0,iv 1]) (hc:=Zb2.of kr ((ZY N 0 (-1) 0 1 r4 hr4).frame []))) (Za.v 1 (Zaj (H:=[]) (fv:=.fn 22 [] []) (ys:=[iv 0,iv 0,iv 4,iv 1]) (hc:=Zb2.of kr ((ZY N 0 0 4 1 r5 hr5).frame []))) (Za.v 1 (Zaj (H:=[]) (fv:=.fn 22 [] []) (ys:=[iv 0,iv 0,iv (-1),iv 1]) (hc:=Zb2.of kr ((ZY N 0 0 (-1) 1 r6 hr6).frame []))) (Za.v 1 (Zaj (H:=[]) (fv:=.fn 22 [] []) (ys:=[iv 0,iv 0,iv 0,iv 0]) (hc:=Zb2.of kr ((ZY N 0 0 0 0 r7 hr7).frame []))) (Za.v 1 (Zaj (H:=[]) (fv:=.fn 22 [] []) (ys:=[iv 0,iv 0,iv 0,iv 5]) (hc:=Zb2.of kr ((ZY N 0 0 0 5 r8 hr8).frame []))) Za.f)))))))) (tq (sq (sq (rg Za.f (tq (bk ?_))))))
 obtain ⟨bc,av,h⟩:=bs h
 refine Z9 ((ZV (fun (x:Int) s=>s=⟨[(1,.fn 22 [] []),(2,Zar true [r1,r2,r3,r4,r5,r6,r7,r8,(Zd.mk ([0]) ([])),(Zd.mk ([241]) ([])),(Zd.mk ([31,32]) ([])),(Zd.mk (List.replicate 13 0) ([])),(Zd.mk ([1]) (List.replicate 193 (Zx.mk 0 0 0 0)))]),(3,iv x)],[],[]⟩) (fun x:Int=>Zbc N r1 r2 r3 r4 r5 r6 r7 r8 x) (fun (p:(Unit)⊕(Bool)) e s=>match p with|(.inl p)=>e=.exit 0∧(s=⟨[(1,.fn 22 [] [])],[],[]⟩)|(.inr p)=>e=.ret∧∃ xs,resL s i7.res=some xs∧ZaA xs=bv p) ?_ N _ bc _ av kr).mono ?_)
 ·clear h av
  rintro i9 o s h hR
  obtain rfl:=hR
  replace h:Zbc N r1 r2 r3 r4 r5 r6 r7 r8 i9=some o:=h
  unfold Zbc at h
  refine sq (sq (rg (Za.u 2 (Zo (ys:=[Zar true [r1,r2,r3,r4,r5,r6,r7,r8,(Zd.mk ([0]) ([])),(Zd.mk ([241]) ([])),(Zd.mk ([31,32]) ([])),(Zd.mk (List.replicate 13 0) ([])),(Zd.mk ([1]) (List.replicate 193 (Zx.mk 0 0 0 0)))]]) (h:=Zv Zag)) Za.f) (tq (it h (fun ct h=>?_) (fun ct h=>?_)))))
  ·refine sk (tq (kq (sq (bk (sq ?_)))))
   obtain ⟨ao,aA,h⟩:=bs h
   obtain ⟨aQ,bS,h⟩:=bs h
   refine rg (Za.u 2 (Zo (ys:=[Zar true [r1,r2,r3,r4,r5,r6,r7,r8,(Zd.mk ([0]) ([])),(Zd.mk ([241]) ([])),(Zd.mk ([31,32]) ([])),(Zd.mk (List.replicate 13 0) ([])),(Zd.mk ([1]) (List.replicate 193 (Zx.mk 0 0 0 0)))],iv i9]) (h:=Zn Zag aA)) (Za.u 0 (ZD (sz:=2) (off:=0) (cs:=[.sl 1 false (List.map eI64 ao.Periods),.sl 4 false (List.map Zj ao.Uses)]) (r:=.agg (Ze ao)) Zag aA) (Za.v 0 (Zp (hc:=Zc2 N ao 0 0 aQ bS)) Za.f))) (tq (sq ?_))
   obtain ⟨an,az,h⟩:=bs h
   obtain ⟨aM,bR,h⟩:=bs h
   refine rg (Za.u 2 (Zo (ys:=[Zar true [r1,r2,r3,r4,r5,r6,r7,r8,(Zd.mk ([0]) ([])),(Zd.mk ([241]) ([])),(Zd.mk ([31,32]) ([])),(Zd.mk (List.replicate 13 0) ([])),(Zd.mk ([1]) (List.replicate 193 (Zx.mk 0 0 0 0)))],iv i9]) (h:=Zn Zag az)) (Za.u 0 (ZD (sz:=2) (off:=0) (cs:=[.sl 1 false (List.map eI64 an.Periods),.sl 4 false (List.map Zj an.Uses)]) (r:=.agg (Ze an)) Zag az) (Za.v 0 (Zp (hc:=ZbB N an 0 0 0 0 aM bR)) Za.f))) (tq (sq ?_))
   obtain ⟨am,ay,h⟩:=bs h
   obtain ⟨aL,bQ,h⟩:=bs h
   refine rg (Za.u 2 (Zo (ys:=[Zar true [r1,r2,r3,r4,r5,r6,r7,r8,(Zd.mk ([0]) ([])),(Zd.mk ([241]) ([])),(Zd.mk ([31,32]) ([])),(Zd.mk (List.replicate 13 0) ([])),(Zd.mk ([1]) (List.replicate 193 (Zx.mk 0 0 0 0)))],iv i9]) (h:=Zn Zag ay)) (Za.u 0 (ZD (sz:=2) (off:=0) (cs:=[.sl 1 false (List.map eI64 am.Periods),.sl 4 false (List.map Zj am.Uses)]) (r:=.agg (Ze am)) Zag ay) (Za.v 1 (Zp (hc:=Zc3 N am ([0]) aL bQ)) Za.f))) (tq (sq ?_))
   obtain ⟨al,ax,h⟩:=bs h
   obtain ⟨cw,bM,h⟩:=bs h
   refine rg (Za.u 2 (Zo (ys:=[Zar true [r1,r2,r3,r4,r5,r6,r7,r8,(Zd.mk ([0]) ([])),(Zd.mk ([241]) ([])),(Zd.mk ([31,32]) ([])),(Zd.mk (List.replicate 13 0) ([])),(Zd.mk ([1]) (List.replicate 193 (Zx.mk 0 0 0 0)))],iv i9]) (h:=Zn Zag ax)) (Za.u 0 (ZD (sz:=2) (off:=0) (cs:=[.sl 1 false (List.map eI64 al.Periods),.sl 4 false (List.map Zj al.Uses)]) (r:=.agg (Ze al)) Zag ax) (Za.v 0 (Zp (hc:=ZdP N al cw bM)) Za.f))) (tq (sq ?_))
   obtain ⟨cz,hj,h⟩:=bs h
   refine rgR (fun s=>s=⟨[(1,.fn 22 [] []),(2,Zar true [r1,r2,r3,r4,r5,r6,r7,r8,(Zd.mk ([0]) ([])),(Zd.mk ([241]) ([])),(Zd.mk ([31,32]) ([])),(Zd.mk (List.replicate 13 0) ([])),(Zd.mk ([1]) (List.replicate 193 (Zx.mk 0 0 0 0)))]),(3,iv i9),(129,bv cz)],[],[]⟩) ?_ ?_
   ·clear h
    obtain ⟨ak,aw,hj⟩:=bs hj
    refine (EP.u 2 (Zo (ys:=[Zar true [r1,r2,r3,r4,r5,r6,r7,r8,(Zd.mk ([0]) ([])),(Zd.mk ([241]) ([])),(Zd.mk ([31,32]) ([])),(Zd.mk (List.replicate 13 0) ([])),(Zd.mk ([1]) (List.replicate 193 (Zx.mk 0 0 0 0)))],iv i9]) (h:=Zn Zag aw)) (EP.u 0 (ZD (sz:=2) (off:=0) (cs:=[.sl 1 false (List.map eI64 ak.Periods),.sl 4 false (List.map Zj ak.Uses)]) (r:=.agg (Ze ak)) Zag aw) ?_))
    obtain ⟨aK,bL,hj⟩:=bs hj
    refine (EP.v 0 (Zp (hc:=ZbX N ak aK bL)) ?_)
    rcases Zz hj with ⟨cr,hj⟩|⟨cq,hj⟩
    ·obtain rfl:=Zb hj
     exact (EP.u 0 (Zh (c:=(aK != 340)) (h:=cr)) (EP.f kr))
    refine (EP.u 0 (Zh (c:=(aK != 340)) (h:=cq)) ?_)
    rcases Zz hj with ⟨cp,hj⟩|⟨co,hj⟩
    ·obtain rfl:=Zb hj
     exact (EP.u 2 (Zh (c:=(aQ.2 != 340)) (h:=cp)) (EP.f kr))
    refine (EP.u 2 (Zh (c:=(aQ.2 != 340)) (h:=co)) ?_)
    rcases Zz hj with ⟨cn,hj⟩|⟨cm,hj⟩
    ·obtain rfl:=Zb hj
     exact (EP.u 3 (Zh (c:=(aM.2 != 340)) (h:=cn)) (EP.f kr))
    refine (EP.u 3 (Zh (c:=(aM.2 != 340)) (h:=cm)) ?_)
    rcases Zz hj with ⟨cl,hj⟩|⟨ck,hj⟩
    ·obtain rfl:=Zb hj
     exact (EP.u 3 (Zh (c:=(aL.2 != 340)) (h:=cl)) (EP.f kr))
    obtain rfl:=Zb hj
    exact (EP.u 3 (Zh (c:=(aL.2 != 340)) (h:=ck)) (EP.f kr))
   clear hj
   rintro s hR
   obtain rfl:=hR
   refine tq (it h (fun cj h=>?_) (fun cj h=>?_))
   ·refine sq (rg Za.f (tq (rt (br (tr ?_)))))
    obtain rfl:=Zb h
    exact ⟨_,rfl,rfl,Zu kr⟩
   refine sk (bn (tq (kq (rg Za.f ?_))))
   obtain rfl:=Zb h
   exact ⟨_,rfl,kr⟩
  refine kq (xq (tx ?_))
  obtain rfl:=Zb h
  exact ⟨_,rfl,rfl,kr⟩
 rintro e s hq
 rcases bc with cD|cC
 ·dsimp only at h hq
  obtain ⟨rfl,hR⟩:=hq
  obtain rfl:=hR
  refine bx (tq (sq ?_))
  obtain ⟨a1,bK,h⟩:=bs h
  refine rg (Za.v 1 (Zaj (H:=[]) (fv:=.fn 22 [] []) (ys:=[iv 0,iv 47,iv 3,iv 2]) (hc:=Zb2.of kr ((ZY N 0 47 3 2 a1 bK).frame []))) Za.f) (tq (sq ?_))
  obtain ⟨a0,bJ,h⟩:=bs h
  refine rg (Za.v 1 (Zp (hc:=Zc2 N a1 0 3 a0 bJ)) Za.f) (tq (sq ?_))
  obtain ⟨ag,bI,h⟩:=bs h
  refine rg (Za.v 1 (Zp (hc:=Zc2 N a1 0 4 ag bI)) Za.f) (tq (sq ?_))
  obtain ⟨af,bG,h⟩:=bs h
  refine rg (Za.v 1 (Zp (hc:=Zc2 N a1 1 0 af bG)) Za.f) (tq (sq ?_))
  obtain ⟨ae,bE,h⟩:=bs h
  refine rg (Za.v 1 (Zp (hc:=ZbB N a1 0 1 0 2 ae bE)) Za.f) (tq (sq ?_))
  obtain ⟨ad,bD,h⟩:=bs h
  refine rg (Za.v 1 (Zp (hc:=ZbB N a1 0 0 1 0 ad bD)) Za.f) (tq (sq ?_))
  obtain ⟨ac,bC,h⟩:=bs h
  refine rg (Za.v 1 (Zp (hc:=Zc3 N a1 ([]) ac bC)) Za.f) (tq (sq ?_))
  obtain ⟨ab,bB,h⟩:=bs h
  refine rg (Za.v 2 (Zp (hc:=Zc3 N a1 ([4]) ab bB)) Za.f) (tq (sq (rg Za.f (tq (sq ?_)))))
  obtain ⟨a8,bA,h⟩:=bs h
  refine rg (Za.v 2 (Zp (hc:=ZfR N (Zs.mk 0 ([]) ([])) (ZW.mk 0 0 0 0) ([]) a8 bA)) Za.f) (tq (sq ?_))
  obtain ⟨bb,bz,h⟩:=bs h
  obtain ⟨a7,bw,h⟩:=bs h
  refine rq (Za.u 0 (Zfi (hc:=Zfp N  bb bz)) (Za.u 2 (Zfi (hc:=ZfR N bb (ZW.mk 0 0 0 0) (List.replicate 13 (Zt.mk 0 0 0 0 0 0 (ZbH.mk 0 0) 0 ([]))) a7 bw)) Za.f)) (tq (sq ?_))
  obtain ⟨aR,bT,h⟩:=bs h
  obtain ⟨ap,cB,cu,cv,aS,hH⟩:=HP.make Zae hH bT
  replace hH:HP _ [.arr ap 10 false (List.map Zae aR)]:=hH
  have a3:=ZaB (HP.get hH 0 rfl)
  obtain ⟨a6,bu,h⟩:=bs h
  obtain ⟨aT,cA,aj,hH⟩:=HP.frz (k:=0) (a:=ap) (sz:=10) (frz:=false) Zae hH rfl
  replace hH:HP _ [.arr ap 10 true (List.map Zae aR)]:=hH
  refine rgS ⟨[(12,.loc 12 0),(13,.loc 13 0),(14,iv a0.2),(16,iv ag.2),(18,iv af.2),(20,iv ae.2),(22,iv ad.2),(24,iv ac.2),(26,iv ab.2),(27,.loc 27 0),(29,iv a8.2),(31,iv a7.2),(33,iv a6.2)],[(12,(Ze a1)),(13,(ZaE a0.1)),(27,[Zi true [4],Zw true [(Zx.mk 0 0 0 1),(Zx.mk 0 0 0 2)]])],aT⟩ (Za.h 0 (ZfG (H:=[]) (zero:=[.int .i64 0,.int .i64 0,.int .i64 0,.int .i64 0,.int .i64 0,.int .i64 0,.int .i64 0,.int .i64 0,.int .i64 0,.sl 1 false (List.map (eSl 1 eI64) [])]) (bytes:=96) kr kr kr cu cv aS) (Za.v 0 (Zgs (H:=cB) (ys:=[ap]) (by cases a3<;>kernel_rfl) (by cases a3<;>kernel_rfl) (Zer aj Zgw) (ZaM N aR a6 bu)) (Za.f (h:=(by cases a3<;>kernel_rfl))))) (by cases a3<;>kernel_rfl) ?_
  replace hH:HP _ []:=HP.pick hH [] rfl
  refine tq (sq ?_)
  obtain ⟨ba,bt,h⟩:=bs h
  obtain ⟨b2,bq,h⟩:=bs h
  obtain ⟨aa,bp,h⟩:=bs h
  refine rg (Za.v 0 (Zp (hc:=ZO N 1 40 9 ba bt)) (Za.v 0 (Zp (hc:=ZO N 1 40 9 b2 bq)) (Za.v 1 (Zp (hc:=ZaM N ([ba,b2]) aa bp)) Za.f))) (tq (sq ?_))
  obtain ⟨b1,bm,h⟩:=bs h
  obtain ⟨b0,bl,h⟩:=bs h
  obtain ⟨a9,bj,h⟩:=bs h
  refine rg (Za.v 0 (Zp (hc:=ZO N 1 31 9 b1 bm)) (Za.v 0 (Zp (hc:=ZO N 2 32 9 b0 bl)) (Za.v 1 (Zp (hc:=ZaM N ([b1,b0]) a9 bj)) Za.f))) (tq (sq ?_))
  obtain ⟨aZ,bi,h⟩:=bs h
  obtain ⟨aY,bf,h⟩:=bs h
  obtain ⟨aX,be,h⟩:=bs h
  refine rg (Za.v 0 (Zp (hc:=ZO N 1 3 9 aZ bi)) (Za.v 0 (Zp (hc:=ZO N 2 200 9 aY bf)) (Za.v 1 (Zp (hc:=ZaM N ([aZ,aY]) aX be)) Za.f))) (tq (sq (rgX ⟨[(12,.loc 12 0),(13,.loc 13 0),(14,iv a0.2),(16,iv ag.2),(18,iv af.2),(20,iv ae.2),(22,iv ad.2),(24,iv ac.2),(26,iv ab.2),(27,.loc 27 0),(40,bv ((a8.2==260)&&((a7.2==320)&&((a6.2==3)&&((aa.2==322)&&((a9.2==6)&&(aX.2==7)))))))],[(12,(Ze a1)),(13,(ZaE a0.1)),(27,[Zi true [4],Zw true [(Zx.mk 0 0 0 1),(Zx.mk 0 0 0 2)]])],aT⟩ ?_ ?_)))
  ·rcases Bool.eq_false_or_eq_true (a8.2==260) with a2|aB
   ·refine (EP.u 1 (Zh (c:=(a8.2==260)) (h:=a2)) ?_)
    rcases Bool.eq_false_or_eq_true (a7.2==320) with a4|aC
    ·refine (EP.u 2 (Zh (c:=(a7.2==320)) (h:=a4)) ?_)
     rcases Bool.eq_false_or_eq_true (a6.2==3) with a5|aD
     ·refine (EP.u 3 (Zh (c:=(a6.2==3)) (h:=a5)) ?_)
      rcases Bool.eq_false_or_eq_true (aa.2==322) with ai|aE
      ·refine (EP.u 3 (Zh (c:=(aa.2==322)) (h:=ai)) ?_)
       rcases Bool.eq_false_or_eq_true (a9.2==6) with aI|aG
       ·exact (EP.u 3 (Zh (c:=(a9.2==6)) (h:=aI)) (EP.f (by simp only [a2,a4,a5,ai,aI];kernel_rfl)))
       exact (EP.u 3 (Zh (c:=(a9.2==6)) (h:=aG)) (EP.f (by simp only [a2,a4,a5,ai,aG];kernel_rfl)))
      exact (EP.u 3 (Zh (c:=(aa.2==322)) (h:=aE)) (EP.f (by simp only [a2,a4,a5,aE];kernel_rfl)))
     exact (EP.u 3 (Zh (c:=(a6.2==3)) (h:=aD)) (EP.f (by simp only [a2,a4,aD];kernel_rfl)))
    exact (EP.u 2 (Zh (c:=(a7.2==320)) (h:=aC)) (EP.f (by simp only [a2,aC];kernel_rfl)))
   exact (EP.u 1 (Zh (c:=(a8.2==260)) (h:=aB)) (EP.f (by simp only [aB];kernel_rfl)))
  refine tq (sq ?_)
  obtain ⟨cy,hj,h⟩:=bs h
  refine rgR (fun s=>s=⟨[(0,bv cy)],[],aT⟩) ?_ ?_
  ·clear h
   obtain ⟨aW,au,hj⟩:=bs hj
   rcases Zz hj with ⟨ci,hj⟩|⟨bU,hj⟩
   ·refine (EP.h 1 (Zac kr (ZeV N  aW au) ci) ?_)
    rcases Zz hj with ⟨cg,hj⟩|⟨bV,hj⟩
    ·refine (EP.u 4 (Zh (c:=((a0.1.Period==4)&&((a0.1.From==2)&&((a0.1.Long==2)&&true)))) (h:=cg)) ?_)
     rcases Zz hj with ⟨cf,hj⟩|⟨bW,hj⟩
     ·refine (EP.u 3 (Zh (c:=(a0.2==0)) (h:=cf)) ?_)
      rcases Zz hj with ⟨ce,hj⟩|⟨bX,hj⟩
      ·refine (EP.u 3 (Zh (c:=(ag.2==2)) (h:=ce)) ?_)
       rcases Zz hj with ⟨cd,hj⟩|⟨bY,hj⟩
       ·refine (EP.u 3 (Zh (c:=(af.2==2)) (h:=cd)) ?_)
        rcases Zz hj with ⟨cc,hj⟩|⟨bZ,hj⟩
        ·refine (EP.u 3 (Zh (c:=(ae.2==2)) (h:=cc)) ?_)
         rcases Zz hj with ⟨cb,hj⟩|⟨c0,hj⟩
         ·refine (EP.u 3 (Zh (c:=(ad.2==2)) (h:=cb)) ?_)
          rcases Zz hj with ⟨ca,hj⟩|⟨c1,hj⟩
          ·refine (EP.u 3 (Zh (c:=(ac.2==2)) (h:=ca)) ?_)
           rcases Zz hj with ⟨c9,hj⟩|⟨c2,hj⟩
           ·refine (EP.u 3 (Zh (c:=(ab.2==2)) (h:=c9)) ?_)
            obtain ⟨aJ,bd,hj⟩:=bs hj
            refine (EP.v 4 (Zp (hc:=Zaq N (Zd.mk ([4]) ([(Zx.mk 0 0 0 1),(Zx.mk 0 0 0 2)])) ([0]) aJ bd)) ?_)
            rcases Zz hj with ⟨c8,hj⟩|⟨c3,hj⟩
            ·refine (EP.u 0 (Zh (c:=(!aJ)) (h:=c8)) ?_)
             obtain ⟨aV,ar,hj⟩:=bs hj
             rcases Zz hj with ⟨c7,hj⟩|⟨c4,hj⟩
             ·refine (EP.h 4 (Zac kr (Zaq N a1 ([3]) aV ar) c7) ?_)
              obtain ⟨aU,aq,hj⟩:=bs hj
              rcases Zz hj with ⟨c6,hj⟩|⟨c5,hj⟩
              ·obtain rfl:=Zb hj
               exact (EP.h 3 (Zac kr (Zaq N (Zd.mk ([]) ([])) ([]) aU aq) c6) (EP.f kr))
              obtain rfl:=Zb hj
              exact (EP.h 3 (Zac kr (Zaq N (Zd.mk ([]) ([])) ([]) aU aq) c5) (EP.f kr))
             obtain rfl:=Zb hj
             exact (EP.h 4 (Zac kr (Zaq N a1 ([3]) aV ar) c4) (EP.f kr))
            obtain rfl:=Zb hj
            exact (EP.u 0 (Zh (c:=(!aJ)) (h:=c3)) (EP.f kr))
           obtain rfl:=Zb hj
           exact (EP.u 3 (Zh (c:=(ab.2==2)) (h:=c2)) (EP.f kr))
          obtain rfl:=Zb hj
          exact (EP.u 3 (Zh (c:=(ac.2==2)) (h:=c1)) (EP.f kr))
         obtain rfl:=Zb hj
         exact (EP.u 3 (Zh (c:=(ad.2==2)) (h:=c0)) (EP.f kr))
        obtain rfl:=Zb hj
        exact (EP.u 3 (Zh (c:=(ae.2==2)) (h:=bZ)) (EP.f kr))
       obtain rfl:=Zb hj
       exact (EP.u 3 (Zh (c:=(af.2==2)) (h:=bY)) (EP.f kr))
      obtain rfl:=Zb hj
      exact (EP.u 3 (Zh (c:=(ag.2==2)) (h:=bX)) (EP.f kr))
     obtain rfl:=Zb hj
     exact (EP.u 3 (Zh (c:=(a0.2==0)) (h:=bW)) (EP.f kr))
    obtain rfl:=Zb hj
    exact (EP.u 4 (Zh (c:=((a0.1.Period==4)&&((a0.1.From==2)&&((a0.1.Long==2)&&true)))) (h:=bV)) (EP.f kr))
   obtain rfl:=Zb hj
   exact (EP.h 1 (Zac kr (ZeV N  aW au) bU) (EP.f kr))
  clear hj
  rintro s hR
  obtain rfl:=hR
  refine tq (rt ?_)
  obtain rfl:=Zb h
  exact Zu kr
 dsimp only at h hq
 obtain ⟨rfl,hq⟩:=hq
 refine br (tr ?_)
 obtain rfl:=Zb h
 exact hq
end Go.Sh

