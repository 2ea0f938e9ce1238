/- Part of the proof. -/
import Derived.Test.YtlajapegdomhfaaSynthKnownOk2
set_option linter.all false
namespace Go.Sh
open Go Go.Eng Go.Proofs
set_option maxRecDepth 100000
set_option maxHeartbeats 4000000
attribute [local irreducible] vc ev Zdq opsD opsF ZfR upd updH updO
theorem Zbr (N:Nat)(a0_:Z8)(a1_:Zan)(a2_:(List Z9))(a3_:(List Int))(r:(List Zah)×Int)(h:ZbE N a0_ a1_ a2_ a3_=some r):PCall Try.prog 6 [.agg (ZP a0_),.agg (ZQ a1_),ZR false a2_,ZU false a3_] (.tup [ZT false r.1,iv r.2]):=by
 unfold ZbE at h
 have hH  := hp0
 refine Zal chk6 rfl rfl (Z5 _ _ _ ?_) rfl
 refine sq ?_
 obtain ⟨id1,H2,hid1,hH2,hH⟩:=HP.newCell hH (ZQ a1_)
 replace hH:HP _ [.cel id1 (ZQ a1_)]:=hH
 refine rgS ⟨[(2,ZR false a2_),(3,ZU false a3_),(4,.loc 4 0),(5,.ptr id1 0)],[(4,(ZP a0_))],H2⟩ (ZO.h 1 (Zbb (H:=[]) (v:=.agg (ZQ a1_)) (hid:=hid1) (hH:=hH2)) ZO.f) kr (tq (sq ?_))
 have hlc3:=HP.get hH 0 rfl
 obtain ⟨r4,hr4,h⟩:=bs h
 refine rgS ⟨[(2,ZR false a2_),(3,ZU false a3_),(4,.loc 4 0),(5,.ptr id1 0),(10,.loc 10 0),(11,iv r4.2)],[(4,(ZP a0_)),(10,(ZS r4.1))],H2⟩ (ZO.u 1 (ZW (H:=H2) (id:=id1) (off:=0) (cs:=(ZQ a1_)) (c:=(ZQ a1_)) (r:=.agg (ZQ a1_)) (hl:=hlc3)) (ZO.v 1 (Z7 (hc:=Zi8 N a0_ a1_ a2_ r4 hr4)) ZO.f)) kr (tq (sq (sq (rgS ⟨[(2,ZR false a2_),(3,ZU false a3_),(4,.loc 4 0),(5,.ptr id1 0),(10,.loc 10 0),(11,iv r4.2),(30,bv (r4.2 != 0))],[(4,(ZP a0_)),(10,(ZS r4.1))],H2⟩ ZO.f kr (tq (it h (λhc5 h=>?_) (λhc5 h=>?_)))))))
 ·refine sq (rgS ⟨[(8,ZT true []),(9,iv r4.2)],[],H2⟩ ZO.f kr ?_)
  replace hH:HP _ []:=HP.pick hH [] rfl
  refine tq (rt (tr ?_))
  cases h
  exact Zab kr
 refine sk (tq (kq (sq ?_)))
 obtain ⟨r6,hr6,h⟩:=bs h
 refine rgS ⟨[(2,ZR false a2_),(3,ZU false a3_),(4,.loc 4 0),(5,.ptr id1 0),(10,.loc 10 0),(11,iv r6.2),(12,bv r6.1)],[(4,(ZP a0_)),(10,(ZS r4.1))],H2⟩ (ZO.v 2 (Z7 (hc:=ZhG N r4.1 a3_ r6 hr6)) ZO.f) kr (tq (sq (sq (rgS ⟨[(2,ZR false a2_),(3,ZU false a3_),(4,.loc 4 0),(5,.ptr id1 0),(10,.loc 10 0),(11,iv r6.2),(12,bv r6.1),(39,bv (r6.2 != 0))],[(4,(ZP a0_)),(10,(ZS r4.1))],H2⟩ ZO.f kr (tq (it h (λhc7 h=>?_) (λhc7 h=>?_)))))))
 ·refine sq (rgS ⟨[(8,ZT true []),(9,iv r6.2)],[],H2⟩ ZO.f kr ?_)
  replace hH:HP _ []:=HP.pick hH [] rfl
  refine tq (rt (tr ?_))
  cases h
  exact Zab kr
 refine sk (tq (kq (sq (sq (rgS ⟨[(2,ZR false a2_),(3,ZU false a3_),(4,.loc 4 0),(5,.ptr id1 0),(10,.loc 10 0),(42,bv (!r6.1))],[(4,(ZP a0_)),(10,(ZS r4.1))],H2⟩ ZO.f kr (tq (it h (λhc8 h=>?_) (λhc8 h=>?_))))))))
 ·refine sq (rgS ⟨[(8,ZT true []),(9,iv 380)],[],H2⟩ ZO.f kr ?_)
  replace hH:HP _ []:=HP.pick hH [] rfl
  refine tq (rt (tr ?_))
  cases h
  exact Zab kr
 refine sk (tq (kq (sq ?_)))
 obtain ⟨r9,hr9,h⟩:=bs h
 obtain ⟨a0,dI,d1,dx,hH⟩:=HP.newCell hH [iv 0]
 replace hH:HP _ [.cel a0 [iv 0],.cel id1 (ZQ a1_)]:=hH
 obtain ⟨dj,dw,hH⟩:=HP.setCell (k:=0) (off:=0) (cs:=[iv 0]) (vs:=[iv r9.1]) (cs':=[iv r9.1]) hH rfl kr
 replace hH:HP _ [.cel a0 [iv r9.1],.cel id1 (ZQ a1_)]:=hH
 refine rgS ⟨[(2,ZR false a2_),(3,ZU false a3_),(4,.loc 4 0),(5,.ptr id1 0),(11,iv r9.2),(13,.ptr a0 0)],[(4,(ZP a0_))],dj⟩ (ZO.v 1 (Z7 (hc:=ZgP N r4.1 r9 hr9)) (ZO.h 3 (Zcz (H:=H2) kr d1 dx) (ZO.o 0 (Zam (H:=dI) (v:=iv r9.1) (hw:=dw)) ZO.f))) kr (tq (sq (sq (rgS ⟨[(2,ZR false a2_),(3,ZU false a3_),(4,.loc 4 0),(5,.ptr id1 0),(11,iv r9.2),(13,.ptr a0 0),(49,bv (r9.2 != 0))],[(4,(ZP a0_))],dj⟩ ZO.f kr (tq (it h (λdp h=>?_) (λdp h=>?_)))))))
 ·refine sq (rgS ⟨[(8,ZT true []),(9,iv r9.2)],[],dj⟩ ZO.f kr ?_)
  replace hH:HP _ []:=HP.pick hH [] rfl
  refine tq (rt (tr ?_))
  cases h
  exact Zab kr
 refine sk (tq (kq (sq ?_)))
 obtain ⟨aX,dm,h⟩:=bs h
 obtain ⟨a1,_,c8,dG,d0,rfl,dv,cB,_,hH⟩:=HP.famNew eB 1 hH dm
 replace hH:HP _ [.fam a1 (Int.toNat (w64 (2*((List.length a0_.Links:Nat):Int)))) c8 1 false (List.map (List.map eB) aX),.cel a0 [iv r9.1],.cel id1 (ZQ a1_)]:=hH
 obtain ⟨a2,dE,cZ,du,hH⟩:=HP.newCell hH [Zhf true []]
 replace hH:HP _ [.cel a2 [Zhf true []],.fam a1 (Int.toNat (w64 (2*((List.length a0_.Links:Nat):Int)))) c8 1 false (List.map (List.map eB) aX),.cel a0 [iv r9.1],.cel id1 (ZQ a1_)]:=hH
 obtain ⟨di,dt,hH⟩:=HP.setCell (k:=0) (off:=0) (cs:=[Zhf true []]) (vs:=[.csl a1 (Int.toNat (w64 (2*((List.length a0_.Links:Nat):Int))))]) (cs':=[.csl a1 (Int.toNat (w64 (2*((List.length a0_.Links:Nat):Int))))]) hH rfl kr
 replace hH:HP _ [.cel a2 [.csl a1 (Int.toNat (w64 (2*((List.length a0_.Links:Nat):Int))))],.fam a1 (Int.toNat (w64 (2*((List.length a0_.Links:Nat):Int)))) c8 1 false (List.map (List.map eB) aX),.cel a0 [iv r9.1],.cel id1 (ZQ a1_)]:=hH
 refine rgS ⟨[(2,ZR false a2_),(3,ZU false a3_),(4,.loc 4 0),(5,.ptr id1 0),(13,.ptr a0 0),(14,.ptr a2 0)],[(4,(ZP a0_))],di⟩ (ZO.u 2 (Z0 (ys:=[ZZ false a0_.Links]) (h:=Z6 ZaB)) (ZO.o 1 (Zm6 (H:=dj) (z:=.sl 1 true []) (bytes:=24) (m:=(w64 (2*((List.length a0_.Links:Nat):Int)))) kr kr kr cB d0 dv) (ZO.h 0 (Zcz (H:=dG) kr cZ du) (ZO.o 0 (Zam (H:=dE) (v:=.csl a1 (Int.toNat (w64 (2*((List.length a0_.Links:Nat):Int))))) (hw:=dt)) ZO.f)))) kr (tq (sq (sq ?_)))
 have cW:=HP.get hH 0 rfl
 have cV:=HP.famLen (k:=1) hH rfl
 refine rgS ⟨[(2,ZR false a2_),(3,ZU false a3_),(4,.loc 4 0),(5,.ptr id1 0),(13,.ptr a0 0),(14,.ptr a2 0),(57,iv ((List.length aX:Nat):Int)),(58,iv 0)],[(4,(ZP a0_))],di⟩ (ZO.u 0 (ZW (H:=di) (id:=a2) (off:=0) (cs:=[.csl a1 (Int.toNat (w64 (2*((List.length a0_.Links:Nat):Int))))]) (c:=[.csl a1 (Int.toNat (w64 (2*((List.length a0_.Links:Nat):Int))))]) (r:=.csl a1 (Int.toNat (w64 (2*((List.length a0_.Links:Nat):Int))))) (hl:=cW)) (ZO.u 0 (Z0 (ys:=[.csl a1 (Int.toNat (w64 (2*((List.length a0_.Links:Nat):Int))))]) (h:=cV)) ZO.f)) kr (tq (bk ?_))
 obtain ⟨aJ,cj,h⟩:=bs h
 refine ZaG ((Zat (λ(x:Int×(List (List Bool))) s=>∃ (bq:List AV) (cb:List HO),s=⟨[(2,ZR false a2_),(3,ZU false a3_),(4,.loc 4 0),(5,.ptr id1 0),(13,.ptr a0 0),(14,.ptr a2 0),(57,iv ((List.length aX:Nat):Int)),(58,iv x.1)],[(4,(ZP a0_))],cb⟩/\HP cb [.cel id1 (ZQ a1_),.cel a0 [iv r9.1],.cel a2 [.csl a1 (Int.toNat (w64 (2*((List.length a0_.Links:Nat):Int))))],.fam a1 (Int.toNat (w64 (2*((List.length a0_.Links:Nat):Int)))) bq 1 false (List.map (List.map eB) x.2)]) (λx:Int×(List (List Bool))=>Zc1 N r9 aX x.1 x.2) (λ(p:(List (List Bool))) e s=>e=.exit 0/\(∃ (aq:List AV) (ca:List HO),s=⟨[(2,ZR false a2_),(3,ZU false a3_),(4,.loc 4 0),(5,.ptr id1 0),(13,.ptr a0 0),(14,.ptr a2 0)],[(4,(ZP a0_))],ca⟩/\HP ca [.cel id1 (ZQ a1_),.cel a0 [iv r9.1],.cel a2 [.csl a1 (Int.toNat (w64 (2*((List.length a0_.Links:Nat):Int))))],.fam a1 (Int.toNat (w64 (2*((List.length a0_.Links:Nat):Int)))) aq 1 false (List.map (List.map eB) p)])) ?_ N _ aJ _ cj ⟨c8,di,kr,(HP.pick hH [3,2,0,1] rfl)⟩).mono ?_)
 ·clear h cj
  rintro ⟨i25,cS⟩ o s h hR
  obtain ⟨bq,cb,rfl,hH⟩:=hR
  replace hH:HP _ [.cel id1 (ZQ a1_),.cel a0 [iv r9.1],.cel a2 [.csl a1 (Int.toNat (w64 (2*((List.length a0_.Links:Nat):Int))))],.fam a1 (Int.toNat (w64 (2*((List.length a0_.Links:Nat):Int)))) bq 1 false (List.map (List.map eB) cS)]:=hH
  replace h:Zc1 N r9 aX i25 cS=some o:=h
  unfold Zc1 at h
  refine sq (rgS ⟨[(2,ZR false a2_),(3,ZU false a3_),(4,.loc 4 0),(5,.ptr id1 0),(13,.ptr a0 0),(14,.ptr a2 0),(57,iv ((List.length aX:Nat):Int)),(58,iv i25),(59,bv (decide (i25<((List.length aX:Nat):Int))))],[(4,(ZP a0_))],cb⟩ ZO.f kr (tq (sq (it h (λd2 h=>?_) (λd2 h=>?_)))))
  ·refine sk (tq (kq (sq (bk (sq (rgS ⟨[(2,ZR false a2_),(3,ZU false a3_),(4,.loc 4 0),(5,.ptr id1 0),(13,.ptr a0 0),(14,.ptr a2 0),(15,iv i25),(57,iv ((List.length aX:Nat):Int)),(58,iv i25)],[(4,(ZP a0_))],cb⟩ ZO.f kr (tq ?_)))))))
   have cy:=HP.get hH 2 rfl
   have cw:=HP.get hH 1 rfl
   obtain ⟨cl,cX,h⟩:=bs h
   obtain ⟨cQ,dz,d3,d7,cI,hH⟩:=HP.make eB hH cX
   replace hH:HP _ [.arr cQ 1 false (List.map eB cl),.cel id1 (ZQ a1_),.cel a0 [iv r9.1],.cel a2 [.csl a1 (Int.toNat (w64 (2*((List.length a0_.Links:Nat):Int))))],.fam a1 (Int.toNat (w64 (2*((List.length a0_.Links:Nat):Int)))) bq 1 false (List.map (List.map eB) cS)]:=hH
   have ar:=Za5 (HP.get hH 0 rfl)
   obtain ⟨dC,ck,h⟩:=bs h
   obtain ⟨dD,ds,cG,dq,dn,dr⟩:=HP.famGet (k:=4) eB hH rfl ck
   obtain ⟨bp,cR,_,d6,hH⟩:=HP.famSet (k:=4) (j:=0) eB hH rfl rfl (by decide) ck
   replace hH:HP _ [.arr (.p (.sl 1 true [])) 1 false (List.map eB []),.cel id1 (ZQ a1_),.cel a0 [iv r9.1],.cel a2 [.csl a1 (Int.toNat (w64 (2*((List.length a0_.Links:Nat):Int))))],.fam a1 (Int.toNat (w64 (2*((List.length a0_.Links:Nat):Int)))) bp 1 false (List.map (List.map eB) (List.set cS (Int.toNat i25) cl))]:=hH
   refine rqS ⟨[(2,ZR false a2_),(3,ZU false a3_),(4,.loc 4 0),(5,.ptr id1 0),(13,.ptr a0 0),(14,.ptr a2 0),(57,iv ((List.length aX:Nat):Int)),(58,iv i25)],[(4,(ZP a0_))],cR⟩ (ZO.u 0 (Zaz (ZW (H:=cb) (id:=a2) (off:=0) (cs:=[.csl a1 (Int.toNat (w64 (2*((List.length a0_.Links:Nat):Int))))]) (c:=[.csl a1 (Int.toNat (w64 (2*((List.length a0_.Links:Nat):Int))))]) (r:=.csl a1 (Int.toNat (w64 (2*((List.length a0_.Links:Nat):Int))))) (hl:=cy))) (ZO.u 1 (Zaz (ZW (H:=cb) (id:=a0) (off:=0) (cs:=[iv r9.1]) (c:=[iv r9.1]) (r:=iv r9.1) (hl:=cw))) (ZO.h 0 (Zgw (H:=cb) (zero:=[.bool false]) (bytes:=1) kr kr kr d3 d7 cI) (ZO.u 0 (Z0 (ys:=[.csl a1 (Int.toNat (w64 (2*((List.length a0_.Links:Nat):Int)))),iv i25]) (h:=cG .i64)) (ZO.o 0 (ZhB (ZdW (H:=dz) (v:=cQ) (cs:=[cQ]) (by cases ar<;>kernel_rfl) (by cases ar<;>kernel_rfl) (by cases ar<;>kernel_rfl) (by cases ar<;>kernel_rfl) (by cases ar<;>kernel_rfl) d6) (by cases ar<;>kernel_rfl)) ZO.f))))) kr ?_
   replace hH:HP _ [.cel id1 (ZQ a1_),.cel a0 [iv r9.1],.cel a2 [.csl a1 (Int.toNat (w64 (2*((List.length a0_.Links:Nat):Int))))],.fam a1 (Int.toNat (w64 (2*((List.length a0_.Links:Nat):Int)))) bp 1 false (List.map (List.map eB) (List.set cS (Int.toNat i25) cl))]:=HP.pick hH [1,2,3,4] rfl
   refine bn (tq (rgS ⟨[(2,ZR false a2_),(3,ZU false a3_),(4,.loc 4 0),(5,.ptr id1 0),(13,.ptr a0 0),(14,.ptr a2 0),(57,iv ((List.length aX:Nat):Int)),(58,iv (w64 (i25+1)))],[(4,(ZP a0_))],cR⟩ ZO.f kr ?_))
   cases h
   exact ⟨_,rfl,⟨bp,cR,kr,(HP.pick hH [0,1,2,3] rfl)⟩⟩
  refine kq (xq (tx ?_))
  cases h
  exact ⟨_,rfl,rfl,⟨bq,cb,kr,(HP.pick hH [0,1,2,3] rfl)⟩⟩
 rintro e s hq
 obtain ⟨rfl,hR⟩:=hq
 obtain ⟨aq,ca,rfl,hH⟩:=hR
 replace hH:HP _ [.cel id1 (ZQ a1_),.cel a0 [iv r9.1],.cel a2 [.csl a1 (Int.toNat (w64 (2*((List.length a0_.Links:Nat):Int))))],.fam a1 (Int.toNat (w64 (2*((List.length a0_.Links:Nat):Int)))) aq 1 false (List.map (List.map eB) aJ)]:=hH
 refine bx (tq (sq ?_))
 obtain ⟨a3,dy,cA,d5,hH⟩:=HP.newCell hH [.nl .nilFunc]
 replace hH:HP _ [.cel a3 [.nl .nilFunc],.cel id1 (ZQ a1_),.cel a0 [iv r9.1],.cel a2 [.csl a1 (Int.toNat (w64 (2*((List.length a0_.Links:Nat):Int))))],.fam a1 (Int.toNat (w64 (2*((List.length a0_.Links:Nat):Int)))) aq 1 false (List.map (List.map eB) aJ)]:=hH
 obtain ⟨c9,d4,hH⟩:=HP.setCell (k:=0) (off:=0) (cs:=[.nl .nilFunc]) (vs:=[.fn 15 [] [.ptr a2 0,.ptr a0 0]]) (cs':=[.fn 15 [] [.ptr a2 0,.ptr a0 0]]) hH rfl kr
 replace hH:HP _ [.cel a3 [.fn 15 [] [.ptr a2 0,.ptr a0 0]],.cel id1 (ZQ a1_),.cel a0 [iv r9.1],.cel a2 [.csl a1 (Int.toNat (w64 (2*((List.length a0_.Links:Nat):Int))))],.fam a1 (Int.toNat (w64 (2*((List.length a0_.Links:Nat):Int)))) aq 1 false (List.map (List.map eB) aJ)]:=hH
 refine rgS ⟨[(2,ZR false a2_),(3,ZU false a3_),(4,.loc 4 0),(5,.ptr id1 0),(13,.ptr a0 0),(14,.ptr a2 0),(16,.ptr a3 0)],[(4,(ZP a0_))],c9⟩ (ZO.h 1 (Zcz (H:=ca) kr cA d5) (ZO.o 0 (Zam (H:=dy) (v:=.fn 15 [] [.ptr a2 0,.ptr a0 0]) (hw:=d4)) ZO.f)) kr (tq (sq (sq ?_)))
 have cv:=HP.get hH 1 rfl
 obtain ⟨ae,cU,h⟩:=bs h
 obtain ⟨aA,az,ay,ax,a7,cm,cr⟩:=Zfi N a0_ a1_ a2_ a3_ c9 ae cU
 replace hH:HP _ [.cel aA [ZR false ae.1],.cel az [ZU false ae.2.1],.cel ay (ZP ae.2.2.1),.cel ax (ZQ ae.2.2.2),.cel a3 [.fn 15 [] [.ptr a2 0,.ptr a0 0]],.cel id1 (ZQ a1_),.cel a0 [iv r9.1],.cel a2 [.csl a1 (Int.toNat (w64 (2*((List.length a0_.Links:Nat):Int))))],.fam a1 (Int.toNat (w64 (2*((List.length a0_.Links:Nat):Int)))) aq 1 false (List.map (List.map eB) aJ)]:=HP.callee (fp:=[]) (rest:=[.cel a3 [.fn 15 [] [.ptr a2 0,.ptr a0 0]],.cel id1 (ZQ a1_),.cel a0 [iv r9.1],.cel a2 [.csl a1 (Int.toNat (w64 (2*((List.length a0_.Links:Nat):Int))))],.fam a1 (Int.toNat (w64 (2*((List.length a0_.Links:Nat):Int)))) aq 1 false (List.map (List.map eB) aJ)]) hH cr
 refine rgS ⟨[(5,.ptr id1 0),(13,.ptr a0 0),(14,.ptr a2 0),(16,.ptr a3 0),(72,.fn 28 [] [.ptr aA 0,.ptr az 0,.ptr ay 0,.ptr ax 0])],[],a7⟩ (ZO.u 1 (ZW (H:=c9) (id:=id1) (off:=0) (cs:=(ZQ a1_)) (c:=(ZQ a1_)) (r:=.agg (ZQ a1_)) (hl:=cv)) (ZO.v 2 (Zc7 (H:=c9) (ys:=[.agg (ZP a0_),.agg (ZQ a1_),ZR false a2_,ZU false a3_]) kr kr kr cm) ZO.f)) kr (tq (bk ?_))
 obtain ⟨af,ct,h⟩:=bs h
 have bG:∀ (a6:ZaI) (s:(List (List Bool))) (r:((List (List Bool)))×Bool) (H:List HO) (its:List Zap),(λ(s:(List (List Bool))) (its:List Zap)=>∃ (a4:List AV),its=[.cel a3 [.fn 15 [] [.ptr a2 0,.ptr a0 0]],.cel id1 (ZQ a1_),.cel a0 [iv r9.1],.cel a2 [.csl a1 (Int.toNat (w64 (2*((List.length a0_.Links:Nat):Int))))],.fam a1 (Int.toNat (w64 (2*((List.length a0_.Links:Nat):Int)))) a4 1 false (List.map (List.map eB) s)]++[.lp (List.length a7) (lcOf Try.prog i6.nt [73] ZeH ZeF) [(5,.ptr id1 0),(13,.ptr a0 0),(16,.ptr a3 0)] .ready]) s its->HP H its->(λ(s:(List (List Bool))) (a6:ZaI)=>Zd5 (λv:(List (List Bool))=>Zcl N a1_ r9 v a6) s) s a6=some r->∃ H' its',Zd4 Try.prog (List.length a7) [.agg (Zaq a6)] H r.2 H'/\(λ(s:(List (List Bool))) (its:List Zap)=>∃ (a4:List AV),its=[.cel a3 [.fn 15 [] [.ptr a2 0,.ptr a0 0]],.cel id1 (ZQ a1_),.cel a0 [iv r9.1],.cel a2 [.csl a1 (Int.toNat (w64 (2*((List.length a0_.Links:Nat):Int))))],.fam a1 (Int.toNat (w64 (2*((List.length a0_.Links:Nat):Int)))) a4 1 false (List.map (List.map eB) s)]++[.lp (List.length a7) (lcOf Try.prog i6.nt [73] ZeH ZeF) [(5,.ptr id1 0),(13,.ptr a0 0),(16,.ptr a3 0)] .ready]) r.1 its'/\Fp H H' its its':=by
  clear h
  intro a6 s r aS its hT hH h
  obtain ⟨q,hb,rfl⟩:=ZeQ h
  clear h
  obtain ⟨vs,rfl⟩:∃ v,v=s:=⟨s,rfl⟩
  obtain ⟨aU,rfl⟩:∃ v,v=vs:=⟨vs,rfl⟩
  obtain ⟨a4,rfl⟩:=hT
  replace h:Zcl N a1_ r9 aU a6=some q:=hb
  clear hb
  unfold Zcl at h
  replace hH:Fp _ _ _ [.cel a3 [.fn 15 [] [.ptr a2 0,.ptr a0 0]],.cel id1 (ZQ a1_),.cel a0 [iv r9.1],.cel a2 [.csl a1 (Int.toNat (w64 (2*((List.length a0_.Links:Nat):Int))))],.fam a1 (Int.toNat (w64 (2*((List.length a0_.Links:Nat):Int)))) a4 1 false (List.map (List.map eB) aU),.lp (List.length a7) (lcOf Try.prog i6.nt [73] ZeH ZeF) [(5,.ptr id1 0),(13,.ptr a0 0),(16,.ptr a3 0)] .ready]:=Fp.refl hH
  suffices hs:∃ H',Zd4 Try.prog (List.length a7) [.agg (Zaq a6)] aS true H'/\∃ its',(λ(s:(List (List Bool))) (its:List Zap)=>∃ (a4:List AV),its=[.cel a3 [.fn 15 [] [.ptr a2 0,.ptr a0 0]],.cel id1 (ZQ a1_),.cel a0 [iv r9.1],.cel a2 [.csl a1 (Int.toNat (w64 (2*((List.length a0_.Links:Nat):Int))))],.fam a1 (Int.toNat (w64 (2*((List.length a0_.Links:Nat):Int)))) a4 1 false (List.map (List.map eB) s)]++[.lp (List.length a7) (lcOf Try.prog i6.nt [73] ZeH ZeF) [(5,.ptr id1 0),(13,.ptr a0 0),(16,.ptr a3 0)] .ready]) q its'/\Fp aS H' [.cel a3 [.fn 15 [] [.ptr a2 0,.ptr a0 0]],.cel id1 (ZQ a1_),.cel a0 [iv r9.1],.cel a2 [.csl a1 (Int.toNat (w64 (2*((List.length a0_.Links:Nat):Int))))],.fam a1 (Int.toNat (w64 (2*((List.length a0_.Links:Nat):Int)))) a4 1 false (List.map (List.map eB) aU),.lp (List.length a7) (lcOf Try.prog i6.nt [73] ZeH ZeF) [(5,.ptr id1 0),(13,.ptr a0 0),(16,.ptr a3 0)] .ready] its' by
   obtain ⟨H',h1,its',h2,h3⟩:=hs
   exact ⟨H',its',h1,h2,h3⟩
  refine ZdV (id:=(List.length a7)) (args:=[.agg (Zaq a6)]) (H:=aS) (n:=i6.nt) (ps:=[73]) (fr0:=[(5,.ptr id1 0),(13,.ptr a0 0),(16,.ptr a3 0)]) (ia:=ZeH) (ib:=ZeF) true (λH'=>∃ its',(λ(s:(List (List Bool))) (its:List Zap)=>∃ (a4:List AV),its=[.cel a3 [.fn 15 [] [.ptr a2 0,.ptr a0 0]],.cel id1 (ZQ a1_),.cel a0 [iv r9.1],.cel a2 [.csl a1 (Int.toNat (w64 (2*((List.length a0_.Links:Nat):Int))))],.fam a1 (Int.toNat (w64 (2*((List.length a0_.Links:Nat):Int)))) a4 1 false (List.map (List.map eB) s)]++[.lp (List.length a7) (lcOf Try.prog i6.nt [73] ZeH ZeF) [(5,.ptr id1 0),(13,.ptr a0 0),(16,.ptr a3 0)] .ready]) q its'/\Fp aS H' [.cel a3 [.fn 15 [] [.ptr a2 0,.ptr a0 0]],.cel id1 (ZQ a1_),.cel a0 [iv r9.1],.cel a2 [.csl a1 (Int.toNat (w64 (2*((List.length a0_.Links:Nat):Int))))],.fam a1 (Int.toNat (w64 (2*((List.length a0_.Links:Nat):Int)))) a4 1 false (List.map (List.map eB) aU),.lp (List.length a7) (lcOf Try.prog i6.nt [73] ZeH ZeF) [(5,.ptr id1 0),(13,.ptr a0 0),(16,.ptr a3 0)] .ready] its') (Fp.get hH 5 rfl) rfl (by decide +kernel) rfl ?_
  show vc _ _ _ _ ⟨[(5,.ptr id1 0),(13,.ptr a0 0),(16,.ptr a3 0),(73,.agg (Zaq a6))],[],aS⟩
  refine rgS ⟨[(5,.ptr id1 0),(13,.ptr a0 0),(16,.ptr a3 0),(17,.loc 17 0)],[(17,(Zaq a6))],aS⟩ ZO.f kr (ZgH (k:=5) hH rfl ?_)
  intro aI hH
  replace hH:Fp _ _ _ [.cel a3 [.fn 15 [] [.ptr a2 0,.ptr a0 0]],.cel id1 (ZQ a1_),.cel a0 [iv r9.1],.cel a2 [.csl a1 (Int.toNat (w64 (2*((List.length a0_.Links:Nat):Int))))],.fam a1 (Int.toNat (w64 (2*((List.length a0_.Links:Nat):Int)))) a4 1 false (List.map (List.map eB) aU),.lp (List.length a7) (lcOf Try.prog i6.nt [73] ZeH ZeF) [(5,.ptr id1 0),(13,.ptr a0 0),(16,.ptr a3 0)] .busy]:=hH
  show vc _ _ _ _ ⟨[(5,.ptr id1 0),(13,.ptr a0 0),(16,.ptr a3 0),(17,.loc 17 0)],[(17,(Zaq a6))],aI⟩
  refine bk (sq ?_)
  have bY:=Fp.get hH 1 rfl
  have bX:=Fp.get hH 1 rfl
  obtain ⟨al,cq,h⟩:=bs h
  refine rgS ⟨[(5,.ptr id1 0),(13,.ptr a0 0),(16,.ptr a3 0),(17,.loc 17 0),(18,iv al)],[(17,(Zaq a6))],aI⟩ (ZO.u 3 (ZW (H:=aI) (id:=id1) (off:=0) (cs:=(ZQ a1_)) (c:=[iv a1_.Grid]) (r:=iv a1_.Grid) (hl:=bY)) (ZO.u 3 (ZW (H:=aI) (id:=id1) (off:=0) (cs:=(ZQ a1_)) (c:=[iv a1_.Grid]) (r:=iv a1_.Grid) (hl:=bX)) (ZO.u 0 (Z0 (ys:=[iv (w64 ((w64 (a6.long+a1_.Grid))-1)),iv a1_.Grid]) (h:=Zez cq)) ZO.f))) kr (tq (sq (rgS ⟨[(5,.ptr id1 0),(13,.ptr a0 0),(16,.ptr a3 0),(17,.loc 17 0),(18,iv al),(19,iv a6.from_)],[(17,(Zaq a6))],aI⟩ ZO.f kr (tq (bk ?_)))))
  obtain ⟨ce,b2,h⟩:=bs h
  refine ZaG ((Zat (λ(x:Int×(List (List Bool))) s=>∃ (ap:List AV) (aj:List HO),s=⟨[(5,.ptr id1 0),(13,.ptr a0 0),(16,.ptr a3 0),(17,.loc 17 0),(18,iv al),(19,iv x.1)],[(17,(Zaq a6))],aj⟩/\Fp aS aj [.cel a3 [.fn 15 [] [.ptr a2 0,.ptr a0 0]],.cel id1 (ZQ a1_),.cel a0 [iv r9.1],.cel a2 [.csl a1 (Int.toNat (w64 (2*((List.length a0_.Links:Nat):Int))))],.fam a1 (Int.toNat (w64 (2*((List.length a0_.Links:Nat):Int)))) a4 1 false (List.map (List.map eB) aU),.lp (List.length a7) (lcOf Try.prog i6.nt [73] ZeH ZeF) [(5,.ptr id1 0),(13,.ptr a0 0),(16,.ptr a3 0)] .ready] [.cel a3 [.fn 15 [] [.ptr a2 0,.ptr a0 0]],.cel id1 (ZQ a1_),.cel a0 [iv r9.1],.cel a2 [.csl a1 (Int.toNat (w64 (2*((List.length a0_.Links:Nat):Int))))],.fam a1 (Int.toNat (w64 (2*((List.length a0_.Links:Nat):Int)))) ap 1 false (List.map (List.map eB) x.2),.lp (List.length a7) (lcOf Try.prog i6.nt [73] ZeH ZeF) [(5,.ptr id1 0),(13,.ptr a0 0),(16,.ptr a3 0)] .busy]) (λx:Int×(List (List Bool))=>Zc0 N a1_ r9 a6 al x.1 x.2) (λ(p:(List (List Bool))) e s=>e=.exit 4/\(∃ (aM:List AV) (bD:List HO),s=⟨[],[],bD⟩/\Fp aS bD [.cel a3 [.fn 15 [] [.ptr a2 0,.ptr a0 0]],.cel id1 (ZQ a1_),.cel a0 [iv r9.1],.cel a2 [.csl a1 (Int.toNat (w64 (2*((List.length a0_.Links:Nat):Int))))],.fam a1 (Int.toNat (w64 (2*((List.length a0_.Links:Nat):Int)))) a4 1 false (List.map (List.map eB) aU),.lp (List.length a7) (lcOf Try.prog i6.nt [73] ZeH ZeF) [(5,.ptr id1 0),(13,.ptr a0 0),(16,.ptr a3 0)] .ready] [.cel a3 [.fn 15 [] [.ptr a2 0,.ptr a0 0]],.cel id1 (ZQ a1_),.cel a0 [iv r9.1],.cel a2 [.csl a1 (Int.toNat (w64 (2*((List.length a0_.Links:Nat):Int))))],.fam a1 (Int.toNat (w64 (2*((List.length a0_.Links:Nat):Int)))) aM 1 false (List.map (List.map eB) p),.lp (List.length a7) (lcOf Try.prog i6.nt [73] ZeH ZeF) [(5,.ptr id1 0),(13,.ptr a0 0),(16,.ptr a3 0)] .busy])) ?_ N _ ce _ b2 ⟨a4,aI,kr,(Fp.pick hH [0,1,2,3,4,5] rfl)⟩).mono ?_)
  ·clear h b2
   rintro ⟨aD,aR⟩ o s h hR
   obtain ⟨ap,aj,rfl,hH⟩:=hR
   replace hH:Fp _ _ _ [.cel a3 [.fn 15 [] [.ptr a2 0,.ptr a0 0]],.cel id1 (ZQ a1_),.cel a0 [iv r9.1],.cel a2 [.csl a1 (Int.toNat (w64 (2*((List.length a0_.Links:Nat):Int))))],.fam a1 (Int.toNat (w64 (2*((List.length a0_.Links:Nat):Int)))) ap 1 false (List.map (List.map eB) aR),.lp (List.length a7) (lcOf Try.prog i6.nt [73] ZeH ZeF) [(5,.ptr id1 0),(13,.ptr a0 0),(16,.ptr a3 0)] .busy]:=hH
   replace h:Zc0 N a1_ r9 a6 al aD aR=some o:=h
   unfold Zc0 at h
   refine sq (sq ?_)
   have bW:=Fp.get hH 2 rfl
   have bV:=Fp.get hH 1 rfl
   refine rgS ⟨[(5,.ptr id1 0),(13,.ptr a0 0),(16,.ptr a3 0),(17,.loc 17 0),(18,iv al),(19,iv aD),(93,bv (decide (aD<(w64 (a6.from_+(w64 (r9.1*a1_.Grid)))))))],[(17,(Zaq a6))],aj⟩ (ZO.u 3 (ZW (H:=aj) (id:=a0) (off:=0) (cs:=[iv r9.1]) (c:=[iv r9.1]) (r:=iv r9.1) (hl:=bW)) (ZO.u 1 (ZW (H:=aj) (id:=id1) (off:=0) (cs:=(ZQ a1_)) (c:=[iv a1_.Grid]) (r:=iv a1_.Grid) (hl:=bV)) ZO.f)) kr (tq (it h (λcE h=>?_) (λcE h=>?_)))
   ·refine sk (tq (kq (sq (bk ?_))))
    have bU:=Fp.get hH 0 rfl
    have bT:=Fp.get hH 1 rfl
    obtain ⟨cd,cp,h⟩:=bs h
    obtain ⟨cc,co,h⟩:=bs h
    have bE:∀ (a9:Int) (ac:Int) (ad:Int) (s:(List (List Bool))) (r:(((List (List Bool))))) (H:List HO) (its:List Zap),(λ(s:(List (List Bool))) (its:List Zap)=>∃ (a5:List AV),its=[.cel a3 [.fn 15 [] [.ptr a2 0,.ptr a0 0]],.cel id1 (ZQ a1_),.cel a0 [iv r9.1],.cel a2 [.csl a1 (Int.toNat (w64 (2*((List.length a0_.Links:Nat):Int))))],.fam a1 (Int.toNat (w64 (2*((List.length a0_.Links:Nat):Int)))) a5 1 false (List.map (List.map eB) s)]) s its->HP H its->(λ(s:(List (List Bool))) (a9:Int) (ac:Int) (ad:Int)=>Zc2 N r9 s a9 ac ad) s a9 ac ad=some r->∃ H' its',Zd1 Try.prog (.fn 15 [] [.ptr a2 0,.ptr a0 0]) [iv a9,iv ac,iv ad] H (.tup []) H'/\(λ(s:(List (List Bool))) (its:List Zap)=>∃ (a5:List AV),its=[.cel a3 [.fn 15 [] [.ptr a2 0,.ptr a0 0]],.cel id1 (ZQ a1_),.cel a0 [iv r9.1],.cel a2 [.csl a1 (Int.toNat (w64 (2*((List.length a0_.Links:Nat):Int))))],.fam a1 (Int.toNat (w64 (2*((List.length a0_.Links:Nat):Int)))) a5 1 false (List.map (List.map eB) s)]) r its'/\Fp H H' its its':=by
     clear h
     intro a9 ac ad s q aB its hT hH h
     obtain ⟨aC,rfl⟩:∃ v,v=s:=⟨s,rfl⟩
     obtain ⟨a5,rfl⟩:=hT
     replace h:Zc2 N r9 aC a9 ac ad=some q:=h
     unfold Zc2 at h
     replace hH:Fp _ _ _ [.cel a3 [.fn 15 [] [.ptr a2 0,.ptr a0 0]],.cel id1 (ZQ a1_),.cel a0 [iv r9.1],.cel a2 [.csl a1 (Int.toNat (w64 (2*((List.length a0_.Links:Nat):Int))))],.fam a1 (Int.toNat (w64 (2*((List.length a0_.Links:Nat):Int)))) a5 1 false (List.map (List.map eB) aC)]:=Fp.refl hH
     suffices hs:∃ H',Za4 Try.prog 15 [iv a9,iv ac,iv ad,.ptr a2 0,.ptr a0 0] aB (.tup []) H'/\∃ its',(λ(s:(List (List Bool))) (its:List Zap)=>∃ (a5:List AV),its=[.cel a3 [.fn 15 [] [.ptr a2 0,.ptr a0 0]],.cel id1 (ZQ a1_),.cel a0 [iv r9.1],.cel a2 [.csl a1 (Int.toNat (w64 (2*((List.length a0_.Links:Nat):Int))))],.fam a1 (Int.toNat (w64 (2*((List.length a0_.Links:Nat):Int)))) a5 1 false (List.map (List.map eB) s)]) q its'/\Fp aB H' [.cel a3 [.fn 15 [] [.ptr a2 0,.ptr a0 0]],.cel id1 (ZQ a1_),.cel a0 [iv r9.1],.cel a2 [.csl a1 (Int.toNat (w64 (2*((List.length a0_.Links:Nat):Int))))],.fam a1 (Int.toNat (w64 (2*((List.length a0_.Links:Nat):Int)))) a5 1 false (List.map (List.map eB) aC)] its' by
      obtain ⟨H',h1,its',h2,h3⟩:=hs
      exact ⟨H',its',Zd1.of kr h1,h2,h3⟩
     refine ZfU ZAM (λH'=>∃ its',(λ(s:(List (List Bool))) (its:List Zap)=>∃ (a5:List AV),its=[.cel a3 [.fn 15 [] [.ptr a2 0,.ptr a0 0]],.cel id1 (ZQ a1_),.cel a0 [iv r9.1],.cel a2 [.csl a1 (Int.toNat (w64 (2*((List.length a0_.Links:Nat):Int))))],.fam a1 (Int.toNat (w64 (2*((List.length a0_.Links:Nat):Int)))) a5 1 false (List.map (List.map eB) s)]) q its'/\Fp aB H' [.cel a3 [.fn 15 [] [.ptr a2 0,.ptr a0 0]],.cel id1 (ZQ a1_),.cel a0 [iv r9.1],.cel a2 [.csl a1 (Int.toNat (w64 (2*((List.length a0_.Links:Nat):Int))))],.fam a1 (Int.toNat (w64 (2*((List.length a0_.Links:Nat):Int)))) a5 1 false (List.map (List.map eB) aC)] its') rfl rfl rfl ?_
     show vc _ _ _ _ ⟨[(0,iv a9),(1,iv ac),(2,iv ad),(3,.ptr a2 0),(4,.ptr a0 0)],[],aB⟩
     refine sq (rg ZO.f (tq (bk ?_)))
     obtain ⟨cf,ba,h⟩:=bs h
     refine ZaG ((Zat (λ(x:Int×(List (List Bool))) s=>∃ (ao:List AV) (av:List HO),s=⟨[(0,iv a9),(1,iv ac),(3,.ptr a2 0),(4,.ptr a0 0),(9,iv ad),(10,iv x.1)],[],av⟩/\Fp aB av [.cel a3 [.fn 15 [] [.ptr a2 0,.ptr a0 0]],.cel id1 (ZQ a1_),.cel a0 [iv r9.1],.cel a2 [.csl a1 (Int.toNat (w64 (2*((List.length a0_.Links:Nat):Int))))],.fam a1 (Int.toNat (w64 (2*((List.length a0_.Links:Nat):Int)))) a5 1 false (List.map (List.map eB) aC)] [.cel a3 [.fn 15 [] [.ptr a2 0,.ptr a0 0]],.cel id1 (ZQ a1_),.cel a0 [iv r9.1],.cel a2 [.csl a1 (Int.toNat (w64 (2*((List.length a0_.Links:Nat):Int))))],.fam a1 (Int.toNat (w64 (2*((List.length a0_.Links:Nat):Int)))) ao 1 false (List.map (List.map eB) x.2)]) (λx:Int×(List (List Bool))=>ZcZ N r9 a9 ac ad x.1 x.2) (λ(p:(List (List Bool))) e s=>e=.exit 0/\(∃ (aL:List AV) (bC:List HO),s=⟨[],[],bC⟩/\Fp aB bC [.cel a3 [.fn 15 [] [.ptr a2 0,.ptr a0 0]],.cel id1 (ZQ a1_),.cel a0 [iv r9.1],.cel a2 [.csl a1 (Int.toNat (w64 (2*((List.length a0_.Links:Nat):Int))))],.fam a1 (Int.toNat (w64 (2*((List.length a0_.Links:Nat):Int)))) a5 1 false (List.map (List.map eB) aC)] [.cel a3 [.fn 15 [] [.ptr a2 0,.ptr a0 0]],.cel id1 (ZQ a1_),.cel a0 [iv r9.1],.cel a2 [.csl a1 (Int.toNat (w64 (2*((List.length a0_.Links:Nat):Int))))],.fam a1 (Int.toNat (w64 (2*((List.length a0_.Links:Nat):Int)))) aL 1 false (List.map (List.map eB) p)])) ?_ N _ cf _ ba ⟨a5,aB,kr,(Fp.pick hH [0,1,2,3,4] rfl)⟩).mono ?_)
     ·clear h ba
      rintro ⟨ci,aZ⟩ o s h hR
      obtain ⟨ao,av,rfl,hH⟩:=hR
      replace hH:Fp _ _ _ [.cel a3 [.fn 15 [] [.ptr a2 0,.ptr a0 0]],.cel id1 (ZQ a1_),.cel a0 [iv r9.1],.cel a2 [.csl a1 (Int.toNat (w64 (2*((List.length a0_.Links:Nat):Int))))],.fam a1 (Int.toNat (w64 (2*((List.length a0_.Links:Nat):Int)))) ao 1 false (List.map (List.map eB) aZ)]:=hH
      replace h:ZcZ N r9 a9 ac ad ci aZ=some o:=h
      unfold ZcZ at h
      refine sq (rg ZO.f (tq (sq (it h (λcD h=>?_) (λcD h=>?_)))))
      ·refine sk (tq (kq (sq (bk (sq (rg ZO.f (tq ?_)))))))
       have bS:=Fp.get hH 3 rfl
       obtain ⟨d9,bm,h⟩:=bs h
       obtain ⟨bu,c5,c3,aW,ak,c4⟩:=Fp.famGet (k:=4) eB hH rfl bm
       have bR:=Fp.get hH 2 rfl
       obtain ⟨cg,cu,h⟩:=bs h
       obtain ⟨dB,bl,h⟩:=bs h
       obtain ⟨dl,dd,_,cY,df,bf,be⟩:=Lies.elem eB c4 bl
       obtain ⟨db,cM,hH⟩:=Fp.famRowAt (k:=4) (off:=0) (cs:=[bv true]) (ps:=[.bool true]) (e':=true) eB hH rfl bm aW bf bl kr kr
       replace hH:Fp _ _ _ [.cel a3 [.fn 15 [] [.ptr a2 0,.ptr a0 0]],.cel id1 (ZQ a1_),.cel a0 [iv r9.1],.cel a2 [.csl a1 (Int.toNat (w64 (2*((List.length a0_.Links:Nat):Int))))],.fam a1 (Int.toNat (w64 (2*((List.length a0_.Links:Nat):Int)))) ao 1 false (List.map (List.map eB) (List.set aZ (Int.toNat a9) (List.set d9 (Int.toNat cg) true)))]:=hH
       refine rq (ZO.u 0 (Zaz (ZW (H:=av) (id:=a2) (off:=0) (cs:=[.csl a1 (Int.toNat (w64 (2*((List.length a0_.Links:Nat):Int))))]) (c:=[.csl a1 (Int.toNat (w64 (2*((List.length a0_.Links:Nat):Int))))]) (r:=.csl a1 (Int.toNat (w64 (2*((List.length a0_.Links:Nat):Int))))) (hl:=bS))) (ZO.u 1 (Z0 (ys:=[.csl a1 (Int.toNat (w64 (2*((List.length a0_.Links:Nat):Int)))),iv a9]) (h:=c3 .i64)) (ZO.u 0 (Zaz (ZW (H:=av) (id:=a1) (off:=Int.toNat a9) (cs:=ao) (c:=[bu]) (r:=bu) (by cases ak<;>kernel_rfl) (by cases ak<;>kernel_rfl) c5 aW (by cases ak<;>kernel_rfl) (by cases ak<;>kernel_rfl)) (by cases ak<;>kernel_rfl)) (ZO.u 3 (Zaz (ZW (H:=av) (id:=a0) (off:=0) (cs:=[iv r9.1]) (c:=[iv r9.1]) (r:=iv r9.1) (hl:=bR))) (ZO.u 0 (Z0 (ys:=[iv (w64 (ac+ci)),iv r9.1]) (h:=ZcE cu)) (ZO.u 0 (Z0 (ys:=[bu,iv cg]) (by cases ak<;>kernel_rfl) (be .i64)) (ZO.o 0 (ZhB (Zam (H:=av) (v:=bv true) (hw:=cM)) kr) ZO.f))))))) (bn (tq (rg ZO.f ?_)))
       cases h
       exact ⟨_,rfl,⟨ao,db,kr,(Fp.pick hH [0,1,2,3,4] rfl)⟩⟩
      refine kq (xq (tx ?_))
      cases h
      exact ⟨_,rfl,rfl,⟨ao,av,kr,(Fp.pick hH [0,1,2,3,4] rfl)⟩⟩
     rintro e s hq
     obtain ⟨rfl,hR⟩:=hq
     obtain ⟨aL,bC,rfl,hH⟩:=hR
     replace hH:Fp _ _ _ [.cel a3 [.fn 15 [] [.ptr a2 0,.ptr a0 0]],.cel id1 (ZQ a1_),.cel a0 [iv r9.1],.cel a2 [.csl a1 (Int.toNat (w64 (2*((List.length a0_.Links:Nat):Int))))],.fam a1 (Int.toNat (w64 (2*((List.length a0_.Links:Nat):Int)))) aL 1 false (List.map (List.map eB) cf)]:=hH
     refine bx ?_
     cases h
     exact ⟨[],kr,kr,_,⟨aL,Eq.refl _⟩,(Fp.pick hH [0,1,2,3,4] rfl)⟩
    obtain ⟨bB,cT,bI,c6,c7⟩:=bE a6.port cd al aR cc aj [.cel a3 [.fn 15 [] [.ptr a2 0,.ptr a0 0]],.cel id1 (ZQ a1_),.cel a0 [iv r9.1],.cel a2 [.csl a1 (Int.toNat (w64 (2*((List.length a0_.Links:Nat):Int))))],.fam a1 (Int.toNat (w64 (2*((List.length a0_.Links:Nat):Int)))) ap 1 false (List.map (List.map eB) aR)] (by exact ⟨ap,Eq.refl _⟩) (Fp.now (Fp.pick hH [0,1,2,3,4] rfl)) co
    obtain ⟨a5,rfl⟩:=c6
    replace hH:Fp _ _ _ [.cel a3 [.fn 15 [] [.ptr a2 0,.ptr a0 0]],.cel id1 (ZQ a1_),.cel a0 [iv r9.1],.cel a2 [.csl a1 (Int.toNat (w64 (2*((List.length a0_.Links:Nat):Int))))],.fam a1 (Int.toNat (w64 (2*((List.length a0_.Links:Nat):Int)))) a5 1 false (List.map (List.map eB) cc),.lp (List.length a7) (lcOf Try.prog i6.nt [73] ZeH ZeF) [(5,.ptr id1 0),(13,.ptr a0 0),(16,.ptr a3 0)] .busy]:=Fp.callee (fp:=[.cel a3 [.fn 15 [] [.ptr a2 0,.ptr a0 0]],.cel id1 (ZQ a1_),.cel a0 [iv r9.1],.cel a2 [.csl a1 (Int.toNat (w64 (2*((List.length a0_.Links:Nat):Int))))],.fam a1 (Int.toNat (w64 (2*((List.length a0_.Links:Nat):Int)))) ap 1 false (List.map (List.map eB) aR)]) (rest:=[.lp (List.length a7) (lcOf Try.prog i6.nt [73] ZeH ZeF) [(5,.ptr id1 0),(13,.ptr a0 0),(16,.ptr a3 0)] .busy]) (Fp.pick hH [0,1,2,3,4,5] rfl) c7
    refine rqS ⟨[(5,.ptr id1 0),(13,.ptr a0 0),(16,.ptr a3 0),(17,.loc 17 0),(18,iv al),(19,iv aD)],[(17,(Zaq a6))],bB⟩ (ZO.u 0 (Zaz (ZW (H:=aj) (id:=a3) (off:=0) (cs:=[.fn 15 [] [.ptr a2 0,.ptr a0 0]]) (c:=[.fn 15 [] [.ptr a2 0,.ptr a0 0]]) (r:=.fn 15 [] [.ptr a2 0,.ptr a0 0]) (hl:=bU))) (ZO.u 4 (Zaz (ZW (H:=aj) (id:=id1) (off:=0) (cs:=(ZQ a1_)) (c:=[iv a1_.Grid]) (r:=iv a1_.Grid) (hl:=bT))) (ZO.u 0 (Z0 (ys:=[iv aD,iv a1_.Grid]) (h:=Zez cp)) (ZO.v 1 (ZbF (H:=aj) (fv:=.fn 15 [] [.ptr a2 0,.ptr a0 0]) (ys:=[iv a6.port,iv cd,iv al]) (hc:=bI)) ZO.f)))) kr (bn (tq (rgS ⟨[(5,.ptr id1 0),(13,.ptr a0 0),(16,.ptr a3 0),(17,.loc 17 0),(18,iv al),(19,iv (w64 (aD+a6.period)))],[(17,(Zaq a6))],bB⟩ ZO.f kr ?_)))
    cases h
    exact ⟨_,rfl,⟨a5,bB,kr,(Fp.pick hH [0,1,2,3,4,5] rfl)⟩⟩
   refine kq (xq (tx ?_))
   cases h
   exact ⟨_,rfl,rfl,⟨ap,aj,kr,(Fp.pick hH [0,1,2,3,4,5] rfl)⟩⟩
  rintro e s hq
  obtain ⟨rfl,hR⟩:=hq
  obtain ⟨aM,bD,rfl,hH⟩:=hR
  replace hH:Fp _ _ _ [.cel a3 [.fn 15 [] [.ptr a2 0,.ptr a0 0]],.cel id1 (ZQ a1_),.cel a0 [iv r9.1],.cel a2 [.csl a1 (Int.toNat (w64 (2*((List.length a0_.Links:Nat):Int))))],.fam a1 (Int.toNat (w64 (2*((List.length a0_.Links:Nat):Int)))) aM 1 false (List.map (List.map eB) ce),.lp (List.length a7) (lcOf Try.prog i6.nt [73] ZeH ZeF) [(5,.ptr id1 0),(13,.ptr a0 0),(16,.ptr a3 0)] .busy]:=hH
  refine bx (bn ?_)
  cases h
  exact rbd (k:=5) (.ready) hH rfl rfl (λH6 hH=>⟨_,⟨aM,Eq.refl _⟩,(Fp.pick hH [0,1,2,3,4,5] rfl)⟩)
 refine ZeR (s:=⟨[(5,.ptr id1 0),(13,.ptr a0 0),(14,.ptr a2 0),(16,.ptr a3 0),(72,.fn 28 [] [.ptr aA 0,.ptr az 0,.ptr ay 0,.ptr ax 0])],[],a7⟩) [(5,.ptr id1 0),(13,.ptr a0 0),(16,.ptr a3 0)] (FrOK.cons kr kr (FrOK.cons kr kr (FrOK.cons kr kr FrOK.nil))) kr (λH=>rfl) (capT:=[.cel aA [ZR false ae.1],.cel az [ZU false ae.2.1],.cel ay (ZP ae.2.2.1),.cel ax (ZQ ae.2.2.2)]) (cells0:=[.cel a3 [.fn 15 [] [.ptr a2 0,.ptr a0 0]],.cel id1 (ZQ a1_),.cel a0 [iv r9.1],.cel a2 [.csl a1 (Int.toNat (w64 (2*((List.length a0_.Links:Nat):Int))))],.fam a1 (Int.toNat (w64 (2*((List.length a0_.Links:Nat):Int)))) aq 1 false (List.map (List.map eB) aJ)]) (rest:=[]) (HP.now (HP.pick hH [0,1,2,3,4,5,6,7,8] rfl)) (λ(s:(List (List Bool))) (its:List Zap)=>∃ (a4:List AV),its=[.cel a3 [.fn 15 [] [.ptr a2 0,.ptr a0 0]],.cel id1 (ZQ a1_),.cel a0 [iv r9.1],.cel a2 [.csl a1 (Int.toNat (w64 (2*((List.length a0_.Links:Nat):Int))))],.fam a1 (Int.toNat (w64 (2*((List.length a0_.Links:Nat):Int)))) a4 1 false (List.map (List.map eB) s)]++[.lp (List.length a7) (lcOf Try.prog i6.nt [73] ZeH ZeF) [(5,.ptr id1 0),(13,.ptr a0 0),(16,.ptr a3 0)] .ready]) aJ af (by exact ⟨aq,Eq.refl _⟩) (λH its hT hH=>Zd8 N (λ(s:(List (List Bool))) (a6:ZaI)=>Zd5 (λv:(List (List Bool))=>Zcl N a1_ r9 v a6) s) ae.1 ae.2.1 ae.2.2.1 ae.2.2.2 aJ aA az ay ax (List.length a7) (λ(s:(List (List Bool))) (its:List Zap)=>∃ (a4:List AV),its=[.cel a3 [.fn 15 [] [.ptr a2 0,.ptr a0 0]],.cel id1 (ZQ a1_),.cel a0 [iv r9.1],.cel a2 [.csl a1 (Int.toNat (w64 (2*((List.length a0_.Links:Nat):Int))))],.fam a1 (Int.toNat (w64 (2*((List.length a0_.Links:Nat):Int)))) a4 1 false (List.map (List.map eB) s)]++[.lp (List.length a7) (lcOf Try.prog i6.nt [73] ZeH ZeF) [(5,.ptr id1 0),(13,.ptr a0 0),(16,.ptr a3 0)] .ready]) bG H its hT hH af ct) ?_
 rintro its hT
 obtain ⟨a4,rfl⟩:=hT
 refine ⟨_,_,rfl,?_⟩
 intro bA hF
 replace hH:HP _ [.cel aA [ZR false ae.1],.cel az [ZU false ae.2.1],.cel ay (ZP ae.2.2.1),.cel ax (ZQ ae.2.2.2),.cel a3 [.fn 15 [] [.ptr a2 0,.ptr a0 0]],.cel id1 (ZQ a1_),.cel a0 [iv r9.1],.cel a2 [.csl a1 (Int.toNat (w64 (2*((List.length a0_.Links:Nat):Int))))],.fam a1 (Int.toNat (w64 (2*((List.length a0_.Links:Nat):Int)))) a4 1 false (List.map (List.map eB) af)]:=HP.after (HP.pick hH [0,1,2,3,4,5,6,7,8] rfl) hF
 refine Zf0 (S:=⟨[(5,.ptr id1 0),(13,.ptr a0 0),(14,.ptr a2 0),(16,.ptr a3 0),(72,.fn 28 [] [.ptr aA 0,.ptr az 0,.ptr ay 0,.ptr ax 0])],[],bA⟩) (bn (tq (kq ?_)))
 replace hH:HP _ [.cel id1 (ZQ a1_),.cel a2 [.csl a1 (Int.toNat (w64 (2*((List.length a0_.Links:Nat):Int))))],.fam a1 (Int.toNat (w64 (2*((List.length a0_.Links:Nat):Int)))) a4 1 false (List.map (List.map eB) af)]:=HP.pick hH [5,7,8] rfl
 refine sq ?_
 have bQ:=HP.get hH 1 rfl
 have bK:=HP.famLen (k:=2) hH rfl
 obtain ⟨ag,cz,h⟩:=bs h
 obtain ⟨aG,bz,cJ,cL,c2,hH⟩:=HP.make Zad hH cz
 replace hH:HP _ [.arr aG 2 false (List.map Zad ag),.cel id1 (ZQ a1_),.cel a2 [.csl a1 (Int.toNat (w64 (2*((List.length a0_.Links:Nat):Int))))],.fam a1 (Int.toNat (w64 (2*((List.length a0_.Links:Nat):Int)))) a4 1 false (List.map (List.map eB) af)]:=hH
 have aw:=Za5 (HP.get hH 0 rfl)
 refine rgS ⟨[(5,.ptr id1 0),(14,.ptr a2 0),(20,aG)],[],bz⟩ (ZO.u 0 (ZW (H:=bA) (id:=a2) (off:=0) (cs:=[.csl a1 (Int.toNat (w64 (2*((List.length a0_.Links:Nat):Int))))]) (c:=[.csl a1 (Int.toNat (w64 (2*((List.length a0_.Links:Nat):Int))))]) (r:=.csl a1 (Int.toNat (w64 (2*((List.length a0_.Links:Nat):Int))))) (hl:=bQ)) (ZO.u 0 (Z0 (ys:=[.csl a1 (Int.toNat (w64 (2*((List.length a0_.Links:Nat):Int))))]) (h:=bK)) (ZO.h 0 (Zgw (H:=bA) (zero:=[.sl 2 false (List.map Z4 []),.int .i64 0]) (bytes:=32) kr kr kr cJ cL c2) ZO.f))) (by cases aw<;>kernel_rfl) (tq (sq (sq ?_)))
 have bJ:=HP.len (k:=0) (a:=aG) (sz:=2) (frz:=false) (l:=ag) Zad hH rfl
 refine rgS ⟨[(5,.ptr id1 0),(14,.ptr a2 0),(20,aG),(111,iv ((List.length ag:Nat):Int)),(112,iv 0)],[],bz⟩ (ZO.u 1 (Z0 (ys:=[aG]) (by cases aw<;>kernel_rfl) bJ) ZO.f) (by cases aw<;>kernel_rfl) (tq (bk ?_))
 obtain ⟨aY,b1,h⟩:=bs h
 refine ZaG ((Zat (λ(x:Int×(List Zah)) s=>∃ (a8:AV) (an:List AV) (am:List HO),s=⟨[(5,.ptr id1 0),(14,.ptr a2 0),(20,a8),(111,iv ((List.length ag:Nat):Int)),(112,iv x.1)],[],am⟩/\HP am [.arr a8 2 false (List.map Zad x.2),.cel id1 (ZQ a1_),.cel a2 [.csl a1 (Int.toNat (w64 (2*((List.length a0_.Links:Nat):Int))))],.fam a1 (Int.toNat (w64 (2*((List.length a0_.Links:Nat):Int)))) an 1 true (List.map (List.map eB) af)]) (λx:Int×(List Zah)=>ZcY N a1_ af ag x.1 x.2) (λ(p:(List Zah)) e s=>e=.exit 6/\(∃ (aE:AV) (aT:List HO),s=⟨[(20,aE)],[],aT⟩/\HP aT [.arr aE 2 false (List.map Zad p)])) ?_ N _ aY _ b1 ⟨aG,a4,bz,(by show _=_;cases aw<;>kernel_rfl),(HP.famUp (k:=3) (HP.pick hH [0,1,2,3] rfl) rfl)⟩).mono ?_)
 ·clear h b1
  rintro ⟨ai,aQ⟩ o s h hR
  obtain ⟨a8,an,am,rfl,hH⟩:=hR
  replace hH:HP _ [.arr a8 2 false (List.map Zad aQ),.cel id1 (ZQ a1_),.cel a2 [.csl a1 (Int.toNat (w64 (2*((List.length a0_.Links:Nat):Int))))],.fam a1 (Int.toNat (w64 (2*((List.length a0_.Links:Nat):Int)))) an 1 true (List.map (List.map eB) af)]:=hH
  have ab:=Za5 (HP.get hH 0 rfl)
  replace h:ZcY N a1_ af ag ai aQ=some o:=h
  unfold ZcY at h
  refine sq (rgS ⟨[(5,.ptr id1 0),(14,.ptr a2 0),(20,a8),(111,iv ((List.length ag:Nat):Int)),(112,iv ai),(113,bv (decide (ai<((List.length ag:Nat):Int))))],[],am⟩ ZO.f (by cases ab<;>kernel_rfl) (tq (sq (it h (λcC h=>?_) (λcC h=>?_)))))
  ·refine sk (tq (kq (sq (bk (sq (rgS ⟨[(5,.ptr id1 0),(14,.ptr a2 0),(20,a8),(21,iv ai),(111,iv ((List.length ag:Nat):Int)),(112,iv ai)],[],am⟩ ZO.f (by cases ab<;>kernel_rfl) (tq ?_)))))))
   have bM:=HP.get hH 2 rfl
   obtain ⟨d8,bj,h⟩:=bs h
   obtain ⟨bt,c1,c0,aV,aa,dg⟩:=HP.famGet (k:=3) eB hH rfl bj
   have bL:=HP.get hH 1 rfl
   obtain ⟨au,cn,h⟩:=bs h
   obtain ⟨da,de,b0,hH⟩:=HP.famFrz (k:=3) eB hH rfl bj aV
   replace hH:HP _ [.arr a8 2 false (List.map Zad aQ),.cel id1 (ZQ a1_),.cel a2 [.csl a1 (Int.toNat (w64 (2*((List.length a0_.Links:Nat):Int))))],.fam a1 (Int.toNat (w64 (2*((List.length a0_.Links:Nat):Int)))) an 1 true (List.map (List.map eB) af)]:=hH
   obtain ⟨dA,bi,h⟩:=bs h
   obtain ⟨dk,dc,_,bc,bZ,bd,bb⟩:=HP.elem (k:=0) (a:=a8) (sz:=2) (frz:=false) Zad hH rfl bi
   obtain ⟨bw,cK,hH⟩:=HP.setRow (k:=0) (off:=0) (cs:=[Z3 false au.Entries,iv au.Cycle]) (ps:=[.sl 2 false (List.map Z4 au.Entries),.int .i64 au.Cycle]) (e':=au) Zad hH rfl bd bZ (bc rfl) bi kr kr
   replace hH:HP _ [.arr a8 2 false (List.map Zad (List.set aQ (Int.toNat ai) au)),.cel id1 (ZQ a1_),.cel a2 [.csl a1 (Int.toNat (w64 (2*((List.length a0_.Links:Nat):Int))))],.fam a1 (Int.toNat (w64 (2*((List.length a0_.Links:Nat):Int)))) an 1 true (List.map (List.map eB) af)]:=hH
   refine rqS ⟨[(5,.ptr id1 0),(14,.ptr a2 0),(20,a8),(111,iv ((List.length ag:Nat):Int)),(112,iv ai)],[],bw⟩ (ZO.u 2 (Zaz (ZW (H:=am) (id:=a2) (off:=0) (cs:=[.csl a1 (Int.toNat (w64 (2*((List.length a0_.Links:Nat):Int))))]) (c:=[.csl a1 (Int.toNat (w64 (2*((List.length a0_.Links:Nat):Int))))]) (r:=.csl a1 (Int.toNat (w64 (2*((List.length a0_.Links:Nat):Int))))) (hl:=bM))) (ZO.u 1 (Z0 (ys:=[.csl a1 (Int.toNat (w64 (2*((List.length a0_.Links:Nat):Int)))),iv ai]) (h:=c0 .i64)) (ZO.u 0 (Zaz (ZW (H:=am) (id:=a1) (off:=Int.toNat ai) (cs:=an) (c:=[bt]) (r:=bt) (by cases aa<;>kernel_rfl) (by cases aa<;>kernel_rfl) c1 aV (by cases aa<;>kernel_rfl) (by cases aa<;>kernel_rfl)) (by cases aa<;>kernel_rfl)) (ZO.u 1 (Zaz (ZW (H:=am) (id:=id1) (off:=0) (cs:=(ZQ a1_)) (c:=[iv a1_.Grid]) (r:=iv a1_.Grid) (hl:=bL))) (ZO.v 0 (Zh0 (H:=am) (ys:=[bt,iv a1_.Grid]) (by cases aa<;>kernel_rfl) (by cases aa<;>kernel_rfl) (ZeN b0 (ZeN rfl Zh4)) (Zjs N d8 a1_.Grid au cn)) (ZO.u 0 (Z0 (ys:=[a8,iv ai]) (by cases ab<;>kernel_rfl) (bb .i64)) (ZO.o 0 (ZhB (Zam (H:=da) (v:=.agg (ZaN au)) (hw:=cK)) kr) ZO.f))))))) (by cases ab<;>cases aa<;>kernel_rfl) (bn (tq (rgS ⟨[(5,.ptr id1 0),(14,.ptr a2 0),(20,a8),(111,iv ((List.length ag:Nat):Int)),(112,iv (w64 (ai+1)))],[],bw⟩ ZO.f (by cases ab<;>kernel_rfl) ?_)))
   cases h
   exact ⟨_,rfl,⟨a8,an,bw,(by show _=_;cases ab<;>kernel_rfl),(HP.pick hH [0,1,2,3] rfl)⟩⟩
  refine kq ?_
  replace hH:HP _ [.arr a8 2 false (List.map Zad aQ)]:=HP.pick hH [0] rfl
  refine xq (tx ?_)
  cases h
  exact ⟨_,rfl,rfl,⟨a8,am,(by show _=_;cases ab<;>kernel_rfl),(HP.pick hH [0] rfl)⟩⟩
 rintro e s hq
 obtain ⟨rfl,hR⟩:=hq
 obtain ⟨aE,aT,rfl,hH⟩:=hR
 replace hH:HP _ [.arr aE 2 false (List.map Zad aY)]:=hH
 have aK:=Za5 (HP.get hH 0 rfl)
 refine bx (tq (sq (rgS ⟨[(8,aE),(9,iv 0)],[],aT⟩ ZO.f (by cases aK<;>kernel_rfl) (tq (rt ?_)))))
 obtain rfl:=Zaa h
 exact Zb8 (H:=aT) (ys:=[aE,iv 0]) (xs:=[.p (.sl 2 false (List.map Zad aY)),iv 0]) (by cases aK<;>kernel_rfl) (by cases aK<;>kernel_rfl) (ZaA (HP.pure (k:=0) (frz:=false) Zad hH rfl).2 (ZaA rfl Za3)) kr
theorem Zbh (N:Nat)(a0_:Z8)(a1_:Zan)(a2_:(List Z9))(a3_:(List Int))(a4_:(List Zah))(r:Bool×Int)(h:Zbu N a0_ a1_ a2_ a3_ a4_=some r):PCall Try.prog 9 [.agg (ZP a0_),.agg (ZQ a1_),ZR false a2_,ZU false a3_,ZT false a4_] (.tup [bv r.1,iv r.2]):=by
 unfold Zbu at h
 have hH  := hp0
 refine Zal chk9 rfl rfl (Z5 _ _ _ ?_) rfl
 refine sq ?_
 obtain ⟨id1,H2,hid1,hH2,hH⟩:=HP.newCell hH (ZQ a1_)
 replace hH:HP _ [.cel id1 (ZQ a1_)]:=hH
 obtain ⟨id3,H4,hid3,hH4,hH⟩:=HP.newCell hH [ZT false a4_]
 replace hH:HP _ [.cel id3 [ZT false a4_],.cel id1 (ZQ a1_)]:=hH
 obtain ⟨id5,H6,hid5,hH6,hH⟩:=HP.newCell hH [bv false]
 replace hH:HP _ [.cel id5 [bv false],.cel id3 [ZT false a4_],.cel id1 (ZQ a1_)]:=hH
 obtain ⟨id7,H8,hid7,hH8,hH⟩:=HP.newCell hH [iv 0]
 replace hH:HP _ [.cel id7 [iv 0],.cel id5 [bv false],.cel id3 [ZT false a4_],.cel id1 (ZQ a1_)]:=hH
 refine rgS ⟨[(2,ZR false a2_),(3,ZU false a3_),(5,.loc 5 0),(6,.ptr id1 0),(9,.ptr id3 0),(10,.ptr id5 0),(11,.ptr id7 0)],[(5,(ZP a0_))],H8⟩ (ZO.h 1 (Zbb (H:=[]) (v:=.agg (ZQ a1_)) (hid:=hid1) (hH:=hH2)) (ZO.h 0 (Zbb (H:=H2) (v:=ZT false a4_) (hid:=hid3) (hH:=hH4)) (ZO.h 0 (Zcz (H:=H4) kr hid5 hH6) (ZO.h 0 (Zcz (H:=H6) kr hid7 hH8) ZO.f)))) kr (tq (sq ?_))
 have hlc9:=HP.get hH 3 rfl
 obtain ⟨ac,bR,h⟩:=bs h
 refine rgS ⟨[(2,ZR false a2_),(3,ZU false a3_),(5,.loc 5 0),(6,.ptr id1 0),(9,.ptr id3 0),(10,.ptr id5 0),(11,.ptr id7 0),(12,.loc 12 0),(13,iv ac.2)],[(5,(ZP a0_)),(12,(ZS ac.1))],H8⟩ (ZO.u 1 (ZW (H:=H8) (id:=id1) (off:=0) (cs:=(ZQ a1_)) (c:=(ZQ a1_)) (r:=.agg (ZQ a1_)) (hl:=hlc9)) (ZO.v 1 (Z7 (hc:=Zi8 N a0_ a1_ a2_ ac bR)) ZO.f)) kr (tq (sq (sq (rgS ⟨[(2,ZR false a2_),(3,ZU false a3_),(5,.loc 5 0),(6,.ptr id1 0),(9,.ptr id3 0),(10,.ptr id5 0),(11,.ptr id7 0),(12,.loc 12 0),(13,iv ac.2),(32,bv (ac.2 != 0))],[(5,(ZP a0_)),(12,(ZS ac.1))],H8⟩ ZO.f kr (tq (it h (λbT h=>?_) (λbT h=>?_)))))))
 ·refine sq ?_
  obtain ⟨cb,bX,hH⟩:=HP.setCell (k:=1) (off:=0) (cs:=[bv false]) (vs:=[bv false]) (cs':=[bv false]) hH rfl kr
  replace hH:HP _ [.cel id7 [iv 0],.cel id5 [bv false],.cel id3 [ZT false a4_],.cel id1 (ZQ a1_)]:=hH
  obtain ⟨c8,bW,hH⟩:=HP.setCell (k:=0) (off:=0) (cs:=[iv 0]) (vs:=[iv ac.2]) (cs':=[iv ac.2]) hH rfl kr
  replace hH:HP _ [.cel id7 [iv ac.2],.cel id5 [bv false],.cel id3 [ZT false a4_],.cel id1 (ZQ a1_)]:=hH
  refine rgS ⟨[(10,.ptr id5 0),(11,.ptr id7 0)],[],c8⟩ (ZO.o 1 (Zam (H:=H8) (v:=bv false) (hw:=bX)) (ZO.o 0 (Zam (H:=cb) (v:=iv ac.2) (hw:=bW)) ZO.f)) kr ?_
  replace hH:HP _ [.cel id7 [iv ac.2],.cel id5 [bv false]]:=HP.pick hH [0,1] rfl
  refine tq (rt (tr ?_))
  obtain rfl:=Zaa h
  exact Zb8 (H:=c8) (ys:=[bv false,iv ac.2]) (xs:=[bv false,iv ac.2]) kr (Zbz (r:=.cell 10 1 false) (v:=bv false) (Zby (id:=id5) (off:=0) (cs:=[bv false]) (c:=[bv false]) kr (HP.get hH 1 rfl) kr kr) (Zbz (r:=.cell 11 1 false) (v:=iv ac.2) (Zby (id:=id7) (off:=0) (cs:=[iv ac.2]) (c:=[iv ac.2]) kr (HP.get hH 0 rfl) kr kr) Zda)) (ZaA rfl (ZaA rfl Za3)) kr
 refine sk (tq (kq (sq (sq ?_))))
 obtain ⟨ai,bQ,h⟩:=bs h
 refine rgS ⟨[(2,ZR false a2_),(3,ZU false a3_),(5,.loc 5 0),(6,.ptr id1 0),(9,.ptr id3 0),(10,.ptr id5 0),(11,.ptr id7 0),(12,.loc 12 0),(15,iv ai.2)],[(5,(ZP a0_)),(12,(ZS ac.1))],H8⟩ (ZO.v 2 (Z7 (hc:=ZhG N ac.1 a3_ ai bQ)) ZO.f) kr (tq (sq (rgS ⟨[(2,ZR false a2_),(3,ZU false a3_),(5,.loc 5 0),(6,.ptr id1 0),(9,.ptr id3 0),(10,.ptr id5 0),(11,.ptr id7 0),(12,.loc 12 0),(15,iv ai.2),(41,bv (ai.2 != 0))],[(5,(ZP a0_)),(12,(ZS ac.1))],H8⟩ ZO.f kr (tq (it h (λbS h=>?_) (λbS h=>?_))))))
 ·refine sq ?_
  obtain ⟨ca,bV,hH⟩:=HP.setCell (k:=1) (off:=0) (cs:=[bv false]) (vs:=[bv false]) (cs':=[bv false]) hH rfl kr
  replace hH:HP _ [.cel id7 [iv 0],.cel id5 [bv false],.cel id3 [ZT false a4_],.cel id1 (ZQ a1_)]:=hH
  obtain ⟨c7,bU,hH⟩:=HP.setCell (k:=0) (off:=0) (cs:=[iv 0]) (vs:=[iv ai.2]) (cs':=[iv ai.2]) hH rfl kr
  replace hH:HP _ [.cel id7 [iv ai.2],.cel id5 [bv false],.cel id3 [ZT false a4_],.cel id1 (ZQ a1_)]:=hH
  refine rgS ⟨[(10,.ptr id5 0),(11,.ptr id7 0)],[],c7⟩ (ZO.o 1 (Zam (H:=H8) (v:=bv false) (hw:=bV)) (ZO.o 0 (Zam (H:=ca) (v:=iv ai.2) (hw:=bU)) ZO.f)) kr ?_
  replace hH:HP _ [.cel id7 [iv ai.2],.cel id5 [bv false]]:=HP.pick hH [0,1] rfl
  refine tq (rt (tr ?_))
  obtain rfl:=Zaa h
  exact Zb8 (H:=c7) (ys:=[bv false,iv ai.2]) (xs:=[bv false,iv ai.2]) kr (Zbz (r:=.cell 10 1 false) (v:=bv false) (Zby (id:=id5) (off:=0) (cs:=[bv false]) (c:=[bv false]) kr (HP.get hH 1 rfl) kr kr) (Zbz (r:=.cell 11 1 false) (v:=iv ai.2) (Zby (id:=id7) (off:=0) (cs:=[iv ai.2]) (c:=[iv ai.2]) kr (HP.get hH 0 rfl) kr kr) Zda)) (ZaA rfl (ZaA rfl Za3)) kr
 refine sk (tq (kq (sq (sq ?_))))
 have bl:=HP.get hH 2 rfl
 refine rgS ⟨[(2,ZR false a2_),(3,ZU false a3_),(5,.loc 5 0),(6,.ptr id1 0),(9,.ptr id3 0),(10,.ptr id5 0),(11,.ptr id7 0),(12,.loc 12 0),(43,ZT false a4_),(44,iv ((List.length a4_:Nat):Int)),(45,iv 0)],[(5,(ZP a0_)),(12,(ZS ac.1))],H8⟩ (ZO.u 0 (ZW (H:=H8) (id:=id3) (off:=0) (cs:=[ZT false a4_]) (c:=[ZT false a4_]) (r:=ZT false a4_) (hl:=bl)) (ZO.u 0 (Z0 (ys:=[ZT false a4_]) (h:=Z6 Zad)) ZO.f)) kr (tq (bk ?_))
 obtain ⟨bf,aI,h⟩:=bs h
 refine ZaG ((Zat (λ(x:Int) s=>s=⟨[(2,ZR false a2_),(3,ZU false a3_),(5,.loc 5 0),(6,.ptr id1 0),(9,.ptr id3 0),(10,.ptr id5 0),(11,.ptr id7 0),(12,.loc 12 0),(43,ZT false a4_),(44,iv ((List.length a4_:Nat):Int)),(45,iv x)],[(5,(ZP a0_)),(12,(ZS ac.1))],H8⟩) (λx:Int=>Zc5 N a4_ x) (λ(p:(Unit)⊕(Bool×Int)) e s=>match p with|(.inl p)=>e=.exit 0/\(s=⟨[(2,ZR false a2_),(3,ZU false a3_),(5,.loc 5 0),(6,.ptr id1 0),(9,.ptr id3 0),(10,.ptr id5 0),(11,.ptr id7 0),(12,.loc 12 0)],[(5,(ZP a0_)),(12,(ZS ac.1))],H8⟩)|(.inr p)=>e=.ret/\∃ xs,resL s i9.res=some xs/\Zbd xs=.tup [bv p.1,iv p.2]) ?_ N _ bf _ aI kr).mono ?_)
 ·clear h aI
  rintro i19 o s h hR
  obtain rfl:=hR
  replace h:Zc5 N a4_ i19=some o:=h
  unfold Zc5 at h
  refine sq (rgS ⟨[(2,ZR false a2_),(3,ZU false a3_),(5,.loc 5 0),(6,.ptr id1 0),(9,.ptr id3 0),(10,.ptr id5 0),(11,.ptr id7 0),(12,.loc 12 0),(43,ZT false a4_),(44,iv ((List.length a4_:Nat):Int)),(45,iv i19),(46,bv (decide (i19<((List.length a4_:Nat):Int))))],[(5,(ZP a0_)),(12,(ZS ac.1))],H8⟩ ZO.f kr (tq (sq (it h (λbt h=>?_) (λbt h=>?_)))))
  ·refine sk (tq (kq (sq (bk (sq ?_)))))
   obtain ⟨ap,aJ,h⟩:=bs h
   refine rgS ⟨[(2,ZR false a2_),(3,ZU false a3_),(5,.loc 5 0),(6,.ptr id1 0),(9,.ptr id3 0),(10,.ptr id5 0),(11,.ptr id7 0),(12,.loc 12 0),(17,.loc 17 0),(43,ZT false a4_),(44,iv ((List.length a4_:Nat):Int)),(45,iv i19)],[(5,(ZP a0_)),(12,(ZS ac.1)),(17,(ZaN ap))],H8⟩ (ZO.u 0 (Z0 (ys:=[ZT false a4_,iv i19]) (h:=ZY Zad aJ)) (ZO.u 0 (Zae (sz:=2) (off:=0) (cs:=[.sl 2 false (List.map Z4 ap.Entries),.int .i64 ap.Cycle]) (r:=.agg (ZaN ap)) Zad aJ) ZO.f)) kr (tq (sq ?_))
   obtain ⟨ab,bj,h⟩:=bs h
   refine rgS ⟨[(2,ZR false a2_),(3,ZU false a3_),(5,.loc 5 0),(6,.ptr id1 0),(9,.ptr id3 0),(10,.ptr id5 0),(11,.ptr id7 0),(12,.loc 12 0),(18,iv ab),(43,ZT false a4_),(44,iv ((List.length a4_:Nat):Int)),(45,iv i19)],[(5,(ZP a0_)),(12,(ZS ac.1))],H8⟩ (ZO.v 1 (Z7 (hc:=Zgr N ap ab bj)) ZO.f) kr (tq (sq (rgS ⟨[(2,ZR false a2_),(3,ZU false a3_),(5,.loc 5 0),(6,.ptr id1 0),(9,.ptr id3 0),(10,.ptr id5 0),(11,.ptr id7 0),(12,.loc 12 0),(18,iv ab),(43,ZT false a4_),(44,iv ((List.length a4_:Nat):Int)),(45,iv i19),(52,bv (ab != 0))],[(5,(ZP a0_)),(12,(ZS ac.1))],H8⟩ ZO.f kr (tq (it h (λbq h=>?_) (λbq h=>?_))))))
   ·refine sq ?_
    obtain ⟨c1,bE,hH⟩:=HP.setCell (k:=1) (off:=0) (cs:=[bv false]) (vs:=[bv false]) (cs':=[bv false]) hH rfl kr
    replace hH:HP _ [.cel id7 [iv 0],.cel id5 [bv false],.cel id3 [ZT false a4_],.cel id1 (ZQ a1_)]:=hH
    obtain ⟨bJ,bD,hH⟩:=HP.setCell (k:=0) (off:=0) (cs:=[iv 0]) (vs:=[iv ab]) (cs':=[iv ab]) hH rfl kr
    replace hH:HP _ [.cel id7 [iv ab],.cel id5 [bv false],.cel id3 [ZT false a4_],.cel id1 (ZQ a1_)]:=hH
    refine rgS ⟨[(10,.ptr id5 0),(11,.ptr id7 0)],[],bJ⟩ (ZO.o 1 (Zam (H:=H8) (v:=bv false) (hw:=bE)) (ZO.o 0 (Zam (H:=c1) (v:=iv ab) (hw:=bD)) ZO.f)) kr ?_
    replace hH:HP _ [.cel id7 [iv ab],.cel id5 [bv false]]:=HP.pick hH [0,1] rfl
    refine tq (rt (br (tr ?_)))
    obtain rfl:=Zaa h
    exact ⟨_,rfl,rfl,Zb8 (H:=bJ) (ys:=[bv false,iv ab]) (xs:=[bv false,iv ab]) kr (Zbz (r:=.cell 10 1 false) (v:=bv false) (Zby (id:=id5) (off:=0) (cs:=[bv false]) (c:=[bv false]) kr (HP.get hH 1 rfl) kr kr) (Zbz (r:=.cell 11 1 false) (v:=iv ab) (Zby (id:=id7) (off:=0) (cs:=[iv ab]) (c:=[iv ab]) kr (HP.get hH 0 rfl) kr kr) Zda)) (ZaA rfl (ZaA rfl Za3)) kr⟩
   refine sk (bn (tq (kq (rgS ⟨[(2,ZR false a2_),(3,ZU false a3_),(5,.loc 5 0),(6,.ptr id1 0),(9,.ptr id3 0),(10,.ptr id5 0),(11,.ptr id7 0),(12,.loc 12 0),(43,ZT false a4_),(44,iv ((List.length a4_:Nat):Int)),(45,iv (w64 (i19+1)))],[(5,(ZP a0_)),(12,(ZS ac.1))],H8⟩ ZO.f kr ?_))))
   cases h
   exact ⟨_,rfl,kr⟩
  refine kq (xq (tx ?_))
  cases h
  exact ⟨_,rfl,rfl,kr⟩
 rintro e s hq
 rcases bf with c9|c2
 ·dsimp only at h hq
  obtain ⟨rfl,hR⟩:=hq
  obtain rfl:=hR
  refine bx (tq (sq ?_))
  obtain ⟨a1,bi,h⟩:=bs h
  obtain ⟨a0,c0,aV,bC,hH⟩:=HP.newCell hH [iv 0]
  replace hH:HP _ [.cel a0 [iv 0],.cel id7 [iv 0],.cel id5 [bv false],.cel id3 [ZT false a4_],.cel id1 (ZQ a1_)]:=hH
  obtain ⟨a5,bB,hH⟩:=HP.setCell (k:=0) (off:=0) (cs:=[iv 0]) (vs:=[iv a1.1]) (cs':=[iv a1.1]) hH rfl kr
  replace hH:HP _ [.cel a0 [iv a1.1],.cel id7 [iv 0],.cel id5 [bv false],.cel id3 [ZT false a4_],.cel id1 (ZQ a1_)]:=hH
  refine rgS ⟨[(2,ZR false a2_),(3,ZU false a3_),(5,.loc 5 0),(6,.ptr id1 0),(9,.ptr id3 0),(10,.ptr id5 0),(11,.ptr id7 0),(13,iv a1.2),(19,.ptr a0 0)],[(5,(ZP a0_))],a5⟩ (ZO.v 1 (Z7 (hc:=ZgP N ac.1 a1 bi)) (ZO.h 3 (Zcz (H:=H8) kr aV bC) (ZO.o 0 (Zam (H:=c0) (v:=iv a1.1) (hw:=bB)) ZO.f))) kr (tq (sq (sq (rgS ⟨[(2,ZR false a2_),(3,ZU false a3_),(5,.loc 5 0),(6,.ptr id1 0),(9,.ptr id3 0),(10,.ptr id5 0),(11,.ptr id7 0),(13,iv a1.2),(19,.ptr a0 0),(61,bv (a1.2 != 0))],[(5,(ZP a0_))],a5⟩ ZO.f kr (tq (it h (λbp h=>?_) (λbp h=>?_)))))))
  ·refine sq ?_
   obtain ⟨bZ,bA,hH⟩:=HP.setCell (k:=2) (off:=0) (cs:=[bv false]) (vs:=[bv false]) (cs':=[bv false]) hH rfl kr
   replace hH:HP _ [.cel a0 [iv a1.1],.cel id7 [iv 0],.cel id5 [bv false],.cel id3 [ZT false a4_],.cel id1 (ZQ a1_)]:=hH
   obtain ⟨bI,bz,hH⟩:=HP.setCell (k:=1) (off:=0) (cs:=[iv 0]) (vs:=[iv a1.2]) (cs':=[iv a1.2]) hH rfl kr
   replace hH:HP _ [.cel a0 [iv a1.1],.cel id7 [iv a1.2],.cel id5 [bv false],.cel id3 [ZT false a4_],.cel id1 (ZQ a1_)]:=hH
   refine rgS ⟨[(10,.ptr id5 0),(11,.ptr id7 0)],[],bI⟩ (ZO.o 1 (Zam (H:=a5) (v:=bv false) (hw:=bA)) (ZO.o 0 (Zam (H:=bZ) (v:=iv a1.2) (hw:=bz)) ZO.f)) kr ?_
   replace hH:HP _ [.cel id7 [iv a1.2],.cel id5 [bv false]]:=HP.pick hH [1,2] rfl
   refine tq (rt (tr ?_))
   obtain rfl:=Zaa h
   exact Zb8 (H:=bI) (ys:=[bv false,iv a1.2]) (xs:=[bv false,iv a1.2]) kr (Zbz (r:=.cell 10 1 false) (v:=bv false) (Zby (id:=id5) (off:=0) (cs:=[bv false]) (c:=[bv false]) kr (HP.get hH 1 rfl) kr kr) (Zbz (r:=.cell 11 1 false) (v:=iv a1.2) (Zby (id:=id7) (off:=0) (cs:=[iv a1.2]) (c:=[iv a1.2]) kr (HP.get hH 0 rfl) kr kr) Zda)) (ZaA rfl (ZaA rfl Za3)) kr
  refine sk (tq (kq (sq (sq ?_))))
  have aU:=HP.get hH 3 rfl
  refine rgS ⟨[(2,ZR false a2_),(3,ZU false a3_),(5,.loc 5 0),(6,.ptr id1 0),(9,.ptr id3 0),(10,.ptr id5 0),(11,.ptr id7 0),(19,.ptr a0 0),(69,bv (((List.length a4_:Nat):Int)!=(w64 (2*((List.length a0_.Links:Nat):Int)))))],[(5,(ZP a0_))],a5⟩ (ZO.u 0 (ZW (H:=a5) (id:=id3) (off:=0) (cs:=[ZT false a4_]) (c:=[ZT false a4_]) (r:=ZT false a4_) (hl:=aU)) (ZO.u 0 (Z0 (ys:=[ZT false a4_]) (h:=Z6 Zad)) (ZO.u 2 (Z0 (ys:=[ZZ false a0_.Links]) (h:=Z6 ZaB)) ZO.f))) kr (tq (it h (λbm h=>?_) (λbm h=>?_)))
  ·refine sq ?_
   obtain ⟨bY,bw,hH⟩:=HP.setCell (k:=2) (off:=0) (cs:=[bv false]) (vs:=[bv false]) (cs':=[bv false]) hH rfl kr
   replace hH:HP _ [.cel a0 [iv a1.1],.cel id7 [iv 0],.cel id5 [bv false],.cel id3 [ZT false a4_],.cel id1 (ZQ a1_)]:=hH
   obtain ⟨bG,bu,hH⟩:=HP.setCell (k:=1) (off:=0) (cs:=[iv 0]) (vs:=[iv 0]) (cs':=[iv 0]) hH rfl kr
   replace hH:HP _ [.cel a0 [iv a1.1],.cel id7 [iv 0],.cel id5 [bv false],.cel id3 [ZT false a4_],.cel id1 (ZQ a1_)]:=hH
   refine rgS ⟨[(10,.ptr id5 0),(11,.ptr id7 0)],[],bG⟩ (ZO.o 0 (Zam (H:=a5) (v:=bv false) (hw:=bw)) (ZO.o 0 (Zam (H:=bY) (v:=iv 0) (hw:=bu)) ZO.f)) kr ?_
   replace hH:HP _ [.cel id7 [iv 0],.cel id5 [bv false]]:=HP.pick hH [1,2] rfl
   refine tq (rt (tr ?_))
   obtain rfl:=Zaa h
   exact Zb8 (H:=bG) (ys:=[bv false,iv 0]) (xs:=[bv false,iv 0]) kr (Zbz (r:=.cell 10 1 false) (v:=bv false) (Zby (id:=id5) (off:=0) (cs:=[bv false]) (c:=[bv false]) kr (HP.get hH 1 rfl) kr kr) (Zbz (r:=.cell 11 1 false) (v:=iv 0) (Zby (id:=id7) (off:=0) (cs:=[iv 0]) (c:=[iv 0]) kr (HP.get hH 0 rfl) kr kr) Zda)) (ZaA rfl (ZaA rfl Za3)) kr
  refine sk (tq (kq (sq (sq ?_))))
  have aT:=HP.get hH 3 rfl
  refine rgS ⟨[(2,ZR false a2_),(3,ZU false a3_),(5,.loc 5 0),(6,.ptr id1 0),(9,.ptr id3 0),(10,.ptr id5 0),(11,.ptr id7 0),(19,.ptr a0 0),(70,ZT false a4_),(71,iv ((List.length a4_:Nat):Int)),(72,iv 0)],[(5,(ZP a0_))],a5⟩ (ZO.u 0 (ZW (H:=a5) (id:=id3) (off:=0) (cs:=[ZT false a4_]) (c:=[ZT false a4_]) (r:=ZT false a4_) (hl:=aT)) (ZO.u 0 (Z0 (ys:=[ZT false a4_]) (h:=Z6 Zad)) ZO.f)) kr (tq (bk ?_))
  obtain ⟨aG,am,h⟩:=bs h
  refine ZaG ((Zat (λ(x:Int) s=>s=⟨[(2,ZR false a2_),(3,ZU false a3_),(5,.loc 5 0),(6,.ptr id1 0),(9,.ptr id3 0),(10,.ptr id5 0),(11,.ptr id7 0),(19,.ptr a0 0),(70,ZT false a4_),(71,iv ((List.length a4_:Nat):Int)),(72,iv x)],[(5,(ZP a0_))],a5⟩) (λx:Int=>Zc4 N a1_ a4_ a1 x) (λ(p:(Unit)⊕(Bool×Int)) e s=>match p with|(.inl p)=>e=.exit 2/\(s=⟨[(2,ZR false a2_),(3,ZU false a3_),(5,.loc 5 0),(6,.ptr id1 0),(9,.ptr id3 0),(10,.ptr id5 0),(11,.ptr id7 0),(19,.ptr a0 0)],[(5,(ZP a0_))],a5⟩)|(.inr p)=>e=.ret/\∃ xs,resL s i9.res=some xs/\Zbd xs=.tup [bv p.1,iv p.2]) ?_ N _ aG _ am kr).mono ?_)
  ·clear h am
   rintro ag o s h hR
   obtain rfl:=hR
   replace h:Zc4 N a1_ a4_ a1 ag=some o:=h
   unfold Zc4 at h
   refine sq (rgS ⟨[(2,ZR false a2_),(3,ZU false a3_),(5,.loc 5 0),(6,.ptr id1 0),(9,.ptr id3 0),(10,.ptr id5 0),(11,.ptr id7 0),(19,.ptr a0 0),(70,ZT false a4_),(71,iv ((List.length a4_:Nat):Int)),(72,iv ag),(73,bv (decide (ag<((List.length a4_:Nat):Int))))],[(5,(ZP a0_))],a5⟩ ZO.f kr (tq (sq (it h (λb1 h=>?_) (λb1 h=>?_)))))
   ·refine sk (tq (kq (sq (bk (sq ?_)))))
    obtain ⟨af,ao,h⟩:=bs h
    refine rgS ⟨[(2,ZR false a2_),(3,ZU false a3_),(5,.loc 5 0),(6,.ptr id1 0),(9,.ptr id3 0),(10,.ptr id5 0),(11,.ptr id7 0),(19,.ptr a0 0),(21,.loc 21 0),(70,ZT false a4_),(71,iv ((List.length a4_:Nat):Int)),(72,iv ag)],[(5,(ZP a0_)),(21,(ZaN af))],a5⟩ (ZO.u 0 (Z0 (ys:=[ZT false a4_,iv ag]) (h:=ZY Zad ao)) (ZO.u 0 (Zae (sz:=2) (off:=0) (cs:=[.sl 2 false (List.map Z4 af.Entries),.int .i64 af.Cycle]) (r:=.agg (ZaN af)) Zad ao) ZO.f)) kr (tq (sq ?_))
    have aB:=HP.get hH 0 rfl
    have aA:=HP.get hH 4 rfl
    refine rgS ⟨[(2,ZR false a2_),(3,ZU false a3_),(5,.loc 5 0),(6,.ptr id1 0),(9,.ptr id3 0),(10,.ptr id5 0),(11,.ptr id7 0),(19,.ptr a0 0),(70,ZT false a4_),(71,iv ((List.length a4_:Nat):Int)),(72,iv ag),(82,bv (af.Cycle != (w64 (a1.1*a1_.Grid))))],[(5,(ZP a0_))],a5⟩ (ZO.u 2 (ZW (H:=a5) (id:=a0) (off:=0) (cs:=[iv a1.1]) (c:=[iv a1.1]) (r:=iv a1.1) (hl:=aB)) (ZO.u 1 (ZW (H:=a5) (id:=id1) (off:=0) (cs:=(ZQ a1_)) (c:=[iv a1_.Grid]) (r:=iv a1_.Grid) (hl:=aA)) ZO.f)) kr (tq (it h (λb0 h=>?_) (λb0 h=>?_)))
    ·refine sq ?_
     obtain ⟨bM,be,hH⟩:=HP.setCell (k:=2) (off:=0) (cs:=[bv false]) (vs:=[bv false]) (cs':=[bv false]) hH rfl kr
     replace hH:HP _ [.cel a0 [iv a1.1],.cel id7 [iv 0],.cel id5 [bv false],.cel id3 [ZT false a4_],.cel id1 (ZQ a1_)]:=hH
     obtain ⟨aM,bd,hH⟩:=HP.setCell (k:=1) (off:=0) (cs:=[iv 0]) (vs:=[iv 0]) (cs':=[iv 0]) hH rfl kr
     replace hH:HP _ [.cel a0 [iv a1.1],.cel id7 [iv 0],.cel id5 [bv false],.cel id3 [ZT false a4_],.cel id1 (ZQ a1_)]:=hH
     refine rgS ⟨[(10,.ptr id5 0),(11,.ptr id7 0)],[],aM⟩ (ZO.o 0 (Zam (H:=a5) (v:=bv false) (hw:=be)) (ZO.o 0 (Zam (H:=bM) (v:=iv 0) (hw:=bd)) ZO.f)) kr ?_
     replace hH:HP _ [.cel id7 [iv 0],.cel id5 [bv false]]:=HP.pick hH [1,2] rfl
     refine tq (rt (br (tr ?_)))
     obtain rfl:=Zaa h
     exact ⟨_,rfl,rfl,Zb8 (H:=aM) (ys:=[bv false,iv 0]) (xs:=[bv false,iv 0]) kr (Zbz (r:=.cell 10 1 false) (v:=bv false) (Zby (id:=id5) (off:=0) (cs:=[bv false]) (c:=[bv false]) kr (HP.get hH 1 rfl) kr kr) (Zbz (r:=.cell 11 1 false) (v:=iv 0) (Zby (id:=id7) (off:=0) (cs:=[iv 0]) (c:=[iv 0]) kr (HP.get hH 0 rfl) kr kr) Zda)) (ZaA rfl (ZaA rfl Za3)) kr⟩
    refine sk (bn (tq (kq (rgS ⟨[(2,ZR false a2_),(3,ZU false a3_),(5,.loc 5 0),(6,.ptr id1 0),(9,.ptr id3 0),(10,.ptr id5 0),(11,.ptr id7 0),(19,.ptr a0 0),(70,ZT false a4_),(71,iv ((List.length a4_:Nat):Int)),(72,iv (w64 (ag+1)))],[(5,(ZP a0_))],a5⟩ ZO.f kr ?_))))
    cases h
    exact ⟨_,rfl,kr⟩
   refine kq (xq (tx ?_))
   cases h
   exact ⟨_,rfl,rfl,kr⟩
  rintro e s hq
  rcases aG with c6|c3
  ·dsimp only at h hq
   obtain ⟨rfl,hR⟩:=hq
   obtain rfl:=hR
   refine bx (tq (sq (sq ?_)))
   have az:=HP.get hH 4 rfl
   obtain ⟨a4,aR,h⟩:=bs h
   obtain ⟨a9,a8,a7,a6,a3,au,av⟩:=Zfi N a0_ a1_ a2_ a3_ a5 a4 aR
   replace hH:HP _ [.cel a9 [ZR false a4.1],.cel a8 [ZU false a4.2.1],.cel a7 (ZP a4.2.2.1),.cel a6 (ZQ a4.2.2.2),.cel a0 [iv a1.1],.cel id7 [iv 0],.cel id5 [bv false],.cel id3 [ZT false a4_],.cel id1 (ZQ a1_)]:=HP.callee (fp:=[]) (rest:=[.cel a0 [iv a1.1],.cel id7 [iv 0],.cel id5 [bv false],.cel id3 [ZT false a4_],.cel id1 (ZQ a1_)]) hH av
   refine rgS ⟨[(6,.ptr id1 0),(9,.ptr id3 0),(10,.ptr id5 0),(11,.ptr id7 0),(19,.ptr a0 0),(88,.fn 28 [] [.ptr a9 0,.ptr a8 0,.ptr a7 0,.ptr a6 0])],[],a3⟩ (ZO.u 1 (ZW (H:=a5) (id:=id1) (off:=0) (cs:=(ZQ a1_)) (c:=(ZQ a1_)) (r:=.agg (ZQ a1_)) (hl:=az)) (ZO.v 2 (Zc7 (H:=a5) (ys:=[.agg (ZP a0_),.agg (ZQ a1_),ZR false a2_,ZU false a3_]) kr kr kr au) ZO.f)) kr (tq (bk ?_))
   obtain ⟨aD,aS,h⟩:=bs h
   have ar:∀ (a2:ZaI) (s:(Unit)×Nat) (r:((Unit)×Nat)×Bool) (H:List HO) (its:List Zap),(λ(s:(Unit)×Nat) (its:List Zap)=>its=[.cel a0 [iv a1.1],.cel id7 [iv 0],.cel id5 [bv false],.cel id3 [ZT false a4_],.cel id1 (ZQ a1_)]++[.lp (List.length a3) (lcOf Try.prog i9.nt [89] ZfH ZfF) [(6,.ptr id1 0),(9,.ptr id3 0),(10,.ptr id5 0),(11,.ptr id7 0),(19,.ptr a0 0)] (stAt [.ready,.done .ret] s.2)]) s its->HP H its->(λ(s:(Unit)×Nat) (a2:ZaI)=>Zfp (λv:Unit=>Zcm N a1_ a4_ a1 a2) s) s a2=some r->∃ H' its',Zd4 Try.prog (List.length a3) [.agg (Zaq a2)] H r.2 H'/\(λ(s:(Unit)×Nat) (its:List Zap)=>its=[.cel a0 [iv a1.1],.cel id7 [iv 0],.cel id5 [bv false],.cel id3 [ZT false a4_],.cel id1 (ZQ a1_)]++[.lp (List.length a3) (lcOf Try.prog i9.nt [89] ZfH ZfF) [(6,.ptr id1 0),(9,.ptr id3 0),(10,.ptr id5 0),(11,.ptr id7 0),(19,.ptr a0 0)] (stAt [.ready,.done .ret] s.2)]) r.1 its'/\Fp H H' its its':=by
    clear h
    intro a2 s r ad its hT hH h
    obtain ⟨h0,q,hb,rfl⟩:=Zgs h
    clear h
    obtain ⟨vs,e⟩:=s
    obtain rfl:e=0:=h0
    obtain rfl:=hT
    replace h:Zcm N a1_ a4_ a1 a2=some q:=hb
    clear hb
    unfold Zcm at h
    replace hH:Fp _ _ _ [.cel a0 [iv a1.1],.cel id7 [iv 0],.cel id5 [bv false],.cel id3 [ZT false a4_],.cel id1 (ZQ a1_),.lp (List.length a3) (lcOf Try.prog i9.nt [89] ZfH ZfF) [(6,.ptr id1 0),(9,.ptr id3 0),(10,.ptr id5 0),(11,.ptr id7 0),(19,.ptr a0 0)] .ready]:=Fp.refl hH
    suffices hs:∃ H',Zd4 Try.prog (List.length a3) [.agg (Zaq a2)] ad (q.2==0) H'/\∃ its',(λ(s:(Unit)×Nat) (its:List Zap)=>its=[.cel a0 [iv a1.1],.cel id7 [iv 0],.cel id5 [bv false],.cel id3 [ZT false a4_],.cel id1 (ZQ a1_)]++[.lp (List.length a3) (lcOf Try.prog i9.nt [89] ZfH ZfF) [(6,.ptr id1 0),(9,.ptr id3 0),(10,.ptr id5 0),(11,.ptr id7 0),(19,.ptr a0 0)] (stAt [.ready,.done .ret] s.2)]) q its'/\Fp ad H' [.cel a0 [iv a1.1],.cel id7 [iv 0],.cel id5 [bv false],.cel id3 [ZT false a4_],.cel id1 (ZQ a1_),.lp (List.length a3) (lcOf Try.prog i9.nt [89] ZfH ZfF) [(6,.ptr id1 0),(9,.ptr id3 0),(10,.ptr id5 0),(11,.ptr id7 0),(19,.ptr a0 0)] .ready] its' by
     obtain ⟨H',h1,its',h2,h3⟩:=hs
     exact ⟨H',its',h1,h2,h3⟩
    refine ZdV (id:=(List.length a3)) (args:=[.agg (Zaq a2)]) (H:=ad) (n:=i9.nt) (ps:=[89]) (fr0:=[(6,.ptr id1 0),(9,.ptr id3 0),(10,.ptr id5 0),(11,.ptr id7 0),(19,.ptr a0 0)]) (ia:=ZfH) (ib:=ZfF) (q.2==0) (λH'=>∃ its',(λ(s:(Unit)×Nat) (its:List Zap)=>its=[.cel a0 [iv a1.1],.cel id7 [iv 0],.cel id5 [bv false],.cel id3 [ZT false a4_],.cel id1 (ZQ a1_)]++[.lp (List.length a3) (lcOf Try.prog i9.nt [89] ZfH ZfF) [(6,.ptr id1 0),(9,.ptr id3 0),(10,.ptr id5 0),(11,.ptr id7 0),(19,.ptr a0 0)] (stAt [.ready,.done .ret] s.2)]) q its'/\Fp ad H' [.cel a0 [iv a1.1],.cel id7 [iv 0],.cel id5 [bv false],.cel id3 [ZT false a4_],.cel id1 (ZQ a1_),.lp (List.length a3) (lcOf Try.prog i9.nt [89] ZfH ZfF) [(6,.ptr id1 0),(9,.ptr id3 0),(10,.ptr id5 0),(11,.ptr id7 0),(19,.ptr a0 0)] .ready] its') (Fp.get hH 5 rfl) rfl (by decide +kernel) rfl ?_
    show vc _ _ _ _ ⟨[(6,.ptr id1 0),(9,.ptr id3 0),(10,.ptr id5 0),(11,.ptr id7 0),(19,.ptr a0 0),(89,.agg (Zaq a2))],[],ad⟩
    refine rgS ⟨[(6,.ptr id1 0),(9,.ptr id3 0),(10,.ptr id5 0),(11,.ptr id7 0),(19,.ptr a0 0),(22,.loc 22 0)],[(22,(Zaq a2))],ad⟩ ZO.f kr (ZgH (k:=5) hH rfl ?_)
    intro aa hH
    replace hH:Fp _ _ _ [.cel a0 [iv a1.1],.cel id7 [iv 0],.cel id5 [bv false],.cel id3 [ZT false a4_],.cel id1 (ZQ a1_),.lp (List.length a3) (lcOf Try.prog i9.nt [89] ZfH ZfF) [(6,.ptr id1 0),(9,.ptr id3 0),(10,.ptr id5 0),(11,.ptr id7 0),(19,.ptr a0 0)] .busy]:=hH
    show vc _ _ _ _ ⟨[(6,.ptr id1 0),(9,.ptr id3 0),(10,.ptr id5 0),(11,.ptr id7 0),(19,.ptr a0 0),(22,.loc 22 0)],[(22,(Zaq a2))],aa⟩
    refine bk (sq (rgS ⟨[(6,.ptr id1 0),(9,.ptr id3 0),(10,.ptr id5 0),(11,.ptr id7 0),(19,.ptr a0 0),(22,.loc 22 0),(23,iv a2.from_)],[(22,(Zaq a2))],aa⟩ ZO.f kr (tq (bk ?_))))
    obtain ⟨aE,al,h⟩:=bs h
    refine ZaG ((Zat (λ(x:Int) s=>s=⟨[(6,.ptr id1 0),(9,.ptr id3 0),(10,.ptr id5 0),(11,.ptr id7 0),(19,.ptr a0 0),(22,.loc 22 0),(23,iv x)],[(22,(Zaq a2))],aa⟩) (λx:Int=>Zc3 N a1_ a4_ a1 a2 x) (λ(p:(Unit)⊕(Unit)) e s=>match p with|(.inl p)=>e=.exit 6/\(s=⟨[],[],aa⟩)|(.inr p)=>e=.ret/\(∃ (aq:List HO),s=⟨[],[],aq⟩/\Fp ad aq [.cel a0 [iv a1.1],.cel id7 [iv 0],.cel id5 [bv false],.cel id3 [ZT false a4_],.cel id1 (ZQ a1_),.lp (List.length a3) (lcOf Try.prog i9.nt [89] ZfH ZfF) [(6,.ptr id1 0),(9,.ptr id3 0),(10,.ptr id5 0),(11,.ptr id7 0),(19,.ptr a0 0)] .ready] [.cel a0 [iv a1.1],.cel id7 [iv 0],.cel id5 [bv false],.cel id3 [ZT false a4_],.cel id1 (ZQ a1_),.lp (List.length a3) (lcOf Try.prog i9.nt [89] ZfH ZfF) [(6,.ptr id1 0),(9,.ptr id3 0),(10,.ptr id5 0),(11,.ptr id7 0),(19,.ptr a0 0)] .busy])) ?_ N _ aE _ al kr).mono ?_)
    ·clear h al
     rintro ae o s h hR
     obtain rfl:=hR
     replace h:Zc3 N a1_ a4_ a1 a2 ae=some o:=h
     unfold Zc3 at h
     refine sq (sq ?_)
     have ay:=Fp.get hH 0 rfl
     have ax:=Fp.get hH 4 rfl
     refine rgS ⟨[(6,.ptr id1 0),(9,.ptr id3 0),(10,.ptr id5 0),(11,.ptr id7 0),(19,.ptr a0 0),(22,.loc 22 0),(23,iv ae),(100,bv (decide (ae<(w64 (a2.from_+(w64 (a1.1*a1_.Grid)))))))],[(22,(Zaq a2))],aa⟩ (ZO.u 3 (ZW (H:=aa) (id:=a0) (off:=0) (cs:=[iv a1.1]) (c:=[iv a1.1]) (r:=iv a1.1) (hl:=ay)) (ZO.u 1 (ZW (H:=aa) (id:=id1) (off:=0) (cs:=(ZQ a1_)) (c:=[iv a1_.Grid]) (r:=iv a1_.Grid) (hl:=ax)) ZO.f)) kr (tq (it h (λaZ h=>?_) (λaZ h=>?_)))
     ·refine sk (tq (kq (sq (bk (sq ?_)))))
      have aw:=Fp.get hH 3 rfl
      obtain ⟨aj,an,h⟩:=bs h
      obtain ⟨aC,aQ,h⟩:=bs h
      refine rqS ⟨[(6,.ptr id1 0),(9,.ptr id3 0),(10,.ptr id5 0),(11,.ptr id7 0),(19,.ptr a0 0),(22,.loc 22 0),(23,iv ae),(114,bv (!aC))],[(22,(Zaq a2))],aa⟩ (ZO.u 0 (Zaz (ZW (H:=aa) (id:=id3) (off:=0) (cs:=[ZT false a4_]) (c:=[ZT false a4_]) (r:=ZT false a4_) (hl:=aw))) (ZO.u 2 (Z0 (ys:=[ZT false a4_,iv a2.port]) (h:=ZY Zad an)) (ZO.u 0 (Zaz (Zae (sz:=2) (off:=0) (cs:=[.sl 2 false (List.map Z4 aj.Entries),.int .i64 aj.Cycle]) (r:=.agg (ZaN aj)) Zad an)) (ZO.v 3 (Z7 (hc:=Zif N aj ae a2.long aC aQ)) ZO.f)))) kr (tq (it h (λaY h=>?_) (λaY h=>?_)))
      ·refine sq ?_
       obtain ⟨bL,bc,hH⟩:=Fp.setCell (k:=2) (off:=0) (cs:=[bv false]) (vs:=[bv false]) (cs':=[bv false]) hH rfl kr
       replace hH:Fp _ _ _ [.cel a0 [iv a1.1],.cel id7 [iv 0],.cel id5 [bv false],.cel id3 [ZT false a4_],.cel id1 (ZQ a1_),.lp (List.length a3) (lcOf Try.prog i9.nt [89] ZfH ZfF) [(6,.ptr id1 0),(9,.ptr id3 0),(10,.ptr id5 0),(11,.ptr id7 0),(19,.ptr a0 0)] .busy]:=hH
       obtain ⟨aL,bb,hH⟩:=Fp.setCell (k:=1) (off:=0) (cs:=[iv 0]) (vs:=[iv 0]) (cs':=[iv 0]) hH rfl kr
       replace hH:Fp _ _ _ [.cel a0 [iv a1.1],.cel id7 [iv 0],.cel id5 [bv false],.cel id3 [ZT false a4_],.cel id1 (ZQ a1_),.lp (List.length a3) (lcOf Try.prog i9.nt [89] ZfH ZfF) [(6,.ptr id1 0),(9,.ptr id3 0),(10,.ptr id5 0),(11,.ptr id7 0),(19,.ptr a0 0)] .busy]:=hH
       refine rgS ⟨[],[],aL⟩ (ZO.o 0 (Zam (H:=aa) (v:=bv false) (hw:=bc)) (ZO.o 0 (Zam (H:=bL) (v:=iv 0) (hw:=bb)) ZO.f)) kr (tq (rt (br (tr ?_))))
       cases h
       exact ⟨_,rfl,rfl,⟨aL,kr,(Fp.pick hH [0,1,2,3,4,5] rfl)⟩⟩
      refine sk (bn (tq (kq (rgS ⟨[(6,.ptr id1 0),(9,.ptr id3 0),(10,.ptr id5 0),(11,.ptr id7 0),(19,.ptr a0 0),(22,.loc 22 0),(23,iv (w64 (ae+a2.period)))],[(22,(Zaq a2))],aa⟩ ZO.f kr ?_))))
      cases h
      exact ⟨_,rfl,kr⟩
     refine kq (xq (tx ?_))
     cases h
     exact ⟨_,rfl,rfl,kr⟩
    rintro e s hq
    rcases aE with c5|c4
    ·dsimp only at h hq
     obtain ⟨rfl,hR⟩:=hq
     obtain rfl:=hR
     refine bx (bn ?_)
     cases h
     exact rbd (k:=5) (.ready) hH rfl rfl (λH6 hH=>⟨_,(Eq.refl _),(Fp.pick hH [0,1,2,3,4,5] rfl)⟩)
    dsimp only at h hq
    obtain ⟨rfl,hR⟩:=hq
    obtain ⟨aq,rfl,hH⟩:=hR
    replace hH:Fp _ _ _ [.cel a0 [iv a1.1],.cel id7 [iv 0],.cel id5 [bv false],.cel id3 [ZT false a4_],.cel id1 (ZQ a1_),.lp (List.length a3) (lcOf Try.prog i9.nt [89] ZfH ZfF) [(6,.ptr id1 0),(9,.ptr id3 0),(10,.ptr id5 0),(11,.ptr id7 0),(19,.ptr a0 0)] .busy]:=hH
    refine br (br ?_)
    cases h
    exact rbd (k:=5) (.done .ret) hH rfl rfl (λH6 hH=>⟨_,(Eq.refl _),(Fp.pick hH [0,1,2,3,4,5] rfl)⟩)
   refine ZeR (s:=⟨[(6,.ptr id1 0),(9,.ptr id3 0),(10,.ptr id5 0),(11,.ptr id7 0),(19,.ptr a0 0),(88,.fn 28 [] [.ptr a9 0,.ptr a8 0,.ptr a7 0,.ptr a6 0])],[],a3⟩) [(6,.ptr id1 0),(9,.ptr id3 0),(10,.ptr id5 0),(11,.ptr id7 0),(19,.ptr a0 0)] (FrOK.cons kr kr (FrOK.cons kr kr (FrOK.cons kr kr (FrOK.cons kr kr (FrOK.cons kr kr FrOK.nil))))) kr (λH=>rfl) (capT:=[.cel a9 [ZR false a4.1],.cel a8 [ZU false a4.2.1],.cel a7 (ZP a4.2.2.1),.cel a6 (ZQ a4.2.2.2)]) (cells0:=[.cel a0 [iv a1.1],.cel id7 [iv 0],.cel id5 [bv false],.cel id3 [ZT false a4_],.cel id1 (ZQ a1_)]) (rest:=[]) (HP.now (HP.pick hH [0,1,2,3,4,5,6,7,8] rfl)) (λ(s:(Unit)×Nat) (its:List Zap)=>its=[.cel a0 [iv a1.1],.cel id7 [iv 0],.cel id5 [bv false],.cel id3 [ZT false a4_],.cel id1 (ZQ a1_)]++[.lp (List.length a3) (lcOf Try.prog i9.nt [89] ZfH ZfF) [(6,.ptr id1 0),(9,.ptr id3 0),(10,.ptr id5 0),(11,.ptr id7 0),(19,.ptr a0 0)] (stAt [.ready,.done .ret] s.2)]) ((),0) aD (by exact (Eq.refl _)) (λH its hT hH=>Zd8 N (λ(s:(Unit)×Nat) (a2:ZaI)=>Zfp (λv:Unit=>Zcm N a1_ a4_ a1 a2) s) a4.1 a4.2.1 a4.2.2.1 a4.2.2.2 ((),0) a9 a8 a7 a6 (List.length a3) (λ(s:(Unit)×Nat) (its:List Zap)=>its=[.cel a0 [iv a1.1],.cel id7 [iv 0],.cel id5 [bv false],.cel id3 [ZT false a4_],.cel id1 (ZQ a1_)]++[.lp (List.length a3) (lcOf Try.prog i9.nt [89] ZfH ZfF) [(6,.ptr id1 0),(9,.ptr id3 0),(10,.ptr id5 0),(11,.ptr id7 0),(19,.ptr a0 0)] (stAt [.ready,.done .ret] s.2)]) ar H its hT hH aD aS) ?_
   rintro its hT
   obtain rfl:=hT
   refine ⟨_,_,rfl,?_⟩
   intro ak hF
   replace hH:HP _ [.cel a9 [ZR false a4.1],.cel a8 [ZU false a4.2.1],.cel a7 (ZP a4.2.2.1),.cel a6 (ZQ a4.2.2.2),.cel a0 [iv a1.1],.cel id7 [iv 0],.cel id5 [bv false],.cel id3 [ZT false a4_],.cel id1 (ZQ a1_)]:=HP.after (HP.pick hH [0,1,2,3,4,5,6,7,8] rfl) hF
   rcases Zau h with ⟨aX,h⟩|⟨_,h⟩
   ·refine Zho (S:=⟨[(6,.ptr id1 0),(9,.ptr id3 0),(10,.ptr id5 0),(11,.ptr id7 0),(19,.ptr a0 0),(88,.fn 28 [] [.ptr a9 0,.ptr a8 0,.ptr a7 0,.ptr a6 0])],[],ak⟩) (e:=.normal) aX rfl (bn (tq (kq ?_)))
    replace hH:HP _ [.cel id7 [iv 0],.cel id5 [bv false]]:=HP.pick hH [5,6] rfl
    refine sq ?_
    obtain ⟨bK,ba,hH⟩:=HP.setCell (k:=1) (off:=0) (cs:=[bv false]) (vs:=[bv true]) (cs':=[bv true]) hH rfl kr
    replace hH:HP _ [.cel id7 [iv 0],.cel id5 [bv true]]:=hH
    obtain ⟨aK,b2,hH⟩:=HP.setCell (k:=0) (off:=0) (cs:=[iv 0]) (vs:=[iv 0]) (cs':=[iv 0]) hH rfl kr
    replace hH:HP _ [.cel id7 [iv 0],.cel id5 [bv true]]:=hH
    refine rgS ⟨[(10,.ptr id5 0),(11,.ptr id7 0)],[],aK⟩ (ZO.o 0 (Zam (H:=ak) (v:=bv true) (hw:=ba)) (ZO.o 0 (Zam (H:=bK) (v:=iv 0) (hw:=b2)) ZO.f)) kr (tq (rt ?_))
    obtain rfl:=Zaa h
    exact Zb8 (H:=aK) (ys:=[bv true,iv 0]) (xs:=[bv true,iv 0]) kr (Zbz (r:=.cell 10 1 false) (v:=bv true) (Zby (id:=id5) (off:=0) (cs:=[bv true]) (c:=[bv true]) kr (HP.get hH 1 rfl) kr kr) (Zbz (r:=.cell 11 1 false) (v:=iv 0) (Zby (id:=id7) (off:=0) (cs:=[iv 0]) (c:=[iv 0]) kr (HP.get hH 0 rfl) kr kr) Zda)) (ZaA rfl (ZaA rfl Za3)) kr
   rcases Zau h with ⟨aW,h⟩|⟨_,h⟩
   ·refine Zho (S:=⟨[(6,.ptr id1 0),(9,.ptr id3 0),(10,.ptr id5 0),(11,.ptr id7 0),(19,.ptr a0 0),(88,.fn 28 [] [.ptr a9 0,.ptr a8 0,.ptr a7 0,.ptr a6 0])],[],ak⟩) (e:=.ret) aW rfl (br (tr ?_))
    obtain rfl:=Zaa h
    exact Zb8 (H:=ak) (ys:=[bv false,iv 0]) (xs:=[bv false,iv 0]) kr (Zbz (r:=.cell 10 1 false) (v:=bv false) (Zby (id:=id5) (off:=0) (cs:=[bv false]) (c:=[bv false]) kr (HP.get hH 6 rfl) kr kr) (Zbz (r:=.cell 11 1 false) (v:=iv 0) (Zby (id:=id7) (off:=0) (cs:=[iv 0]) (c:=[iv 0]) kr (HP.get hH 5 rfl) kr kr) Zda)) (ZaA rfl (ZaA rfl Za3)) kr
   cases h
  dsimp only at h hq
  obtain ⟨rfl,hq⟩:=hq
  refine br (tr ?_)
  cases h
  exact hq
 dsimp only at h hq
 obtain ⟨rfl,hq⟩:=hq
 refine br (tr ?_)
 cases h
 exact hq
theorem Zgo (N:Nat)(r:Bool)(h:ZgF N=some r):PCall Try.prog 11 [] (bv r):=by
 unfold ZgF at h
 have hH  := hp0
 refine Zal ZAQ rfl rfl (Z5 _ _ _ ?_) rfl
 refine sq (rg ZO.f (tq (sq ?_)))
 obtain ⟨r1,hr1,h⟩:=bs h
 obtain ⟨r2,hr2,h⟩:=bs h
 obtain ⟨r3,hr3,h⟩:=bs h
 refine rg (ZO.v 0 (Z7 (hc:=ZgV N  r1 hr1)) (ZO.v 0 (Z7 (hc:=Zgp N  r2 hr2)) (ZO.v 0 (Z7 (hc:=ZaF N 1 20 r3 hr3)) ZO.f))) (tq (sq ?_))
 obtain ⟨r4,hr4,h⟩:=bs h
 refine rg (ZO.v 4 (Z7 (hc:=Zbr N r1 r2 ([r3]) ([15]) r4 hr4)) ZO.f) (tq (sq ?_))
 obtain ⟨r5,hr5,h⟩:=bs h
 obtain ⟨r6,hr6,h⟩:=bs h
 obtain ⟨r7,hr7,h⟩:=bs h
 obtain ⟨r8,hr8,h⟩:=bs h
 refine rg (ZO.v 1 (Z7 (hc:=Zbj N ([128,300,127,1200,128,500]) r5 hr5)) (ZO.v 1 (Z7 (hc:=Zbj N ([127,2000]) r6 hr6)) (ZO.v 1 (Z7 (hc:=Zbj N ([127,400,128,800,127,800]) r7 hr7)) (ZO.v 1 (Z7 (hc:=Zbj N ([127,2000]) r8 hr8)) ZO.f)))) (tq (sq ?_))
 obtain ⟨r9,hr9,h⟩:=bs h
 refine rg (ZO.v 4 (Z7 (hc:=Zbr N r1 r2 ([r3]) ([20]) r9 hr9)) ZO.f) (tq (sq ?_))
 obtain ⟨ax,ap,h⟩:=bs h
 obtain ⟨aw,ao,h⟩:=bs h
 obtain ⟨a9,an,h⟩:=bs h
 refine rq (ZO.u 2 (Zbl (hc:=ZaF N 1 40 ax ap)) (ZO.u 0 (Zbl (hc:=ZaF N 2 40 aw ao)) (ZO.v 2 (Z7 (hc:=Zbr N r1 r2 ([ax,aw]) ([0,1]) a9 an)) ZO.f))) (tq (sq (sq ?_)))
 obtain ⟨aA,hj,h⟩:=bs h
 refine rgR (λs=>s=⟨[(1,.loc 1 0),(2,.loc 2 0),(3,ZR true [r3]),(4,ZT false r4.1),(8,iv r9.2),(10,iv a9.2),(63,bv aA)],[(1,(ZP r1)),(2,(ZQ r2))],[]⟩) ?_ ?_
 ·clear h
  rcases Zau hj with ⟨av,hj⟩|⟨au,hj⟩
  ·obtain rfl:=Zaa hj
   exact (EP.u 1 (ZX (c:=(r4.2 != 0)) (h:=av)) (EP.f kr))
  refine (EP.u 1 (ZX (c:=(r4.2 != 0)) (h:=au)) ?_)
  obtain ⟨ay,am,hj⟩:=bs hj
  obtain rfl:=Zaa hj
  exact (EP.v 3 (Z7 (hc:=ZdH N r4.1 ([r5,r6,r7,r8]) ay am)) (EP.f kr))
 clear hj
 rintro s hR
 obtain rfl:=hR
 refine tq (it h (λar h=>?_) (λar h=>?_))
 ·refine sq (rg ZO.f (tq (rt (tr ?_))))
  cases h
  exact Zab kr
 refine sk (tq (kq (sq ?_)))
 obtain ⟨a5,al,h⟩:=bs h
 refine rg (ZO.v 5 (Z7 (hc:=Zbh N r1 r2 ([r3]) ([15]) r4.1 a5 al)) ZO.f) (tq (sq ?_))
 obtain ⟨a4,ak,h⟩:=bs h
 refine rg (ZO.v 5 (Z7 (hc:=Zbh N r1 r2 ([r3]) ([14]) r4.1 a4 ak)) ZO.f) (tq (sq ?_))
 obtain ⟨az,aq,h⟩:=bs h
 obtain ⟨a8,aj,h⟩:=bs h
 refine rq (ZO.u 5 (Z0 (ys:=[ZT false r4.1,iv 3]) (h:=Zdw Zad aq)) (ZO.v 0 (Z7 (hc:=Zbh N r1 r2 ([r3]) ([15]) az a8 aj)) ZO.f)) (tq (sq (rgX ⟨[(0,bv ((r9.2==2)&&((a9.2==380)&&(a5.1&&((a5.2==0)&&((!a4.1)&&((a4.2==0)&&((!a8.1)&&(a8.2==0)))))))))],[],[]⟩ ?_ ?_)))
 ·rcases Bool.eq_false_or_eq_true (r9.2==2) with a0|aa
  ·refine (EP.u 1 (ZX (c:=(r9.2==2)) (h:=a0)) ?_)
   rcases Bool.eq_false_or_eq_true (a9.2==380) with a1|ab
   ·refine (EP.u 2 (ZX (c:=(a9.2==380)) (h:=a1)) ?_)
    rcases Bool.eq_false_or_eq_true a5.1 with a2|ac
    ·refine (EP.u 2 (ZX (c:=a5.1) (h:=a2)) ?_)
     rcases Bool.eq_false_or_eq_true (a5.2==0) with a3|ad
     ·refine (EP.u 3 (ZX (c:=(a5.2==0)) (h:=a3)) ?_)
      rcases Bool.eq_false_or_eq_true (!a4.1) with a6|ae
      ·refine (EP.u 3 (ZX (c:=(!a4.1)) (h:=a6)) ?_)
       rcases Bool.eq_false_or_eq_true (a4.2==0) with a7|af
       ·refine (EP.u 3 (ZX (c:=(a4.2==0)) (h:=a7)) ?_)
        rcases Bool.eq_false_or_eq_true (!a8.1) with ai|ag
        ·exact (EP.u 3 (ZX (c:=(!a8.1)) (h:=ai)) (EP.f (by simp only [a0,a1,a2,a3,a6,a7,ai];kernel_rfl)))
        exact (EP.u 3 (ZX (c:=(!a8.1)) (h:=ag)) (EP.f (by simp only [a0,a1,a2,a3,a6,a7,ag];kernel_rfl)))
       exact (EP.u 3 (ZX (c:=(a4.2==0)) (h:=af)) (EP.f (by simp only [a0,a1,a2,a3,a6,af];kernel_rfl)))
      exact (EP.u 3 (ZX (c:=(!a4.1)) (h:=ae)) (EP.f (by simp only [a0,a1,a2,a3,ae];kernel_rfl)))
     exact (EP.u 3 (ZX (c:=(a5.2==0)) (h:=ad)) (EP.f (by simp only [a0,a1,a2,ad];kernel_rfl)))
    exact (EP.u 2 (ZX (c:=a5.1) (h:=ac)) (EP.f (by simp only [a0,a1,ac];kernel_rfl)))
   exact (EP.u 2 (ZX (c:=(a9.2==380)) (h:=ab)) (EP.f (by simp only [a0,ab];kernel_rfl)))
  exact (EP.u 1 (ZX (c:=(r9.2==2)) (h:=aa)) (EP.f (by simp only [aa];kernel_rfl)))
 refine tq (rt ?_)
 cases h
 exact Zab kr
end Go.Sh

